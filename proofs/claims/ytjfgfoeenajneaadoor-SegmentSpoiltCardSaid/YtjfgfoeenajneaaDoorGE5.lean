/- What both readers answer, in one form for a segment and for a fault. SegmentSpoilt: nine right segments, each byte turned into each number: both readers say the same. -/
import Derived.Test.YtjfgfoeenajneaaDoorGE4
import Derived.Test.YtjfgfoeenajneaaDoorGC9
import Derived.Test.YtjfgfoeenajneaaDoorGC8
import Derived.Test.YtjfgfoeenajneaaDoorGD2
namespace Go.Proofs.YtjfgfoeenajneaaDoor.Sg
open Go.RowKit

def ansR : Read → SegM | .fault _ _ => SegM.none_ | .seg m => m
def codeR : Read → Int | .fault c _ => (c : Int) | .seg _ => 0
def placeR : Read → Int | .fault _ p => p | .seg _ => 0
theorem readM_nz {f : List UInt8} {p q : Int} {c : Nat} (h : readM f p = .fault c q) : c ≠ 0 := by
  unfold readM at h
  split at h
  · injection h with h; omega
  split at h
  · injection h with h; omega
  split at h
  · injection h with h; omega
  split at h
  · injection h with h; omega
  split at h
  · rename_i h9; injection h with h; omega
  split at h
  · injection h with h; omega
  split at h
  · injection h with h; omega
  split at h
  · injection h with h; omega
  split at h
  · injection h with h; omega
  split at h
  · rename_i e he
    injection h with h
    rw [← h]
    exact contM_nz he
  · cases h
theorem none_ok : SegOk SegM.none_ ∧ (∀ h ∈ SegM.none_.huffs, h.vals.length ≤ 16777216) ∧ ∀ p ∈ SegM.none_.parts, p.comp = 0 :=
  ⟨ok_none 0 (by decide) 0 0, fun _ h => (by cases h), fun _ h => (by cases h)⟩
theorem ansR_ok {f : List UInt8} {p : Int} {r : Read} (h : readM f p = r) (hf : f.length ≤ 16777216) : SegOk (ansR r) ∧ (∀ h ∈ (ansR r).huffs, h.vals.length ≤ 16777216) ∧ ∀ p ∈ (ansR r).parts, p.comp = 0 := by
  cases r with
  | fault c q => exact none_ok
  | seg m =>
    obtain ⟨h1, h2, h3⟩ := read_ok h hf
    exact ⟨h1, fun x hx => Nat.le_trans (h2 x hx) hf, h3⟩
theorem own_nil (u : World) (base : Nat) (e : TypeId) (z : Nat) : u.ownsRow base e z nilS 0 [] := ⟨by simp, .inl ⟨rfl, rfl⟩⟩
theorem lists_none (u : World) (base : Nat) : ListsL base u SegM.none_ nilS nilS nilS nilS nilS :=
  ⟨own_nil u base _ _, ⟨[], rfl, own_nil u base _ _, fun _ h => (by cases h)⟩, own_nil u base _ _, own_nil u base _ _, own_nil u base _ _⟩
theorem lists_one {base : Nat} {u : World} {m : SegM} {vq vh vc vp vi : Value} (h : ListsL base u m vq vh vc vp vi) : (segC m vq vh vc vp vi).all (·.oneCell') = true :=
  one13 _ _ _ _ _ _ (own_one h.q) (by obtain ⟨_, _, h9, _⟩ := h.h; exact own_one h9) (own_one h.c) (own_one h.p) (own_one h.i)
/-- the document's reader -/
def ReadDU (r : Read) (w : World) (e : Ending) (w' : World) : Prop :=
  Below w.heap.size w w' ∧ ∃ vq vh vc vp vi, e = .returned (.tuple #[.agg (segC (ansR r) vq vh vc vp vi), .agg #[.int .i64 (codeR r), .int .i64 (placeR r)]]) ∧ ListsL w.heap.size w' (ansR r) vq vh vc vp vi
theorem readD_u (f : List UInt8) (p : Int) (r : Read) (w : World) (hr : readM f p = r) (hl : f.length ≤ 16777216) (hp1 : -9223372036854775808 ≤ p) (hp2 : p ≤ 9223372036854775807) :
    Calls Tryd.prog 18 #[.string (Bs f), .int .i64 p] w (ReadDU r w) := by
  refine (readD_any f p w hl hp1 hp2).mono ?_
  rw [hr]
  rintro e w' ⟨hb, h⟩
  refine ⟨hb, ?_⟩
  cases r with
  | fault c q => exact ⟨_, _, _, _, _, h, lists_none _ _⟩
  | seg m => exact h
/-- the error that the program's reader answers -/
def EvAt (r : Read) (ev : Value) (u : World) : Prop := match r with
  | .fault c p => c ≠ 0 ∧ ∃ g, ev = .iface 105 (.pointer (some ⟨g, 0, none⟩)) ∧ Blk u g 44 #[.int .i64 (c : Int), .int .i64 p]
  | .seg _ => ev = .nilIface
theorem EvAt.below {r : Read} {ev : Value} {u u' : World} (h : EvAt r ev u) (hb : Below u.heap.size u u') : EvAt r ev u' := by
  cases r with
  | fault c p =>
    obtain ⟨h1, g, h2, h3⟩ := h
    exact ⟨h1, g, h2, h3.kept hb⟩
  | seg m => exact h
theorem EvAt.one {r : Read} {ev : Value} {u : World} (h : EvAt r ev u) : ev.oneCell' = true := by
  cases r with
  | fault c p =>
    obtain ⟨h1, g, rfl, h3⟩ := h
    rfl
  | seg m =>
    have h : ev = .nilIface := h
    rw [h]; rfl
def ReadU (r : Read) (w : World) (e : Ending) (w' : World) : Prop :=
  Below w.heap.size w w' ∧ ∃ vq vh vc vp vi ev, e = .returned (.tuple #[.agg (segC (ansR r) vq vh vc vp vi), ev]) ∧ ListsL w.heap.size w' (ansR r) vq vh vc vp vi ∧ EvAt r ev w'
theorem read_u (f : List UInt8) (p : Int) (r : Read) (w : World) (hev : ErrT w) (hr : readM f p = r) (hl : f.length ≤ 16777216) (hp1 : -9223372036854775808 ≤ p) (hp2 : p ≤ 9223372036854775807) :
    Calls Tryd.prog 14 #[.string (Bs f), .int .i64 p] w (ReadU r w) := by
  refine (read_any f p w hev hl hp1 hp2).mono ?_
  rw [hr]
  rintro e w' ⟨hb, h⟩
  refine ⟨hb, ?_⟩
  cases r with
  | fault c q =>
    obtain ⟨g, h1, _, h2⟩ := h
    exact ⟨_, _, _, _, _, _, h1, lists_none _ _, readM_nz hr, g, rfl, h2⟩
  | seg m =>
    obtain ⟨vq, vh, vc, vp, vi, h1, h2⟩ := h
    exact ⟨vq, vh, vc, vp, vi, _, h1, h2.loose, rfl⟩
theorem told_u (r : Read) (ev : Value) (w : World) (hev : ErrT w) (h : EvAt r ev w) :
    Calls Tryd.prog 16 #[ev] w fun e w' => e = .returned (.tuple #[.agg #[.int .i64 (codeR r), .int .i64 (placeR r)], .bool true]) ∧ Below w.heap.size w w' := by
  cases r with
  | fault c p =>
    obtain ⟨h1, g, rfl, h3⟩ := h
    exact told_fault c p g w hev h3 (by omega)
  | seg m =>
    have h : ev = .nilIface := h
    rw [h]
    exact told_nil w
theorem same_u (m : SegM) (vq vh vc vp vi vq' vh' vc' vp' vi' : Value) (w : World) (h1 : SegAt w m vq vh vc vp vi) (h2 : SegAt w m vq' vh' vc' vp' vi') (hok : SegOk m) (hp : ∀ p ∈ m.parts, p.comp = 0) :
    Calls Tryd.prog 13 #[.agg (segC m vq vh vc vp vi), .agg (segC m vq' vh' vc' vp' vi')] w fun e w' => e = .returned (.bool true) ∧ Below w.heap.size w w' :=
  same_true m vq vh vc vp vi vq' vh' vc' vp' vi' w h1 h2 hok (fun p hp' => by rw [hp p hp']; rfl)
theorem Blk.farRow {w : World} {g s : Nat} {t : TypeId} {cs : Array Value} (h : Blk w g t cs) (hne : g ≠ s) (ds : Array Value) : Blk (w.setRow s ds) g t cs :=
  ((grown_row (a := w) (r := some s) (grown_of_below (Below.refl _ _) _) (.inr rfl) ds).block g h.lt (fun e => hne (by injection e))).trans h
end Go.Proofs.YtjfgfoeenajneaaDoor.Sg
namespace Go.Proofs.YtjfgfoeenajneaaDoor.Sg
open Go.RowKit

section
variable {P : Program} {ops : Array Oper} {qs : List FuncId} {I : World → Prop}
theorem run_add5 {K : Act → World → Prop} {o : Oper} {rest : List Oper} {a : Act} {w : World} {x y : List UInt8} {p q : Operand} {t t' : TypeId} (hc : Lex5.cls qs o = 0) (hw : Region.wanted o (yielded ops a.tmps) = true)
    (ho : o.op = .binOp .add t p q t') (hx : a.eval p = .string (Bs x)) (hy : a.eval q = .string (Bs y)) (hl : x.length + y.length ≤ 9223372036854775807)
    (h : Lex5.Run P ops qs I K rest (a.put o.dst (.string (Bs (x ++ y)))) w) : Lex5.Run P ops qs I K (o :: rest) a w := by
  refine Lex5.run_free hc hw (v := .string (Bs (x ++ y))) (fun u => ?_) h
  unfold execOp
  rw [ho]
  simp only [hx, hy, binOp_string_add]
  have := run_add_Bs P x y u hl
  simp [eqGuard, this]
end
theorem OwnB.lit1 (w : World) (a : Nat) (ha : a < 256) : OwnB (w.alloc (.cells #[.int .u8 (a : Int)] 5)) w.heap.size (.slice (some ⟨w.heap.size, 0, none⟩) 1 1) [UInt8.ofNat a] := by
  have h := World.ownsRow_lit (base := w.heap.size) (e := 5) (size := 1) w #[.int .u8 (a : Int)] 1 (Nat.le_refl _) (by decide) rfl
  have h2 : (#[.int .u8 (a : Int)] : Array Value).toList = u8s (nats [UInt8.ofNat a]) := by
    unfold u8s nats
    simp
    omega
  rw [h2] at h
  exact h
set_option maxRecDepth 100000 in
set_option maxHeartbeats 16000000 in
theorem segSpoilt_law (w : World) (hev : ErrT w) :
    Calls Tryd.prog 6 #[] w fun e w' => e = .returned (.bool true) ∧ Below w.heap.size w w' := by
  go_enter Tryd.func6, Tryd.ntmps6
  have HAW := Lib.hid (awake_any w hev)
  go_wp2_with fail
  refine HAW.out.mono ?_
  rintro e w1 ⟨rfl, hb1⟩
  have hev1 := hev.below hb1
  have HBA := Lib.hid (bases_any w1)
  clear HAW hev
  go_wp2_with fail
  refine HBA.out.mono ?_
  rintro e w2 ⟨kc, rfl, hB2, hb⟩
  have hb2 := below_then hb1 hb
  have hev2 := hev1.below hb
  clear HBA hb1 hb hev1
  generalize w1.heap.size = b at hB2 ⊢
  have hlen : basesL.length = 9 := rfl
  have hbl := bases_len
  generalize basesL = L at hlen hbl hB2
  have HL := Lib.hid (And.intro hlen (And.intro hbl hB2)); clear hlen hbl hB2
  have HEV := Lib.hid (And.intro hev2 hb2); clear hev2 hb2
  go_upto_region 4 with fail
  go_loopw [3] (fun i wr => ∃ k : Nat, k ≤ 9 ∧ i = .int .i64 k ∧ Below w2.heap.size w2 wr) (fun i _ => 9 - (intOf i).toNat)
  case atStart => exact ⟨0, by omega, rfl, Below.refl _ _⟩
  case round =>
    obtain ⟨k, hk, rfl, hbr⟩ := hrel
    by_cases hlt : k < 9
    · obtain ⟨x, hx⟩ : ∃ x, L[k]? = some x := ⟨L[k]'(by rw [HL.out.1]; exact hlt), List.getElem?_eq_getElem _⟩
      have hxl := HL.out.2.1 x (List.mem_of_getElem? hx)
      have d : w2.cell? ⟨b, k, none⟩ = some (.string (Bs x)) := by rw [HL.out.2.2.cell, List.getElem?_toArray, List.getElem?_map, hx]; rfl
      have hsx : (Bs x).size = x.length := Bs_size x
      generalize hm : x.length = m at *
      clear hx
      have HM := Lib.hid hm; clear hm
      go_upto_region 7 with fail
      go_loopw [4] (fun j wj => ∃ q : Nat, 1 ≤ q ∧ q ≤ 40 ∧ j = .int .i64 q ∧ Below w2.heap.size w2 wj) (fun j _ => 40 - (intOf j).toNat)
      case atStart => exact ⟨1, by omega, by omega, rfl, hbr⟩
      clear hbr
      case round =>
        obtain ⟨q, hq1, hq2, rfl, hbj⟩ := hrel
        have dj := below_cell hbj d
        by_cases hl1 : q < m
        · by_cases hl2 : q < 40
          · have hcA : (Bs x).extract 0 q = Bs (x.take q) := by rw [Bs_cut]; simp
            have hcB : (Bs x).extract (q + 1) m = Bs (x.drop (q + 1)) := by rw [Bs_cut, List.take_of_length_le (by rw [List.length_drop, HM.out]; exact Nat.le_refl _)]
            obtain ⟨q1, hqe⟩ : ∃ q1, q + 1 = q1 := ⟨_, rfl⟩
            rw [hqe] at hcB
            have HC := Lib.hid (And.intro hcA (And.intro hcB hqe)); clear hcA hcB hqe
            have hd40 : decide ((q : Int) < 40) = true := by simp; omega
            go_upto_region 10 with fail
            try simp only [hd40]
            clear dj hd40
            go_loopw [5] (fun v wv => ∃ n : Nat, n ≤ 256 ∧ v = .int .i64 n ∧ Below w2.heap.size w2 wv) (fun v _ => 256 - (intOf v).toNat)
            case atStart => exact ⟨0, by omega, rfl, hbj⟩
            clear hbj
            case round =>
              obtain ⟨n, hn, rfl, hbv⟩ := hrel
              have dv := below_cell hbv d
              by_cases hlt3 : n < 256
              · have hcA := HC.out.1
                have hcB := HC.out.2.1
                have hu8 : IntKind.u8.wrap (n : Int) = (n : Int) := by rw [IntKind.wrap_u8']; omega
                have hwq : IntKind.i64.wrap ((q : Int) + 1) = (q1 : Int) := by have := HC.out.2.2; rw [IntWalk.i64_in _ (by omega)]; omega
                have hqm : (q1 : Int) ≤ (m : Int) := by have := HC.out.2.2; omega
                have hqm2 : (q : Int) ≤ (m : Int) := by omega
                have hkl : (k : Int) < 9 := by omega
                have hk0 : 0 ≤ (k : Int) := by omega
                have hq0 : 0 ≤ (q : Int) := by omega
                have hq01 : 0 ≤ (q1 : Int) := by omega
                have hxt : (x.take q).length ≤ 200 := by rw [List.length_take, HM.out]; omega
                have hxd : (x.drop q1).length ≤ 200 := by rw [List.length_drop, HM.out]; omega
                go_upto_region 12 with fail
                refine Lex5.wp_region_lex [] (fun u => u.cell? ⟨b, k, none⟩ = some (.string (Bs x))) (fun u n h => h) dv (by kernel_rfl) (by kernel_rfl) ?_
                try simp only [Act.put, zA, zB, zC]
                iterate 3 (refine Lex5.run_free (v := ?_) (by rfl) (by rfl) (fun u => ?_) ?_; rotate_left; (go_simp; try with_reducible rfl); simp only [Act.put, zA, zB, zC])
                refine Lex5.run_load (v := ?_) (by rfl) (by rfl) (fun u hu => ?_) ?_; rotate_left; (have hu0 : u.cell? ⟨b, k, none⟩ = some (.string (Bs x)) := hu; go_simp; try with_reducible rfl); simp only [Act.put, zA, zB, zC]
                refine Lex5.run_free (v := ?_) (by rfl) (by rfl) (fun u => ?_) ?_; rotate_left; (go_simp; try with_reducible rfl); simp only [Act.put, zA, zB, zC]
                refine Lex5.run_free (v := .string (Bs (x.take q))) (by rfl) (by rfl) (fun u => ?_) ?_; (go_simp; try rw [hcA]); simp only [Act.put, zA, zB, zC]
                refine Lex5.run_free (v := ?_) (by rfl) (by rfl) (fun u => ?_) ?_; rotate_left; (go_simp; try with_reducible rfl); simp only [Act.put, zA, zB, zC]
                refine Lex5.run_eff (by rfl) (by rfl) (fun n1 K1 hK1 => ?_)
                go_simp
                have hJ1 : (wr.drewN (1 + n1)).cell? ⟨b, k, none⟩ = some (.string (Bs x)) := dv
                refine hK1 _ _ hJ1 ?_
                have hbd1 : Below w2.heap.size w2 (wr.drewN (1 + n1)) := below_drewN hbv (1 + n1)
                clear hK1 K1
                generalize wr.drewN (1 + n1) = W1 at hJ1 hbd1 ⊢
                try simp only [Act.put, zA, zB, zC]
                refine Lex5.run_eff (by rfl) (by rfl) (fun n2 K2 hK2 => ?_)
                go_simp
                have hbd2 : Below w2.heap.size w2 ((W1.drewN n2).alloc (.cells #[.int .u8 (n : Int)] 5)) := (below_drewN hbd1 n2).alloc (below_drewN hbd1 n2).size _
                have hJ2 : ((W1.drewN n2).alloc (.cells #[.int .u8 (n : Int)] 5)).cell? ⟨b, k, none⟩ = some (.string (Bs x)) := below_cell hbd2 d
                have ho2 : OwnB ((W1.drewN n2).alloc (.cells #[.int .u8 (n : Int)] 5)) W1.heap.size (.slice (some ⟨W1.heap.size, 0, none⟩) 1 1) [UInt8.ofNat n] := OwnB.lit1 (W1.drewN n2) n hlt3
                refine hK2 _ _ hJ2 ?_
                clear hK2 K2 hJ1 hbd1
                generalize (W1.drewN n2).alloc (.cells #[.int .u8 (n : Int)] 5) = W2 at hJ2 hbd2 ho2 ⊢
                generalize Value.slice (some ⟨W1.heap.size, 0, none⟩) 1 1 = vv at ho2 ⊢
                try simp only [Act.put, zA, zB, zC]
                refine Lex5.run_eff (by rfl) (by rfl) (fun n3 K3 hK3 => ?_)
                have ho3 := ho2.drewd n3
                have hJ3 : (W2.drewN n3).cell? ⟨b, k, none⟩ = some (.string (Bs x)) := hJ2
                have hbd3 := below_drewN hbd2 n3
                clear ho2 hJ2 hbd2
                generalize W2.drewN n3 = W3 at ho3 hJ3 hbd3 ⊢
                refine wp_conv (.tmp 49) (by rfl) vv (by rfl) [UInt8.ofNat n] (conv_own ho3) ?_
                refine hK3 _ _ hJ3 ?_
                clear hK3 K3 ho3
                try simp only [Act.put, zA, zB, zC]
                refine run_add5 (by rfl) (by rfl) rfl rfl rfl (by simp only [List.length_cons, List.length_nil]; omega) ?_; simp only [Act.put, zA, zB, zC]
                iterate 3 (refine Lex5.run_free (v := ?_) (by rfl) (by rfl) (fun u => ?_) ?_; rotate_left; (go_simp; try with_reducible rfl); simp only [Act.put, zA, zB, zC])
                refine Lex5.run_load (v := ?_) (by rfl) (by rfl) (fun u hu => ?_) ?_; rotate_left; (have hu0 : u.cell? ⟨b, k, none⟩ = some (.string (Bs x)) := hu; go_simp; try with_reducible rfl); simp only [Act.put, zA, zB, zC]
                iterate 2 (refine Lex5.run_free (v := ?_) (by rfl) (by rfl) (fun u => ?_) ?_; rotate_left; (go_simp; try with_reducible rfl); simp only [Act.put, zA, zB, zC])
                refine Lex5.run_free (v := .string (Bs (x.drop q1))) (by rfl) (by rfl) (fun u => ?_) ?_; (go_simp; try rw [hcB]); simp only [Act.put, zA, zB, zC]
                refine run_add5 (by rfl) (by rfl) rfl rfl rfl (by simp only [List.length_append, List.length_cons, List.length_nil]; omega) ?_; simp only [Act.put, zA, zB, zC]
                refine Lex5.run_free (v := ?_) (by rfl) (by rfl) (fun u => ?_) ?_; rotate_left; (go_simp; try with_reducible rfl); simp only [Act.put, zA, zB, zC]

                refine Lex5.run_nil (fun n4 => ?_)
                have hb4 := below_drewN hbd3 n4
                clear hJ3 hbd3
                generalize W3.drewN n4 = w4 at hb4 ⊢
                try simp only [List.append_assoc, List.singleton_append]
                obtain ⟨f, hf⟩ : ∃ f, x.take q ++ UInt8.ofNat n :: x.drop q1 = f := ⟨_, rfl⟩
                rw [hf]
                have hfl : f.length ≤ 16777216 := by rw [← hf]; simp only [List.length_append, List.length_cons]; omega
                clear hf hcA hcB hu8 hwq hqm hqm2 hkl hk0 hq0 hq01 hxt hxd dv hbv
                obtain ⟨r, hrr⟩ : ∃ r, readM f 0 = r := ⟨_, rfl⟩
                have HD := Lib.hid (readD_u f 0 r w4 hrr hfl (by decide) (by decide))
                have HR := Lib.hid (fun u (hu : ErrT u) => read_u f 0 r u hu hrr hfl (by decide) (by decide))
                have HOK := Lib.hid (ansR_ok hrr hfl)
                clear hrr hfl
                generalize Bs f = FB at HD HR ⊢
                go_wp2_with fail
                refine HD.out.mono ?_
                rintro e w5 ⟨hb, vq, vh, vc, vp, vi, rfl, hls⟩
                have hb5 := below_then hb4 hb
                clear HD hb hb4
                obtain ⟨sv, hsv⟩ : ∃ z, z = segC (ansR r) vq vh vc vp vi := ⟨_, rfl⟩
                rw [← hsv]
                have hsz : (Tryd.prog.info? 30).map (·.size) = some sv.size := by rw [hsv]; exact size13R
                have hz2 : (#[.int .u8 0, .int .i64 0, .int .i64 0, .slice none 0 0, .slice none 0 0, .int .u8 0, .int .i64 0, .int .i64 0, .slice none 0 0, .slice none 0 0, .slice none 0 0, .int .i64 0, .string (ByteArray.mk #[])] : Array Value).size = sv.size := by rw [hsv]; rfl
                have hone : sv.all (·.oneCell') = true := by rw [hsv]; exact lists_one hls
                obtain ⟨c, hc⟩ : ∃ c, codeR r = c := ⟨_, rfl⟩
                obtain ⟨p, hp⟩ : ∃ p, placeR r = p := ⟨_, rfl⟩
                rw [hc, hp]
                have HSV := Lib.hid (And.intro hsv (And.intro hsz (And.intro hz2 (And.intro hone (And.intro hc hp))))); clear hsv hsz hz2 hone hc hp
                have hS := (Blk.new w5 30 #[.int .u8 0, .int .i64 0, .int .i64 0, .slice none 0 0, .slice none 0 0, .int .u8 0, .int .i64 0, .int .i64 0, .slice none 0 0, .slice none 0 0, .slice none 0 0, .int .i64 0, .string (ByteArray.mk #[])]).alloc (.cells #[.int .i64 0, .int .i64 0] 44)
                have hF := Blk.new (w5.alloc (.cells #[.int .u8 0, .int .i64 0, .int .i64 0, .slice none 0 0, .slice none 0 0, .int .u8 0, .int .i64 0, .int .i64 0, .slice none 0 0, .slice none 0 0, .slice none 0 0, .int .i64 0, .string (ByteArray.mk #[])] 30)) 44 #[.int .i64 0, .int .i64 0]
                rw [show (w5.alloc (.cells #[.int .u8 0, .int .i64 0, .int .i64 0, .slice none 0 0, .slice none 0 0, .int .u8 0, .int .i64 0, .int .i64 0, .slice none 0 0, .slice none 0 0, .slice none 0 0, .int .i64 0, .string (ByteArray.mk #[])] 30)).heap.size = w5.heap.size + 1 by simp] at hF
                have hS2 := Blk.row (ds := sv) hS
                have hF2 := Blk.farRow (s := w5.heap.size) hF (by omega) sv
                have c80 := hF2.cell 0
                have c81 := hF2.cell 1
                have f80 := hF2.frozen 0
                have f81 := hF2.frozen 1
                have hS3 := (hS2.far (p := ⟨w5.heap.size + 1, 0, none⟩) (show w5.heap.size ≠ w5.heap.size + 1 by omega) (.int .i64 c)).far (p := ⟨w5.heap.size + 1, 1, none⟩) (show w5.heap.size ≠ w5.heap.size + 1 by omega) (.int .i64 p)
                have hF3 := (hF2.set 0 (.int .i64 c)).set 1 (.int .i64 p)
                have hbB := grown_below (grown_write (p := ⟨w5.heap.size + 1, 1, none⟩) (grown_write (p := ⟨w5.heap.size + 1, 0, none⟩) (grown_row (g := w5.heap.size) (grown_alloc (grown_alloc (grown_of_below (Below.refl w5.heap.size w5) none) (.cells #[.int .u8 0, .int .i64 0, .int .i64 0, .slice none 0 0, .slice none 0 0, .int .u8 0, .int .i64 0, .int .i64 0, .slice none 0 0, .slice none 0 0, .slice none 0 0, .int .i64 0, .string (ByteArray.mk #[])] 30)) (.cells #[.int .i64 0, .int .i64 0] 44)) (.inl (Nat.le_refl _)) sv) (.inl (by show w5.heap.size ≤ w5.heap.size + 1; omega)) (.int .i64 c)) (.inl (by show w5.heap.size ≤ w5.heap.size + 1; omega)) (.int .i64 p))
                have HW := Lib.hid (And.intro hS3 (And.intro hF3 hbB)); clear hS3 hF3 hbB hS2 hF2 hF
                have HS := Lib.hid hS; clear hS
                go_upto_region 14 with (refine wpList_store_row rfl _ _ _ rfl _ _ rfl rfl _ _ HS.out HSV.out.2.1 HSV.out.2.2.1 HSV.out.2.2.2.1 ?_)
                have hat6 := hls.at_.below HW.out.2.2
                have hb6 := below_then hb5 HW.out.2.2
                have hS6 := HW.out.1
                have hF6 := HW.out.2.1
                clear HW HS c80 c81 f80 f81 hls hb5
                generalize (((((w5.alloc (.cells #[.int .u8 0, .int .i64 0, .int .i64 0, .slice none 0 0, .slice none 0 0, .int .u8 0, .int .i64 0, .int .i64 0, .slice none 0 0, .slice none 0 0, .slice none 0 0, .int .i64 0, .string (ByteArray.mk #[])] 30)).alloc (.cells #[.int .i64 0, .int .i64 0] 44)).setRow w5.heap.size sv).setCell ⟨w5.heap.size + 1, 0, none⟩ (.int .i64 c)).setCell ⟨w5.heap.size + 1, 1, none⟩ (.int .i64 p)) = w6 at hat6 hb6 hS6 hF6 ⊢
                generalize w5.heap.size = s5 at hS6 hF6 ⊢
                obtain ⟨s8, hs8⟩ : ∃ s8, s5 + 1 = s8 := ⟨_, rfl⟩
                rw [hs8] at hF6
                simp only [hs8]
                clear hs8
                have hF6 : Blk w6 s8 44 #[.int .i64 c, .int .i64 p] := hF6
                have hev6 := HEV.out.1.below hb6
                have HR6 := Lib.hid (HR.out w6 hev6)
                clear HR hev6
                go_wp2_with fail
                refine HR6.out.mono ?_
                rintro e w7 ⟨hb, vq2, vh2, vc2, vp2, vi2, ev, rfl, hls2, hea⟩
                have hS7 := hS6.kept hb
                have hF7 := hF6.kept hb
                have hb7 := below_then hb6 hb
                have hat7 := hat6.below hb
                clear hS6 hF6 hb6 hat6 HR6 hb
                obtain ⟨sv2, hsv2⟩ : ∃ z, z = segC (ansR r) vq2 vh2 vc2 vp2 vi2 := ⟨_, rfl⟩
                rw [← hsv2]
                have hsz : (Tryd.prog.info? 30).map (·.size) = some sv2.size := by rw [hsv2]; exact size13R
                have hz2 : (#[.int .u8 0, .int .i64 0, .int .i64 0, .slice none 0 0, .slice none 0 0, .int .u8 0, .int .i64 0, .int .i64 0, .slice none 0 0, .slice none 0 0, .slice none 0 0, .int .i64 0, .string (ByteArray.mk #[])] : Array Value).size = sv2.size := by rw [hsv2]; rfl
                have hone : sv2.all (·.oneCell') = true := by rw [hsv2]; exact lists_one hls2
                have heo := hea.one
                have HSV2 := Lib.hid (And.intro hsv2 (And.intro hsz (And.intro hz2 hone))); clear hsv2 hsz hz2 hone
                go_upto_region 15 with (refine wpList_store_row rfl _ _ _ rfl _ _ rfl rfl _ _ (Blk.new w7 _ _) HSV2.out.2.1 HSV2.out.2.2.1 HSV2.out.2.2.2 ?_)
                have hS9 : Blk ((w7.alloc (.cells #[.int .u8 0, .int .i64 0, .int .i64 0, .slice none 0 0, .slice none 0 0, .int .u8 0, .int .i64 0, .int .i64 0, .slice none 0 0, .slice none 0 0, .slice none 0 0, .int .i64 0, .string (ByteArray.mk #[])] 30)).setRow w7.heap.size sv2) w7.heap.size 30 sv2 := (Blk.new w7 _ _).row
                have hb : Below w7.heap.size w7 ((w7.alloc (.cells #[.int .u8 0, .int .i64 0, .int .i64 0, .slice none 0 0, .slice none 0 0, .int .u8 0, .int .i64 0, .int .i64 0, .slice none 0 0, .slice none 0 0, .slice none 0 0, .int .i64 0, .string (ByteArray.mk #[])] 30)).setRow w7.heap.size sv2) := grown_below (grown_row (grown_alloc (grown_of_below (Below.refl _ _) none) _) (.inl (Nat.le_refl _)) _)
                have hb8 := below_then hb7 hb
                have hS8 := hS7.kept hb
                have hF8 := hF7.kept hb
                have hat8 := hat7.below hb
                have hat8' := hls2.at_.below hb
                have hea8 := hea.below hb
                clear hb7 hS7 hF7 hat7 hls2 hea hb
                generalize ((w7.alloc (.cells #[.int .u8 0, .int .i64 0, .int .i64 0, .slice none 0 0, .slice none 0 0, .int .u8 0, .int .i64 0, .int .i64 0, .slice none 0 0, .slice none 0 0, .slice none 0 0, .int .i64 0, .string (ByteArray.mk #[])] 30)).setRow w7.heap.size sv2) = w8 at hS9 hb8 hS8 hF8 hat8 hat8' hea8 ⊢
                generalize w7.heap.size = s9 at hS9 ⊢
                have hto := told_u r ev w8 (HEV.out.1.below hb8) hea8
                rw [HSV.out.2.2.2.2.1, HSV.out.2.2.2.2.2] at hto
                have HTO := Lib.hid hto; clear hto hea8
                go_wp2_with fail
                refine HTO.out.mono ?_
                rintro e w9 ⟨rfl, hb⟩
                have hb9 := below_then hb8 hb
                have hS10 := hS8.kept hb
                have hS11 := hS9.kept hb
                have hF9 := hF8.kept hb
                have hat9 := hat8.below hb
                have hat9' := hat8'.below hb
                clear hb8 hS8 hS9 hF8 hat8 hat8' hb HTO
                go_upto_region 16 with fail
                have hb : Below w9.heap.size w9 (w9.alloc (.cells #[.int .i64 c, .int .i64 p] 44)) := (Below.refl _ _).alloc (Nat.le_refl _) _
                have hG := Blk.new w9 44 #[.int .i64 c, .int .i64 p]
                have hb10 := below_then hb9 hb
                have hSa := hS10.kept hb
                have hSb := hS11.kept hb
                have hFa := hF9.kept hb
                have hata := hat9.below hb
                have hatb := hat9'.below hb
                clear hb9 hS10 hS11 hF9 hat9 hat9' hb
                generalize (w9.alloc (.cells #[.int .i64 c, .int .i64 p] 44)) = w10 at hG hb10 hSa hSb hFa hata hatb ⊢
                generalize w9.heap.size = s11 at hG ⊢
                have k0 : w10.cell? ⟨s11, 0, none⟩ = some (.int .i64 c) := by rw [hG.cell]; rfl
                have k1 : w10.cell? ⟨s11, 1, none⟩ = some (.int .i64 p) := by rw [hG.cell]; rfl
                have k2 : w10.cell? ⟨s8, 0, none⟩ = some (.int .i64 c) := by rw [hFa.cell]; rfl
                have k3 : w10.cell? ⟨s8, 1, none⟩ = some (.int .i64 p) := by rw [hFa.cell]; rfl
                have hra : w10.rangeAt s5 0 sv.toList := fun j v hv => by rw [Nat.zero_add, hSa.cell, ← Array.getElem?_toList]; exact hv
                have hrb : w10.rangeAt s9 0 sv2.toList := fun j v hv => by rw [Nat.zero_add, hSb.cell, ← Array.getElem?_toList]; exact hv
                have hsm := same_u (ansR r) vq2 vh2 vc2 vp2 vi2 vq vh vc vp vi w10 hatb hata HOK.out.1 HOK.out.2.2
                rw [← HSV.out.1, ← HSV2.out.1] at hsm
                have HSM := Lib.hid (And.intro hsm (And.intro hra (And.intro hrb (And.intro (by rw [Array.length_toList]; exact HSV.out.2.1 : (Tryd.prog.info? 30).map (·.size) = some sv.toList.length) (by rw [Array.length_toList]; exact HSV2.out.2.1 : (Tryd.prog.info? 30).map (·.size) = some sv2.toList.length)))))
                clear hsm hra hrb hSa hSb hFa hata hatb hG heo
                go_wp2_with (first | (refine wpList_load_mid_g (by rfl) _ _ rfl s9 0 rfl _ _ HSM.out.2.2.1 Tryd.underlying30 rfl HSM.out.2.2.2.2 ?_) | (refine wpList_load_mid_g (by rfl) _ _ rfl s5 0 rfl _ _ HSM.out.2.1 Tryd.underlying30 rfl HSM.out.2.2.2.1 ?_))
                refine HSM.out.1.mono ?_
                rintro e w11 ⟨rfl, hb⟩
                have hb11 := below_then hb10 hb
                clear hb hb10 HSM k0 k1 k2 k3
                go_wp2_with fail
                go_roundw
                case rel => exact ⟨n + 1, by omega, by go_num, hb11⟩
                case measure => simp [intOf]; omega
              · go_wp2_with fail
                go_roundw
                case rel => exact ⟨q + 1, by omega, by omega, by go_num, hbv⟩
                case measure => simp [intOf]; omega
          · go_wp2_with fail
            go_roundw
            case rel => exact ⟨k + 1, by omega, by go_num, hbj⟩
            case measure => simp [intOf]; omega
        · go_wp2_with fail
          go_roundw
          case rel => exact ⟨k + 1, by omega, by go_num, hbj⟩
          case measure => simp [intOf]; omega
    · go_wp2_with fail
      go_ret
      exact ⟨rfl, below_then HEV.out.2 hbr⟩
end Go.Proofs.YtjfgfoeenajneaaDoor.Sg
