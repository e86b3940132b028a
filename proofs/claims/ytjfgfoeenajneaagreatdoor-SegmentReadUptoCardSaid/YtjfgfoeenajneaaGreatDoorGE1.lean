/- The document's reading of tables of codes. -/
import Derived.Test.YtjfgfoeenajneaaGreatDoorGC9
import Derived.Test.YtjfgfoeenajneaaGreatDoorGA6
namespace Go.Proofs.YtjfgfoeenajneaaGreatDoor.Sg
open Go.RowKit

def refH (l : List UInt8) : Res (List HuffM) := if l = [] then .bad 152 else huffsM l.length l []
/-- tables of codes, in memory of their own -/
structure HsJ (w : World) (d : Nat) (v : Value) (ps : List (HuffM × Value)) (u : World) : Prop where
  own : u.ownsRow w.heap.size 87 19 v ps.length (ps.flatMap huffC)
  vals : ∀ p ∈ ps, VL u w.heap.size p.2 p.1.vals
  gr : w.grownBy u (some d)
theorem HsJ.keep {w u u' : World} {d : Nat} {v : Value} {ps : List (HuffM × Value)} (h : HsJ w d v ps u) (hd : d < w.heap.size) (hb : But2 u.heap.size d d u u') : HsJ w d v ps u' := by
  refine ⟨own_keep h.own fun g hg => hb.block g (h.own.lt g hg).2 ?_ ?_, fun p hp => (h.vals p hp).keep fun g hg => hb.block g ((h.vals p hp).lt g hg).2 ?_ ?_, ⟨hb.os.trans h.gr.os, hb.tape.trans h.gr.tape, hb.output.trans h.gr.output, Nat.le_trans h.gr.size hb.size, fun i hi hne => ?_⟩⟩
  · have := (h.own.lt g hg).1; omega
  · have := (h.own.lt g hg).1; omega
  · have := ((h.vals p hp).lt g hg).1; omega
  · have := ((h.vals p hp).lt g hg).1; omega
  · have hid : i ≠ d := fun e => hne (by rw [e])
    exact (hb.block i (Nat.lt_of_lt_of_le hi h.gr.size) hid hid).trans (h.gr.block i hi hne)
def HuffsP (d : Nat) (w : World) (r : Res (List HuffM)) (e : Ending) (w' : World) : Prop :=
  match r with
  | .bad c => e = .returned (.tuple #[.slice none 0 0, .int .i64 c]) ∧ w.grownBy w' (some d)
  | .ok l => ∃ v ps, e = .returned (.tuple #[v, .int .i64 0]) ∧ ps.map (·.1) = l ∧ HsJ w d v ps w'
theorem u8s_next {t : List Nat} {k : Nat} (h : k < t.length) : u8s (t.take (k + 1)) = u8s (t.take k) ++ [.int .u8 (t.getD k 0 : Nat)] := by
  rw [take_next (a := t.getD k 0) (by rw [List.getD_eq_getElem?_getD, List.getElem?_eq_getElem h]; rfl)]
  unfold u8s
  rw [List.map_append]
  rfl
theorem nats_get (l : List UInt8) (k : Nat) (h : k < l.length) : (l.map (·.toNat)).getD k 0 = nb l k := by
  unfold nb
  rw [List.getD_eq_getElem?_getD, List.getElem?_map, List.getD_eq_getElem?_getD, List.getElem?_eq_getElem h]
  rfl
theorem StrAt.below5 {ty : TypeId} {w w' : World} {d : Nat} {l : List UInt8} (h : StrAt ty w d l) (hb : Below w.heap.size w w') : StrAt ty w' d l := Blk.kept h hb
set_option maxRecDepth 100000 in
set_option maxHeartbeats 16000000 in
theorem huffs_any (d : Nat) (l : List UInt8) (w : World) (hd : StrAt 123 w d l) (hl : l.length ≤ 4194304) :
    Calls Tryz.prog 58 #[.pointer (some ⟨d, 0, none⟩)] w (HuffsP d w (refH l)) := by
  obtain ⟨ih, ih1, ih2, ih3, ih4⟩ := info_parts infoH
  obtain ⟨zh, hzh⟩ : ∃ z, z = Value.agg (huffF 0 0 [] 0 nilS).toArray := ⟨_, rfl⟩
  rw [← hzh] at ih2
  have ih5 : zh.cells.size = 19 := by rw [hzh]; rfl
  have IH := Lib.hid (And.intro ih1 (And.intro ih2 (And.intro ih3 (And.intro ih4 ih5)))); clear ih1 ih2 ih3 ih4 ih5 hzh
  obtain ⟨ib, ib1, ib2, ib3, ib4⟩ := info_parts infoB
  have IB := Lib.hid (And.intro ib1 (And.intro ib2 (And.intro ib3 ib4))); clear ib1 ib2 ib3 ib4
  have hdlt := hd.lt
  go_enter Tryz.func58, Tryz.ntmps58
  go_wp2_with fail
  go_loopw [4] (fun v wr => ∃ (rest : List UInt8) (n : Nat) (ps : List (HuffM × Value)), HsJ w d v ps wr ∧ StrAt 123 wr d rest ∧ rest.length ≤ n ∧ rest.length ≤ l.length ∧ ps.length + rest.length ≤ l.length ∧ (ps.length = 0 → rest.length = l.length) ∧ refH l = (if l = [] then .bad 152 else huffsM n rest (ps.map (·.1)))) (fun _ wr => strLen wr d)
  case atStart => exact ⟨l, l.length, [], ⟨World.ownsRow_nil _ _ _ _, fun p hp => (by cases hp), grown_of_below (Below.refl _ _) _⟩, hd, Nat.le_refl _, Nat.le_refl _, by simp, fun _ => rfl, rfl⟩
  clear hd
  case round =>
    obtain ⟨rest, n, ps, hJ, hd, hn1, hn2, hn3, hn4, hq⟩ := hrel
    have HQ := Lib.hid hq; clear hq
    obtain ⟨A, c, rfl⟩ := own_slice hJ.own
    cases rest with
    | nil =>
      have c0 : wr.cell? ⟨d, 0, none⟩ = some (.string (Bs [])) := by rw [hd.cell]; rfl
      have hz := Bs_size []
      by_cases h0 : ps.length = 0
      · have hl0 : l = [] := List.eq_nil_of_length_eq_zero (by have := hn4 h0; simpa using this.symm)
        have hres : refH l = .bad 152 := by rw [HQ.out, if_pos hl0]
        have HR := Lib.hid hres; clear hres
        rw [h0]
        have HG := Lib.hid hJ.gr
        clear hl0 h0 hn4 hJ
        go_wp2_with fail
        go_ret2
        rw [HR.out]
        exact ⟨rfl, HG.out⟩
      · have hl0 : l ≠ [] := fun e => by rw [e] at hn3; simp at hn3; exact h0 (by simp [hn3])
        have hres : refH l = .ok (ps.map (·.1)) := by rw [HQ.out, if_neg hl0, huffsM_nil]
        have HR := Lib.hid hres; clear hres
        have h0' : ((ps.length : Int) == 0) = false := beq_false_of_ne (by omega)
        have h0n : ¬ (ps.length : Int) = 0 := by omega
        have h0m : (ps.length == 0) = false := beq_false_of_ne h0
        have HJ0 := Lib.hid hJ
        clear hl0 hn4 hJ
        go_wp2_with fail
        go_ret2
        rw [HR.out]
        exact ⟨_, ps, rfl, rfl, HJ0.out⟩
    | cons b r =>
      obtain ⟨m, rfl⟩ : ∃ m, n = m + 1 := ⟨n - 1, by simp at hn1; omega⟩
      have hl0 : l ≠ [] := fun e => by rw [e] at hn2; simp at hn2
      have hq := HQ.out
      rw [if_neg hl0] at hq
      clear HQ hl0 hn4
      simp only [huffsM] at hq
      have hbb := b.toNat_lt
      obtain ⟨x, hx⟩ : ∃ x, b.toNat / 16 = x := ⟨_, rfl⟩
      obtain ⟨y, hy⟩ : ∃ y, b.toNat % 16 = y := ⟨_, rfl⟩
      rw [hx, hy] at hq
      have g1 : (b.toNat : Int) / 16 = (x : Int) := by omega
      have g2 : (b.toNat : Int) % 16 = (y : Int) := by omega
      have hb0 : 0 ≤ (b.toNat : Int) := by omega
      have hb1 : (b.toNat : Int) ≤ 255 := by omega
      have gy : y < 16 := by omega
      have gx : x < 16 := by omega
      have HXE := Lib.hid hx; clear hx hy
      have c0 : wr.cell? ⟨d, 0, none⟩ = some (.string (Bs (b :: r))) := by rw [hd.cell]; rfl
      have hz := Bs_size (b :: r)
      simp only [List.length_cons] at hz hn1 hn2 hn3
      have HQ := Lib.hid hq; clear hq
      have hms := strLen_at hd
      have HMS := Lib.hid hms; clear hms
      have HJ0 := Lib.hid hJ; clear hJ
      go_wp2_with fail
      refine (one_any d (b :: r) wr hd (by simp; omega)).mono ?_
      rintro e w1 ⟨rfl, hd1, gr0⟩
      rw [nb_cons]
      rw [show (b :: r).drop 1 = r from rfl] at hd1
      have hbu : But2 wr.heap.size d d wr w1 := But2.of_grown gr0 (fun g e => .inl (by injection e with e; exact e.symm)) (Nat.le_refl _)
      have hJ1 := HJ0.out.keep hdlt hbu
      have HJ1 := Lib.hid hJ1; clear hJ1
      clear c0 hz hd gr0 hbu HJ0
      obtain ⟨w0, hw0⟩ : ∃ u, wr = u := ⟨_, rfl⟩
      clear hw0
      by_cases h1 : 1 < x
      · have hres : refH l = .bad 153 := by rw [HQ.out, if_pos (.inl h1)]
        have HR := Lib.hid hres; clear hres
        go_wp2_with fail
        go_ret2
        rw [HR.out]
        exact ⟨rfl, HJ1.out.gr⟩
      by_cases h1' : 3 < y
      · have hres : refH l = .bad 153 := by rw [HQ.out, if_pos (.inr h1')]
        have HR := Lib.hid hres; clear hres
        go_wp2_with fail
        go_ret2
        rw [HR.out]
        exact ⟨rfl, HJ1.out.gr⟩
      have hq := HQ.out
      rw [if_neg (by omega)] at hq
      clear HQ
      have HQ := Lib.hid hq; clear hq
      have hbuild : (#[.int .u8 (x : Int), .int .u8 (y : Int), .int .u8 0, .int .u8 0, .int .u8 0, .int .u8 0, .int .u8 0, .int .u8 0, .int .u8 0, .int .u8 0, .int .u8 0, .int .u8 0, .int .u8 0, .int .u8 0, .int .u8 0, .int .u8 0, .int .u8 0, .int .u8 0, .slice none 0 0] : Array Value) = (huffF x y [] 0 nilS).toArray := rfl
      have hi3 : (#[.int .u8 (x : Int), .int .u8 (y : Int), .int .u8 0, .int .u8 0, .int .u8 0, .int .u8 0, .int .u8 0, .int .u8 0, .int .u8 0, .int .u8 0, .int .u8 0, .int .u8 0, .int .u8 0, .int .u8 0, .int .u8 0, .int .u8 0, .int .u8 0, .int .u8 0, .slice none 0 0] : Array Value).all (·.oneCell') = true := by
        rw [hbuild, Array.all_eq_true_iff_forall_mem]
        intro u hu
        exact huffF_one _ _ _ _ u (by simpa using hu)
      have HI := Lib.hid (And.intro hi3 hbuild); clear hi3 hbuild
      have hz1 := Bs_size r
      have c1 : w1.cell? ⟨d, 0, none⟩ = some (.string (Bs r)) := by rw [hd1.cell]; rfl
      go_upto_region 7 with (refine wpList_store_row rfl _ _ _ rfl _ _ rfl rfl _ _ (Blk.new w1 _ _) size19 rfl HI.out.1 ?_)
      rw [HI.out.2]
      have hQ2 : Blk ((w1.alloc (.cells #[.int .u8 0, .int .u8 0, .int .u8 0, .int .u8 0, .int .u8 0, .int .u8 0, .int .u8 0, .int .u8 0, .int .u8 0, .int .u8 0, .int .u8 0, .int .u8 0, .int .u8 0, .int .u8 0, .int .u8 0, .int .u8 0, .int .u8 0, .int .u8 0, .slice none 0 0] 87)).setRow w1.heap.size (huffF x y [] 0 nilS).toArray) w1.heap.size 87 (huffF x y [] 0 nilS).toArray := (Blk.new w1 _ _).row
      have hbz : Below w1.heap.size w1 ((w1.alloc (.cells #[.int .u8 0, .int .u8 0, .int .u8 0, .int .u8 0, .int .u8 0, .int .u8 0, .int .u8 0, .int .u8 0, .int .u8 0, .int .u8 0, .int .u8 0, .int .u8 0, .int .u8 0, .int .u8 0, .int .u8 0, .int .u8 0, .int .u8 0, .int .u8 0, .slice none 0 0] 87)).setRow w1.heap.size (huffF x y [] 0 nilS).toArray) := grown_below (grown_row (grown_alloc (grown_of_below (Below.refl _ _) none) _) (.inl (Nat.le_refl _)) _)
      have hsz2 : ((w1.alloc (.cells #[.int .u8 0, .int .u8 0, .int .u8 0, .int .u8 0, .int .u8 0, .int .u8 0, .int .u8 0, .int .u8 0, .int .u8 0, .int .u8 0, .int .u8 0, .int .u8 0, .int .u8 0, .int .u8 0, .int .u8 0, .int .u8 0, .int .u8 0, .int .u8 0, .slice none 0 0] 87)).setRow w1.heap.size (huffF x y [] 0 nilS).toArray).heap.size = w1.heap.size + 1 := by simp [World.setRow]
      generalize ((w1.alloc (.cells #[.int .u8 0, .int .u8 0, .int .u8 0, .int .u8 0, .int .u8 0, .int .u8 0, .int .u8 0, .int .u8 0, .int .u8 0, .int .u8 0, .int .u8 0, .int .u8 0, .int .u8 0, .int .u8 0, .int .u8 0, .int .u8 0, .int .u8 0, .int .u8 0, .slice none 0 0] 87)).setRow w1.heap.size (huffF x y [] 0 nilS).toArray) = w2 at hQ2 hbz hsz2 ⊢
      have hd2 := hd1.kept hbz
      have hB2 : But2 w1.heap.size d d w1 w2 := But2.of_below hbz
      have hdq : d < w1.heap.size := hd1.lt
      have c2 : w2.cell? ⟨d, 0, none⟩ = some (.string (Bs r)) := by rw [hd2.cell]; rfl
      clear c1 hd1 hbz
      have HW1 := Lib.hid (show But2 w1.heap.size d d w1 w2 from hB2); clear hB2
      obtain ⟨q, hqq⟩ : ∃ q, w1.heap.size = q := ⟨_, rfl⟩
      rw [hqq] at hQ2 hsz2 hdq HW1
      simp only [hqq]
      have HQQ := Lib.hid hqq; clear hqq
      by_cases h2 : r.length < 16
      · have hq2 : refH l = .bad 152 := by rw [HQ.out, if_pos h2]
        have HR := Lib.hid hq2; clear hq2
        have y5 : (r.length : Int) < 16 := by omega
        clear h2
        go_wp2_with fail
        go_ret2
        rw [HR.out]
        exact ⟨rfl, (HJ1.out.keep hdlt (by rw [HQQ.out]; exact HW1.out)).gr⟩
      have hq := HQ.out
      rw [if_neg h2] at hq
      clear HQ
      obtain ⟨cnt, hcnt⟩ : ∃ c, c = (r.take 16).map (·.toNat) := ⟨_, rfl⟩
      have hctl : cnt.length = 16 := by rw [hcnt, List.length_map, List.length_take]; omega
      have hclt : ∀ x ∈ cnt, x < 256 := fun x hx => by
        rw [hcnt, List.mem_map] at hx
        obtain ⟨u, _, rfl⟩ := hx
        exact u.toNat_lt
      have hcget : ∀ k, k < 16 → cnt.getD k 0 = nb r k := fun k hk => by
        rw [hcnt, nats_get _ _ (by rw [List.length_take]; omega)]
        unfold nb
        rw [List.getD_eq_getElem?_getD, List.getElem?_take, if_pos hk, ← List.getD_eq_getElem?_getD]
      rw [← hcnt] at hq
      have HQ := Lib.hid hq; clear hq
      have HCN := Lib.hid (And.intro hctl (And.intro hclt hcget)); clear hctl hclt hcget hcnt
      have y5 : ¬ (r.length : Int) < 16 := by omega
      go_upto_region 11 with fail
      clear c2 y5
      have hstart : Blk w2 q 87 (huffF x y cnt 0 nilS).toArray ∧ StrAt 123 w2 d (r.drop 0) ∧ But2 q d d w1 w2 := ⟨by exact hQ2, by rw [List.drop_zero]; exact hd2, HW1.out⟩
      clear hQ2 hd2 HW1
      go_loopw [8, 7] (fun i sm wr => ∃ k : Nat, k ≤ 16 ∧ i = .int .i64 k ∧ sm = .int .i64 (sTo cnt k : Nat) ∧ Blk wr q 87 (huffF x y cnt k nilS).toArray ∧ StrAt 123 wr d (r.drop k) ∧ But2 q d d w1 wr ∧ q + 1 ≤ wr.heap.size) (fun i _ _ => 16 - (intOf i).toNat)
      case atStart => exact ⟨0, by omega, rfl, rfl, hstart.1, hstart.2.1, hstart.2.2, by omega⟩
      clear hstart
      case round =>
        obtain ⟨k, hk, rfl, rfl, hB, hD, hE, hz⟩ := hrel
        have hsle := sTo_le cnt HCN.out.2.1 k
        by_cases hlt : k < 16
        · have hk0 : 0 ≤ (k : Int) := by omega
          have hk16 : (k : Int) < 16 := by omega
          have hnb := nb_lt r k
          have hsn : sTo cnt (k + 1) = sTo cnt k + nb r k := by show sTo cnt k + cnt.getD k 0 = _; rw [HCN.out.2.2 k hlt]
          have hset := huffF_set x y cnt k nilS hlt HCN.out.1
          rw [HCN.out.2.2 k hlt] at hset
          obtain ⟨sm, hsm⟩ : ∃ sm, sTo cnt k = sm := ⟨_, rfl⟩
          rw [hsm] at hsle ⊢
          have HSM := Lib.hid hsm; clear hsm
          go_wp2_with fail
          refine (one_any d (r.drop k) wr hD (by rw [List.length_drop]; omega)).mono ?_
          rintro e w4 ⟨rfl, hD4, hg4⟩
          rw [nb_drop, Nat.add_zero]
          rw [List.drop_drop] at hD4
          have hB4 : Blk w4 q 87 (huffF x y cnt k nilS).toArray := hB.grown hg4 (fun e => by injection e; omega)
          have hE4 := hE.trans (But2.of_grown (base := q) (d := d) (s := d) hg4 (fun g e => .inl (by injection e with e; exact e.symm)) (by omega))
          have hz4 := Nat.le_trans hz hg4.size
          clear hB hD hE hz hg4
          generalize nb r k = B at hnb hsn hset ⊢
          have HSN := Lib.hid (And.intro hsn hset); clear hsn hset
          have hcell : w4.cell? ⟨q, 2 + k, none⟩ = some (.int .u8 0) := by rw [hB4.cell, huffF_get x y cnt k nilS hlt HCN.out.1]
          have hfz : w4.frozen? ⟨q, 2 + k, none⟩ = false := hB4.frozen _
          have hB5 := hB4.set (2 + k) (.int .u8 (B : Int))
          rw [List.setIfInBounds_toArray, HSN.out.2] at hB5
          have hD5 := hD4.far (p := ⟨q, 2 + k, none⟩) (show d ≠ q by omega) (.int .u8 (B : Int))
          have hE5 := hE4.trans (But2.of_grown (base := q) (d := d) (s := d) (w5_one w4 q (i := 2 + k) (.int .u8 (B : Int))) (fun g e => .inr (.inr (by injection e with e; omega))) (by omega))
          have HX5 := Lib.hid (And.intro hB5 (And.intro hD5 hE5)); clear hB5 hD5 hE5 hB4 hD4 hE4
          have hw1 : IntKind.i64.wrap ((sm : Int) + (B : Int)) = (sm : Int) + (B : Int) := IntWalk.i64_in _ (by omega)
          go_wp2_with fail
          go_roundw
          case rel => exact ⟨k + 1, by omega, by go_num, by rw [HSN.out.1, HSM.out]; go_num, HX5.out.1, HX5.out.2.1, HX5.out.2.2, by simpa using hz4⟩
          case measure => simp [intOf]; omega
        obtain rfl : k = 16 := by omega
        generalize wr = w3 at hB hD hE hz ⊢
        rw [show sTo cnt 16 = sumM cnt from rfl] at hsle ⊢
        rw [huffF_all x y cnt [] nilS HCN.out.1] at hB
        generalize hsum : sumM cnt = sum at hsle ⊢
        have hq := HQ.out
        rw [hsum] at hq
        clear HQ hsum hlt hk
        obtain ⟨r1, hr1⟩ : ∃ r1, r.drop 16 = r1 := ⟨_, rfl⟩
        rw [hr1] at hD hq
        have hr1l : r1.length + 16 ≤ r.length := by rw [← hr1, List.length_drop]; omega
        have HQ := Lib.hid hq; clear hq hr1
        have hz1 := Bs_size r1
        have c3 : w3.cell? ⟨d, 0, none⟩ = some (.string (Bs r1)) := by rw [hD.cell]; rfl
        by_cases h3 : r1.length < sum
        · have hq2 : refH l = .bad 152 := by rw [HQ.out, if_pos h3]
          have HR := Lib.hid hq2; clear hq2 HQ
          have y6 : (r1.length : Int) < (sum : Int) := by omega
          clear h3
          go_wp2_with fail
          go_ret2
          rw [HR.out]
          exact ⟨rfl, (HJ1.out.keep hdlt (by rw [HQQ.out]; exact hE)).gr⟩
        have hq := HQ.out
        rw [if_neg h3] at hq
        clear HQ
        obtain ⟨va, hva⟩ : ∃ va, va = (r1.take sum).map (·.toNat) := ⟨_, rfl⟩
        have hvl : va.length = sum := by rw [hva, List.length_map, List.length_take]; omega
        have hvlt : ∀ x ∈ va, x < 256 := fun x hx => by
          rw [hva, List.mem_map] at hx
          obtain ⟨u, _, rfl⟩ := hx
          exact u.toNat_lt
        have hvget : ∀ k, k < sum → va.getD k 0 = nb r1 k := fun k hk => by
          rw [hva, nats_get _ _ (by rw [List.length_take]; omega)]
          unfold nb
          rw [List.getD_eq_getElem?_getD, List.getElem?_take, if_pos hk, ← List.getD_eq_getElem?_getD]
        rw [← hva] at hq
        have HQ := Lib.hid hq; clear hq
        have HVA := Lib.hid (And.intro hvl (And.intro hvlt hvget)); clear hvl hvlt hvget hva
        have y6 : ¬ (r1.length : Int) < (sum : Int) := by omega
        go_upto_region 19 with fail
        clear c3 y6
        have hstart : Blk w3 q 87 (huffC (⟨x, y, cnt, va⟩, nilS)).toArray ∧ StrAt 123 w3 d (r1.drop 0) ∧ w3.ownsRow (q + 1) 5 1 nilS 0 (u8s (va.take 0)) := ⟨hB, by rw [List.drop_zero]; exact hD, World.ownsRow_nil _ _ _ _⟩
        clear hB hD
        go_loopw [10] (fun i wr => ∃ (k : Nat) (v : Value), k ≤ sum ∧ i = .int .i64 k ∧ Blk wr q 87 (huffC (⟨x, y, cnt, va⟩, v)).toArray ∧ StrAt 123 wr d (r1.drop k) ∧ wr.ownsRow (q + 1) 5 1 v k (u8s (va.take k)) ∧ But2 q d d w1 wr ∧ q + 1 ≤ wr.heap.size) (fun i _ => sum - (intOf i).toNat)
        case atStart => exact ⟨0, nilS, by omega, rfl, hstart.1, hstart.2.1, hstart.2.2, hE, hz⟩
        clear hstart hE hz
        case round =>
          obtain ⟨k, v, hk, rfl, hB, hD, hO, hE, hz⟩ := hrel
          by_cases hlt : k < sum
          · have hk0 : 0 ≤ (k : Int) := by omega
            have hk16 : (k : Int) < (sum : Int) := by omega
            have hnb := nb_lt r1 k
            have hnx := u8s_next (t := va) (k := k) (by rw [HVA.out.1]; exact hlt)
            rw [HVA.out.2.2 k hlt] at hnx
            have hO' := Lib.hid hO
            go_wp2_with fail
            refine (one_any d (r1.drop k) wr hD (by rw [List.length_drop]; omega)).mono ?_
            rintro e w4 ⟨rfl, hD4, hg4⟩
            rw [nb_drop, Nat.add_zero]
            rw [List.drop_drop] at hD4
            have hB4 : Blk w4 q 87 (huffC (⟨x, y, cnt, va⟩, v)).toArray := hB.grown hg4 (fun e => by injection e; omega)
            have hO4 := own_grown hO hg4 (.inr fun e => by have := (hO.lt d e).1; omega)
            have hE4 := hE.trans (But2.of_grown (base := q) (d := d) (s := d) hg4 (fun g e => .inl (by injection e with e; exact e.symm)) (by omega))
            have hz4 := Nat.le_trans hz hg4.size
            clear hB hD hO hE hz hg4 hO'
            generalize nb r1 k = B at hnb hnx ⊢
            have HNX := Lib.hid hnx; clear hnx
            have e18 : w4.cell? ⟨q, 18, none⟩ = some v := by rw [hB4.cell, huffC_val HCN.out.1]
            have hal : Below w4.heap.size w4 (w4.alloc (.cells #[.int .u8 (B : Int)] 5)) := (Below.refl _ _).alloc (Nat.le_refl _) _
            have hn5 := Blk.new w4 5 #[.int .u8 (B : Int)]
            have HO5 := Lib.hid (own_kept hO4 hal)
            have HR5 := Lib.hid (show Rows 1 (w4.alloc (.cells #[.int .u8 (B : Int)] 5)) (some ⟨w4.heap.size, 0, none⟩) 1 [.int .u8 (B : Int)] from ⟨rfl, fun _ => ⟨_, 0, rfl, fun j hj => by rw [hn5.cell, Nat.zero_add]; simp⟩⟩)
            have HB5 := Lib.hid (hB4.kept hal)
            have HD5 := Lib.hid (StrAt.below5 hD4 hal)
            have hz5 : q + 1 ≤ (w4.alloc (.cells #[.int .u8 (B : Int)] 5)).heap.size := Nat.le_trans hz4 hal.size
            have HE5 := Lib.hid (hE4.trans (But2.of_below (d := d) (s := d) (hal.mono (show q ≤ w4.heap.size by omega))))
            have hks : k ≤ 4194304 := by have := HVA.out.1; omega
            clear hn5 hal hB4 hD4 hE4 hO4
            go_upto_region 20 with (at_builtin; refine wpList_append_rows rfl (.tmp 72) (.tmp 75) 29 rfl (q + 1) 5 ib (.int .u8 0) 1 1 Tryz.underlying29 IB.out.1 IB.out.2.1 IB.out.2.2.1 IB.out.2.2.2 rfl (by decide) v k (u8s (va.take k)) rfl HO5.out (some ⟨w4.heap.size, 0, none⟩) 1 1 [.int .u8 (B : Int)] rfl HR5.out (by intro u hu; simp at hu; rw [hu]; rfl) (by unfold maxLen; omega) (by omega) hz5 ?_; intro v6 w6 hown6 hgr6 hat6; have hB6 : Blk w6 q 87 (huffC (⟨x, y, cnt, va⟩, v)).toArray := HB5.out.grown hgr6 (fun e => by have := (HO5.out.lt q e.symm).1; omega); have e19 : w6.cell? ⟨q, 18, none⟩ = some v := (by rw [hB6.cell, huffC_val HCN.out.1]); have f19 : w6.frozen? ⟨q, 18, none⟩ = false := hB6.frozen _; obtain ⟨A6, k6, rfl⟩ := own_slice hown6)
            have hB7 : Blk (w6.setCell ⟨q, 18, none⟩ (.slice A6 (k + 1) k6)) q 87 (huffC (⟨x, y, cnt, va⟩, .slice A6 (k + 1) k6)).toArray := by
              have h9 := hB6.set 18 (.slice A6 (k + 1) k6)
              rw [List.setIfInBounds_toArray, huffC_set x y cnt va va v _ HCN.out.1] at h9
              exact h9
            have hD6 : StrAt 123 w6 d (r1.drop (k + 1)) := HD5.out.grown hgr6 (fun e => by have := (HO5.out.lt d e.symm).1; omega)
            have hD7 := hD6.far (p := ⟨q, 18, none⟩) (show d ≠ q by omega) (.slice A6 (k + 1) k6)
            have hO7 : (w6.setCell ⟨q, 18, none⟩ (.slice A6 (k + 1) k6)).ownsRow (q + 1) 5 1 (.slice A6 (k + 1) k6) (k + 1) (u8s (va.take (k + 1))) := by
              have h9 := own_setD hown6 (Nat.lt_succ_self q) 18 (.slice A6 (k + 1) k6)
              rw [HNX.out]
              exact h9
            have hE6 := HE5.out.trans (But2.of_grown (base := q) (d := d) (s := d) hgr6 (fun g e => .inr (.inr (by have := (HO5.out.lt g e).1; omega))) (by omega))
            have hE7 := hE6.trans (But2.of_grown (base := q) (d := d) (s := d) (w5_one w6 q (i := 18) (.slice A6 (k + 1) k6)) (fun g e => .inr (.inr (by injection e with e; omega))) (by have := hgr6.size; omega))
            have hz7 : q + 1 ≤ (w6.setCell ⟨q, 18, none⟩ (.slice A6 (k + 1) k6)).heap.size := by have := hgr6.size; simp; omega
            generalize Value.slice A6 (k + 1) k6 = v7 at hB7 hD7 hO7 hE7 hz7 ⊢
            generalize w6.setCell ⟨q, 18, none⟩ v7 = w7 at hB7 hD7 hO7 hE7 hz7 ⊢
            clear hB6 hD6 hE6 hown6 hgr6 hat6 e19 f19 e18 HO5 HR5 HB5 HD5 HE5 hz5
            have HF := Lib.hid (And.intro hB7 (And.intro hD7 (And.intro hO7 (And.intro hE7 hz7)))); clear hB7 hD7 hO7 hE7 hz7
            go_wp2_with fail
            go_roundw
            case rel => exact ⟨k + 1, v7, by omega, by go_num, HF.out.1, HF.out.2.1, HF.out.2.2.1, HF.out.2.2.2.1, HF.out.2.2.2.2⟩
            case measure => simp [intOf]; omega
          obtain rfl : k = sum := by omega
          generalize wr = w3 at hB hD hO hE hz ⊢
          rw [List.take_of_length_le (show va.length ≤ k by rw [HVA.out.1]; omega)] at hO
          obtain ⟨Av, cv, rfl, hrv, _⟩ := own_rws hO
          have hsl := rows_sl hrv
          have HRG := Lib.hid (Blk.range hB 2 _ (huffC_spec (⟨x, y, cnt, va⟩, .slice Av k cv)))
          have HS17 := Lib.hid (show (Tryz.prog.info? 85).map (·.size) = some (specC cnt (.slice Av k cv)).length by
            unfold specC
            rw [List.length_append, u8s_length, HCN.out.1]
            exact size17)
          have hck := check04_any cnt va Av k cv w3 HCN.out.1 HCN.out.2.1 hsl HVA.out.2.1 (by have := HVA.out.1; omega)
          have HCK := Lib.hid hck; clear hck hrv hsl
          go_wp2_with (refine wpList_load_mid rfl _ _ rfl q 2 rfl _ _ HRG.out Tryz.underlying85 rfl HS17.out ?_)
          refine HCK.out.mono ?_
          rintro e w5 ⟨c9, rfl, hcz, hb5⟩
          have hB5 := hB.kept hb5
          have hD5 := StrAt.below5 hD hb5
          have hO5 := own_kept hO hb5
          have hE5 := hE.trans (But2.of_below (d := d) (s := d) (hb5.mono (show q ≤ w3.heap.size by omega)))
          have hz5 := Nat.le_trans hz hb5.size
          clear hB hD hO hE hz hb5 HRG HS17 HCK
          have hJ5 := HJ1.out.keep hdlt (by rw [HQQ.out]; exact hE5)
          by_cases hc0 : c9 = 0
          case neg =>
            have hcn : huffOk cnt va = false := by
              cases hh : huffOk cnt va
              · rfl
              · exact absurd (hcz.2 hh) hc0
            have hres : refH l = .bad 153 := by rw [HQ.out, if_pos hcn]
            have HR := Lib.hid hres; clear hres hcn hcz HQ
            have hcb : ((c9 : Int) != 0) = true := by simpa using hc0
            have hcb2 : ¬ ((c9 : Int) = 0) := by omega
            have HG := Lib.hid hJ5.gr
            clear hJ5 hB5 hD5 hO5 hE5
            go_wp2_with fail
            go_ret2
            rw [HR.out]
            exact ⟨rfl, HG.out⟩
          subst hc0
          have hgood : huffOk cnt va = true := hcz.1 rfl
          have hq := HQ.out
          rw [if_neg (by rw [hgood]; decide)] at hq
          have HQ2 := Lib.hid hq; clear hq HQ hgood hcz
          obtain ⟨pn, hpn⟩ : ∃ pn : HuffM × Value, pn = (⟨x, y, cnt, va⟩, .slice Av k cv) := ⟨_, rfl⟩
          have hpz : (huffC pn).length = 19 := by rw [hpn]; exact huffC_length HCN.out.1
          have hp1 : ∀ u ∈ huffC pn, u.oneCell' = true := huffC_one pn (by rw [hpn]; rfl)
          have hvn : VL w5 w.heap.size pn.2 pn.1.vals := by
            rw [hpn]
            refine (VL.of_own (base := q + 1) (t := va) ?_).mono (by have := HJ1.out.gr.size; have := HQQ.out; omega)
            rw [HVA.out.1]
            exact hO5
          have hfl : HuffM := pn.1
          rw [← hpn] at hB5
          have HPN := Lib.hid (And.intro hpn (And.intro hpz (And.intro hp1 hvn))); clear hpn hpz hp1 hvn hfl
          have hn5 := Blk.new w5 87 (huffC pn).toArray
          have hal : Below w5.heap.size w5 (w5.alloc (.cells (huffC pn).toArray 87)) := (Below.refl _ _).alloc (Nat.le_refl _) _
          have HX5 := Lib.hid (own_kept hJ5.own hal)
          have HR5 := Lib.hid (show Rows 19 (w5.alloc (.cells (huffC pn).toArray 87)) (some ⟨w5.heap.size, 0, none⟩) 1 (huffC pn) from ⟨by rw [HPN.out.2.1], fun _ => ⟨_, 0, rfl, fun j hj => by rw [hn5.cell, Nat.zero_add]; simp⟩⟩)
          have hbs : w.heap.size ≤ (w5.alloc (.cells (huffC pn).toArray 87)).heap.size := Nat.le_trans hJ5.gr.size hal.size
          have HJ5 := Lib.hid hJ5
          have HB5 := Lib.hid hB5
          have HD5 := Lib.hid hD5
          clear hn5 hB5 hD5 hO5 hE5 hJ5
          obtain ⟨np, hnp⟩ : ∃ n, ps.length = n := ⟨_, rfl⟩
          have hnp2 : np ≤ 4194304 := by omega
          rw [hnp] at HX5
          have HNP := Lib.hid hnp
          rw [hnp]
          clear hnp
          go_wp2_with (first | (refine wpList_load_row rfl _ _ rfl q rfl _ _ _ _ HB5.out Tryz.underlying87 rfl (by rw [List.size_toArray, HPN.out.2.1]; exact size19) ?_) | (refine wpList_buildOne rfl 24 87 _ rfl _ rfl ih zh 19 Tryz.underlying24 IH.out.1 IH.out.2.1 IH.out.2.2.1 (by rw [List.size_toArray]; exact HPN.out.2.1) (by decide) (by decide) ?_) | (at_builtin; refine wpList_append_rows rfl (.tmp 83) (.tmp 85) 24 rfl w.heap.size 87 ih zh 19 48 Tryz.underlying24 IH.out.1 IH.out.2.1 IH.out.2.2.1 IH.out.2.2.2.1 IH.out.2.2.2.2 (by decide) (.slice A np c) np (ps.flatMap huffC) rfl HX5.out (some ⟨w5.heap.size, 0, none⟩) 1 1 (huffC pn) rfl HR5.out HPN.out.2.2.1 (by unfold maxLen; omega) (by omega) hbs ?_; intro v6 w6 hown6 hgr6 hat6))
          have hgr5 := grown_own (below_grown hal (Value.slice A np c).ownBlock) hgr6 fun g e => .inr e.symm
          have hnew : HsJ w d v6 (ps ++ [pn]) w6 := by
            refine ⟨?_, fun p hp => ?_, grown_own (grown_own HJ5.out.gr (below_grown hal none) fun g e => by cases e) hgr6 fun g e => .inl (HX5.out.lt g e).1⟩
            · rw [List.length_append, List.flatMap_append, HNP.out, show [pn].flatMap huffC = huffC pn by simp]
              exact hown6
            · rcases List.mem_append.1 hp with h9 | h9
              · exact ((HJ5.out.vals p h9).kept hal).beside HX5.out (by decide) hgr6
              · obtain rfl := List.mem_singleton.1 h9
                exact (HPN.out.2.2.2.kept hal).beside HX5.out (by decide) hgr6
          have hdn : StrAt 123 w6 d (r1.drop k) := (StrAt.below5 HD5.out hal).grown hgr6 (fun e => by have := (HX5.out.lt d e.symm).1; omega)
          have hms6 := strLen_at hdn
          have HF := Lib.hid (And.intro hnew (And.intro hdn hms6)); clear hnew hdn hms6 hown6 hgr6 hat6 hgr5 hal hbs
          go_roundw
          case rel => exact ⟨r1.drop k, m, ps ++ [pn], HF.out.1, HF.out.2.1, by rw [List.length_drop]; omega, by rw [List.length_drop]; omega, by have := HNP.out; rw [List.length_append, List.length_drop]; simp; omega, fun h => by rw [List.length_append] at h; simp at h, by
            rw [HQ2.out, List.map_append, if_neg (fun e => by rw [e] at hn2; simp at hn2)]
            simp only [List.map_cons, List.map_nil, HPN.out.1]⟩
          case measure => rw [HF.out.2.2, HMS.out, List.length_drop]; simp; omega
end Go.Proofs.YtjfgfoeenajneaaGreatDoor.Sg
