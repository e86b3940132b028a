/- The program reads a frame. -/
import Derived.Test.YtjfgfoeenajneaaGreatDoorGC0
import Derived.Test.YtjfgfoeenajneaaGreatDoorGC2
namespace Go.Proofs.YtjfgfoeenajneaaGreatDoor.Sg
open Go.RowKit
open Go.Proofs.YtjfgfoeenajneaaGreatDoor.Lex (F)

def rfM (_c : Nat) (d : List UInt8) : Nat :=
  if d.length < 6 ∨ d.length ≠ 6 + 3 * nb d 5 then 152 else if nb d 0 ≠ 8 then 158
  else framedM (nb2 d 3 : Nat) (nb2 d 1 : Nat) (compsM (d.drop 6))
def segF (m : SegM) (c : Nat) (d : List UInt8) : SegM := { m with kind := c, height := (nb2 d 1 : Nat), width := (nb2 d 3 : Nat), comps := compsM (d.drop 6) }
/-- what is read of a frame -/
def RFP (base s : Nat) (m : SegM) (c : Nat) (d : List UInt8) (w : World) (e : Ending) (w' : World) : Prop :=
  e = .returned (.int .i64 (rfM c d : Nat)) ∧ But2 base s s w w' ∧
  (rfM c d = 0 → ∃ vc, Blk w' s 31 (segC (segF m c d) nilS nilS vc nilS nilS) ∧ w'.ownsRow base 90 4 vc (compsM (d.drop 6)).length ((compsM (d.drop 6)).flatMap compC))
theorem wp_store_blk {P : Program} {o : Oper} {a : Act} {K : Act → World → Prop} {Q : Exit → Act → World → Prop} {w : World} (ty : TypeId) (x y : Operand) (ho : o.op = .store ty x y) (g : Nat) (t : TypeId) (cs cs' : Array Value) (hx : a.eval x = .pointer (some ⟨g, 0, none⟩)) (hy : a.eval y = .agg cs')
    (hB : Blk w g t cs) (hi : (P.info? ty).map (·.size) = some cs'.size) (hs : cs.size = cs'.size) (h1 : cs'.all (·.oneCell') = true) (h : K (a.put o.dst undef) (w.setRow g cs')) : o.wp P a w K Q := by
  unfold Oper.wp execOp
  simp only [ho, hx, hy, Instr.storeAt, Instr.sureAddr, Sem.run_bind, Sem.run_pure, Result.andThen_ok, run_storeVar_row w g t ty cs cs' hB hi hs h1]
  exact h
theorem row_ne {w : World} {base g n sz : Nat} {t e : TypeId} {cs : Array Value} {v : Value} {xs : List Value} (h : w.ownsRow base e sz v n xs) (hg : Blk w g t cs) (ht : t ≠ e) : v.ownBlock ≠ some g := by
  intro e9
  rcases h.2 with ⟨rfl, _⟩ | ⟨g', c, cur, rfl, _, hg', _⟩
  · cases e9
  · injection e9 with e9
    subst e9
    unfold Blk at hg
    rw [hg'] at hg
    injection hg with hg
    injection hg with _ h2 _
    exact ht h2.symm
theorem own_rows {w : World} {base n : Nat} {v : Value} {xs : List Value} (h : w.ownsRow base 90 4 v n xs) : ∃ A cap, v = .slice A n cap ∧ Rows 4 w A n xs ∧ n ≤ cap := by
  have h1 := h.1
  rcases h.2 with ⟨rfl, rfl⟩ | ⟨g, cap, cur, rfl, _, hg, hnc, _, hsz, htake⟩
  · exact ⟨none, 0, rfl, ⟨h1, fun h => absurd h (by omega)⟩, Nat.le_refl _⟩
  · refine ⟨_, cap, rfl, ⟨h1, fun _ => ⟨g, 0, rfl, fun j hj => ?_⟩⟩, hnc⟩
    rw [cell_of_row w g (0 + j) cur _ (0, 0) hg, Nat.zero_add, ← htake, List.getElem?_take, if_pos hj]
    simp
theorem compsM_length : ∀ (n : Nat) (l : List UInt8), l.length = 3 * n → (compsM l).length = n
  | 0, l, h => by obtain rfl : l = [] := List.eq_nil_of_length_eq_zero (by omega); rfl
  | n + 1, l, h => by
    match l, h with
    | [], h => simp at h
    | [_], h => (simp at h; try omega)
    | [_, _], h => (simp at h; try omega)
    | a :: b :: c :: l, h => simp only [compsM, List.length_cons]; rw [compsM_length n l (by simp at h; omega)]
theorem compsM_lt : ∀ (l : List UInt8) (c : CompM), c ∈ compsM l → c.id < 256 ∧ c.h < 256 ∧ c.v < 256 ∧ c.q < 256
  | [], c, h => by simp [compsM] at h
  | [_], c, h => by simp [compsM] at h
  | [_, _], c, h => by simp [compsM] at h
  | a :: b :: x :: l, c, h => by
    simp only [compsM, List.mem_cons] at h
    rcases h with rfl | h
    · have := a.toNat_lt; have := b.toNat_lt; have := x.toNat_lt
      refine ⟨by simpa using a.toNat_lt, ?_, ?_, by simpa using x.toNat_lt⟩ <;> (simp; omega)
    · exact compsM_lt l c h
theorem compsM_at : ∀ (k : Nat) (l : List UInt8), 3 * k + 3 ≤ l.length → (compsM l)[k]? = some ⟨nb l (3 * k), nb l (3 * k + 1) / 16, nb l (3 * k + 1) % 16, nb l (3 * k + 2)⟩
  | k, l, h => by
    match l, h with
    | [], h => simp at h
    | [_], h => (simp at h; try omega)
    | [_, _], h => (simp at h; try omega)
    | a :: b :: c :: l, h =>
      cases k with
      | zero => rfl
      | succ k =>
        simp only [compsM, List.getElem?_cons_succ]
        rw [compsM_at k l (by simp at h; omega)]
        rfl
theorem i64_two (a b : Nat) (ha : a ≤ 255) (hb : b ≤ 255) : bits .or .i64 (256 * (a : Int)) (b : Int) = 256 * (a : Int) + (b : Int) := by
  have h8 := Nat.two_pow_add_eq_or_of_lt (i := 8) (b := b) (by omega) a
  rw [show 2 ^ 8 * a = 256 * a from rfl] at h8
  show IntKind.i64.wrap ((BitVec.ofInt 64 (256 * (a : Int)) ||| BitVec.ofInt 64 (b : Int)).toNat : Int) = _
  rw [show 256 * (a : Int) = ((256 * a : Nat) : Int) by omega, BitVec.toNat_or, ofInt_u64 _ (by omega), ofInt_u64 b (by omega), ← h8, IntKind.wrap_i64]
  omega
theorem infoC4 : (Tryz.prog.info? 90).map (fun i => (i.zero, i.size, i.bytes)) = some (some (.agg #[.int .u8 0, .int .u8 0, .int .u8 0, .int .u8 0]), 4, 4) := by kernel_rfl
set_option maxRecDepth 100000 in
set_option maxHeartbeats 32000000 in
theorem readFrame_any (base s : Nat) (m : SegM) (d : List UInt8) (w : World) (hS : Blk w s 31 (segC m nilS nilS nilS nilS nilS)) (hs : s < base) (hb : base ≤ w.heap.size) (_hc8 : m.code < 256) (hl : d.length ≤ 16777216) :
    Calls Tryz.prog 68 #[.pointer (some ⟨s, 0, none⟩), .string (Bs d)] w (RFP base s m m.code d w) := by
  have hL : (Bs d).size = d.length := Bs_size d
  have hbyte : ∀ k, ∀ h : k < (Bs d).size, ((Bs d)[k]).toNat = nb d k := fun k h => by rw [Bs_get]; rfl
  obtain ⟨n, hn⟩ : ∃ n, d.length = n := ⟨_, rfl⟩
  rw [hn] at hL hl
  have HNN := Lib.hid hn; clear hn
  generalize Bs d = LB at hL hbyte ⊢
  have HBY := Lib.hid hbyte; clear hbyte
  by_cases h6 : n < 6
  · have hres : rfM m.code d = 152 := by unfold rfM; rw [HNN.out, if_pos (.inl h6)]
    have HR := Lib.hid hres; clear hres
    have h6b : (n : Int) < 6 := by omega
    go_enter Tryz.func68, Tryz.ntmps68
    go_wp2_with fail
    go_ret
    unfold RFP
    rw [HR.out]
    exact ⟨rfl, But2.refl _ _ _ _, fun h => by cases h⟩
  have h6b : ¬ (n : Int) < 6 := by omega
  have h5i : (5 : Int) < n := by omega
  have hb5 : ∀ h : 5 < LB.size, (LB[5]).toNat = nb d 5 := HBY.out 5
  have hx5 := nb_lt d 5
  generalize hc : nb d 5 = c at hb5 hx5
  have HCC := Lib.hid hc; clear hc
  by_cases hn6 : n = 6 + 3 * c
  case neg =>
    have hres : rfM m.code d = 152 := by unfold rfM; rw [HNN.out, HCC.out, if_pos (.inr hn6)]
    have HR := Lib.hid hres; clear hres
    have hw1 : IntKind.i64.wrap (3 * (c : Int)) = 3 * (c : Int) := IntWalk.i64_in _ (by omega)
    have hw2 : IntKind.i64.wrap (6 + 3 * (c : Int)) = 6 + 3 * (c : Int) := IntWalk.i64_in _ (by omega)
    have hneb : ((n : Int) != 6 + 3 * (c : Int)) = true := by simp; omega
    have hnec : ¬ (n : Int) = 6 + 3 * (c : Int) := by omega
    go_enter Tryz.func68, Tryz.ntmps68
    go_wp2_with fail
    go_ret
    unfold RFP
    rw [HR.out]
    exact ⟨rfl, But2.refl _ _ _ _, fun h => by cases h⟩
  have hw1 : IntKind.i64.wrap (3 * (c : Int)) = 3 * (c : Int) := IntWalk.i64_in _ (by omega)
  have hw2 : IntKind.i64.wrap (6 + 3 * (c : Int)) = 6 + 3 * (c : Int) := IntWalk.i64_in _ (by omega)
  have hnI : (n : Int) = 6 + 3 * (c : Int) := by omega
  have hneb : ((n : Int) != 6 + 3 * (c : Int)) = false := by simp; omega
  have hnec : (6 + 3 * (c : Int) != 6 + 3 * (c : Int)) = false := by simp
  have h5i2 : (5 : Int) < 6 + 3 * (c : Int) := by omega
  have HN6 := Lib.hid hn6
  have hb0 : ∀ h : 0 < LB.size, (LB[0]).toNat = nb d 0 := HBY.out 0
  have hx0 := nb_lt d 0
  generalize h0 : nb d 0 = b0 at hb0 hx0
  have HB0 := Lib.hid h0; clear h0
  by_cases h8 : b0 = 8
  case neg =>
    have hres : rfM m.code d = 158 := by unfold rfM; rw [HNN.out, HCC.out, if_neg (by omega), HB0.out, if_pos h8]
    have HR := Lib.hid hres; clear hres
    have h8b : ((b0 : Int) != 8) = true := by simp; omega
    have h8c : ¬ (b0 : Int) = 8 := by omega
    have h0i : (0 : Int) < n := by omega
    clear hnI hn6
    go_enter Tryz.func68, Tryz.ntmps68
    go_wp2_with fail
    go_ret
    unfold RFP
    rw [HR.out]
    exact ⟨rfl, But2.refl _ _ _ _, fun h => by cases h⟩
  subst h8
  have hrf : rfM m.code d = framedM (nb2 d 3 : Nat) (nb2 d 1 : Nat) (compsM (d.drop 6)) := by
    unfold rfM
    rw [HNN.out, HCC.out, if_neg (by omega), HB0.out, if_neg (by simp)]
  have HRF := Lib.hid hrf; clear hrf
  have hs0 : w.cell? ⟨s, 0, none⟩ = some (.int .u8 (m.code : Nat)) := by rw [hS.cell]; rfl
  have hy1 : ∀ h : 1 < LB.size, (LB[1]).toNat = nb d 1 := HBY.out 1
  have hx1 := nb_lt d 1
  have h1i : (1 : Int) < n := by omega
  have hy2 : ∀ h : 2 < LB.size, (LB[2]).toNat = nb d 2 := HBY.out 2
  have hx2 := nb_lt d 2
  have h2i : (2 : Int) < n := by omega
  have hy3 : ∀ h : 3 < LB.size, (LB[3]).toNat = nb d 3 := HBY.out 3
  have hx3 := nb_lt d 3
  have h3i : (3 : Int) < n := by omega
  have hy4 : ∀ h : 4 < LB.size, (LB[4]).toNat = nb d 4 := HBY.out 4
  have hx4 := nb_lt d 4
  have h4i : (4 : Int) < n := by omega
  have hq1 : nb2 d 1 = 256 * nb d 1 + nb d 2 := rfl
  have hq3 : nb2 d 3 = 256 * nb d 3 + nb d 4 := rfl
  generalize nb d 1 = B1 at *
  generalize nb d 2 = B2 at *
  generalize nb d 3 = B3 at *
  generalize nb d 4 = B4 at *
  have hwc1 : IntKind.i64.wrap ((B1 : Int) * 256) = 256 * (B1 : Int) := by rw [IntKind.wrap_i64]; omega
  have hor1 : bits .or .i64 (256 * (B1 : Int)) (B2 : Int) = 256 * (B1 : Int) + (B2 : Int) := i64_two B1 B2 (by omega) (by omega)
  have hwc3 : IntKind.i64.wrap ((B3 : Int) * 256) = 256 * (B3 : Int) := by rw [IntKind.wrap_i64]; omega
  have hor3 : bits .or .i64 (256 * (B3 : Int)) (B4 : Int) = 256 * (B3 : Int) + (B4 : Int) := i64_two B3 B4 (by omega) (by omega)
  have hwx1 : IntKind.i64.wrap (B1 : Int) = B1 := IntWalk.i64_in _ (by omega)
  have hwx2 : IntKind.i64.wrap (B2 : Int) = B2 := IntWalk.i64_in _ (by omega)
  have hwx3 : IntKind.i64.wrap (B3 : Int) = B3 := IntWalk.i64_in _ (by omega)
  have hwx4 : IntKind.i64.wrap (B4 : Int) = B4 := IntWalk.i64_in _ (by omega)
  have HQ := Lib.hid (And.intro hq1 hq3); clear hq1 hq3
  have h0i : (0 : Int) < n := by omega
  clear hnI hn6 hnec h5i2
  go_enter Tryz.func68, Tryz.ntmps68
  go_upto_region 5 with fail
  refine Lex3.wp_region_lex [] (fun u => u.cell? ⟨s, 0, none⟩ = some (.int .u8 (m.code : Nat))) (fun u n h => h) hs0 (by kernel_rfl) (by kernel_rfl) ?_
  try simp only [Act.put, zA, zB, zC]
  iterate 3 (refine Lex3.run_free (v := ?_) (by rfl) (by rfl) (fun u => ?_) ?_; rotate_left; (go_simp; try with_reducible rfl); simp only [Act.put, zA, zB, zC])
  refine Lex3.run_load (v := ?_) (by rfl) (by rfl) (fun u hu => ?_) ?_; rotate_left; (go_simp; try with_reducible rfl); simp only [Act.put, zA, zB, zC]
  iterate 17 (refine Lex3.run_free (v := ?_) (by rfl) (by rfl) (fun u => ?_) ?_; rotate_left; (go_simp; try with_reducible rfl); simp only [Act.put, zA, zB, zC])

  have HF0 := Lib.hid (And.intro hS hs0); clear hS hs0
  refine Lex3.run_eff (by rfl) (by rfl) (fun n1 K1 hK1 => ?_)
  have hS1 : Blk (w.drew.drewN n1) s 31 (segC m nilS nilS nilS nilS nilS) := HF0.out.1
  have hb1 : Below w.heap.size w (w.drew.drewN n1) := below_drewN (below_drewN (Below.refl _ _) 1) n1
  have hz1 : w.heap.size = (w.drew.drewN n1).heap.size := rfl
  generalize w.drew.drewN n1 = W1 at hS1 hb1 hz1 ⊢
  go_simp
  have hS2 := hS1.alloc (.cells #[.int .u8 0, .int .i64 0, .int .i64 0, .slice none 0 0] 27)
  have hF2 := Blk.new W1 27 #[.int .u8 0, .int .i64 0, .int .i64 0, .slice none 0 0]
  have hb2 := hb1.alloc hb1.size (.cells #[.int .u8 0, .int .i64 0, .int .i64 0, .slice none 0 0] 27)
  refine hK1 _ _ (by rw [hS2.cell]; rfl) ?_
  clear hK1 K1 hS1 hb1
  generalize hg : W1.heap.size = g at hF2 hz1 ⊢
  generalize W1.alloc (.cells #[.int .u8 0, .int .i64 0, .int .i64 0, .slice none 0 0] 27) = W2 at hS2 hF2 hb2 ⊢
  clear hg
  try simp only [Act.put, zA, zB, zC]


  refine Lex3.run_eff (by rfl) (by rfl) (fun n2 K2 hK2 => ?_)
  have hS3 : Blk (W2.drewN n2) s 31 (segC m nilS nilS nilS nilS nilS) := hS2
  have hF3 : Blk (W2.drewN n2) g 27 #[.int .u8 0, .int .i64 0, .int .i64 0, .slice none 0 0] := hF2
  have hb3 := below_drewN hb2 n2
  clear hS2 hF2 hb2
  generalize W2.drewN n2 = W3 at hS3 hF3 hb3 ⊢
  have HS4 := Lib.hid (show (Tryz.prog.info? 27).map (·.size) = some (#[.int .u8 (m.code : Int), .int .i64 (256 * (B3 : Int) + (B4 : Int)), .int .i64 (256 * (B1 : Int) + (B2 : Int)), .slice none 0 0] : Array Value).size from size4)
  refine wp_store_blk 27 (.tmp 5) (.tmp 44) (by rfl) g 27 #[.int .u8 0, .int .i64 0, .int .i64 0, .slice none 0 0] #[.int .u8 (m.code : Int), .int .i64 (256 * (B3 : Int) + (B4 : Int)), .int .i64 (256 * (B1 : Int) + (B2 : Int)), .slice none 0 0] (by rfl) (by rfl) hF3 HS4.out rfl (all_oneCell_toArray (by intro u hu; simp at hu; rcases hu with rfl | rfl | rfl | rfl <;> rfl)) ?_
  have hF4 := hF3.row (ds := #[.int .u8 (m.code : Int), .int .i64 (256 * (B3 : Int) + (B4 : Int)), .int .i64 (256 * (B1 : Int) + (B2 : Int)), .slice none 0 0])
  have hS4 := hS3.rowFar (ds := #[.int .u8 (m.code : Int), .int .i64 (256 * (B3 : Int) + (B4 : Int)), .int .i64 (256 * (B1 : Int) + (B2 : Int)), .slice none 0 0]) (g' := g) (by omega)
  have hb4 : Below w.heap.size w (W3.setRow g #[.int .u8 (m.code : Int), .int .i64 (256 * (B3 : Int) + (B4 : Int)), .int .i64 (256 * (B1 : Int) + (B2 : Int)), .slice none 0 0]) := grown_below (grown_row (below_grown hb3 none) (.inl (by omega)) _)
  refine hK2 _ _ (by rw [hS4.cell]; rfl) ?_
  clear hK2 K2 hS3 hF3 hb3
  generalize W3.setRow g #[.int .u8 (m.code : Int), .int .i64 (256 * (B3 : Int) + (B4 : Int)), .int .i64 (256 * (B1 : Int) + (B2 : Int)), .slice none 0 0] = W4 at hS4 hF4 hb4 ⊢
  try simp only [Act.put]


  refine Lex3.run_nil (fun n3 => ?_)
  have hS5 : Blk (W4.drewN n3) s 31 (segC m nilS nilS nilS nilS nilS) := hS4
  have hF5 : Blk (W4.drewN n3) g 27 #[.int .u8 (m.code : Int), .int .i64 (256 * (B3 : Int) + (B4 : Int)), .int .i64 (256 * (B1 : Int) + (B2 : Int)), .slice none 0 0] := hF4
  have hb5w := below_drewN hb4 n3
  clear hS4 hF4 hb4
  generalize W4.drewN n3 = W5 at hS5 hF5 hb5w ⊢
  have hgb : base ≤ g := by omega
  have hz5 : base ≤ W5.heap.size := by have := hb5w.size; omega
  have hB5 : But2 base s s w W5 := But2.of_below (hb5w.mono hb)
  clear hb5w HF0 hb0 hx0 hy1 hy2 hy3 hy4 h1i h2i h3i h4i hwc1 hwc3 hor1 hor3 hwx1 hwx2 hwx3 hwx4 h0i
  go_upto_region 7 with fail
  have hdl : (d.drop 6).length = 3 * c := by rw [List.length_drop, HNN.out]; have := HN6.out; omega
  have hcl := compsM_length c (d.drop 6) hdl
  have HCL := Lib.hid (And.intro hdl hcl); clear hdl hcl
  generalize hwd : (256 * (B3 : Int) + (B4 : Int)) = wd at hF5 ⊢
  generalize hht : (256 * (B1 : Int) + (B2 : Int)) = ht at hF5 ⊢
  have HWH := Lib.hid (And.intro hwd hht); clear hwd hht
  go_loopw [6] (fun i wr => ∃ (k : Nat) (v : Value), k ≤ c ∧ i = .int .i64 ((6 + 3 * k : Nat) : Int) ∧ Blk wr g 27 #[.int .u8 (m.code : Int), .int .i64 wd, .int .i64 ht, v] ∧ wr.ownsRow base 90 4 v k (((compsM (d.drop 6)).take k).flatMap compC) ∧ Blk wr s 31 (segC m nilS nilS nilS nilS nilS) ∧ But2 base s s w wr ∧ base ≤ wr.heap.size) (fun i _ => n - (intOf i).toNat)
  case atStart => exact ⟨0, nilS, by omega, rfl, hF5, World.ownsRow_nil _ _ _ _, hS5, hB5, hz5⟩
  clear hF5 hS5 hB5 hz5
  case round =>
    obtain ⟨k, v, hk, rfl, hF, hown, hS, hbut, hz⟩ := hrel
    obtain ⟨p, hp⟩ : ∃ p, 6 + 3 * k = p := ⟨_, rfl⟩
    rw [hp]
    by_cases hlt : k < c
    · have hpn : p + 2 < n := by have := HN6.out; omega
      have hca : (compsM (d.drop 6))[k]? = some ⟨nb d p, nb d (p + 1) / 16, nb d (p + 1) % 16, nb d (p + 2)⟩ := by
        rw [compsM_at k (d.drop 6) (by rw [HCL.out.1]; omega)]
        simp only [nb_drop]
        rw [← hp]
        rfl
      have hby0 : ∀ h : p < LB.size, (LB[p]).toNat = nb d p := HBY.out p
      have hby1 : ∀ h : p + 1 < LB.size, (LB[p + 1]).toNat = nb d (p + 1) := HBY.out (p + 1)
      have hby2 : ∀ h : p + 2 < LB.size, (LB[p + 2]).toNat = nb d (p + 2) := HBY.out (p + 2)
      have hz0 := nb_lt d p
      have hz1 := nb_lt d (p + 1)
      have hz2 := nb_lt d (p + 2)
      generalize nb d p = X0 at *
      generalize nb d (p + 1) = X1 at *
      generalize nb d (p + 2) = X2 at *
      obtain ⟨h, hh⟩ : ∃ h, X1 / 16 = h := ⟨_, rfl⟩
      obtain ⟨u, hu⟩ : ∃ u, X1 % 16 = u := ⟨_, rfl⟩
      rw [hh, hu] at hca
      have g1 : (X1 : Int) / 16 = (h : Int) := by omega
      have gand : bits .and .u8 (X1 : Int) 15 = (u : Int) := by
        have h9 := u8_and_nat X1 15 (by omega) (by omega)
        rw [show X1 &&& 15 = X1 % 16 from Nat.and_two_pow_sub_one_eq_mod X1 4, hu] at h9
        simpa using h9
      have hnx : ((compsM (d.drop 6)).take (k + 1)).flatMap compC = ((compsM (d.drop 6)).take k).flatMap compC ++ [.int .u8 (X0 : Int), .int .u8 (h : Int), .int .u8 (u : Int), .int .u8 (X2 : Int)] := by
        rw [take_next hca, List.flatMap_append]
        simp [compC]
      have HNX := Lib.hid (And.intro hnx hp); clear hnx hca hh hu
      generalize ((compsM (d.drop 6)).take k).flatMap compC = xs at hown HNX
      have hpi : (p : Int) < n := by omega
      have hp1i : (p : Int) + 1 < n := by omega
      have hp2i : (p : Int) + 2 < n := by omega
      have hp0 : 0 ≤ (p : Int) := by omega
      have hp10 : 0 ≤ (p : Int) + 1 := by omega
      have hp20 : 0 ≤ (p : Int) + 2 := by omega
      have hw1p : IntKind.i64.wrap ((p : Int) + 1) = (p : Int) + 1 := IntWalk.i64_in _ (by omega)
      have hw2p : IntKind.i64.wrap ((p : Int) + 2) = (p : Int) + 2 := IntWalk.i64_in _ (by omega)
      have ht1 : ((p : Int) + 1).toNat = p + 1 := by omega
      have ht2 : ((p : Int) + 2).toNat = p + 2 := by omega
      have HK := Lib.hid (And.intro hk (And.intro hp hlt)); clear hk hp hlt
      have hI : wr.cell? ⟨g, 3, none⟩ = some v := by rw [hF.cell]; rfl
      go_upto_region 9 with fail
      refine LexZ.wp_region [] 23 rfl _ rfl rfl (fun u => u.cell? ⟨g, 3, none⟩ = some v) (fun u n h => h) hI (by kernel_rfl) ?_
      refine LexZ.take 0 (by rfl) (by kernel_rfl) (Lex4.free_ (v := ?_) (by rfl) (by rfl) (fun u => ?_) ?_); rotate_left; (go_simp; try with_reducible rfl); simp only [Act.put, zA, zB, zC]
      refine LexZ.take 1 (by rfl) (by kernel_rfl) (Lex4.load_ (v := ?_) (by rfl) (by rfl) (fun u hu => ?_) ?_); rotate_left; (go_simp; try with_reducible rfl); simp only [Act.put, zA, zB, zC]
      refine LexZ.take 2 (by rfl) (by kernel_rfl) (Lex4.free_ (v := ?_) (by rfl) (by rfl) (fun u => ?_) ?_); rotate_left; (go_simp; try with_reducible rfl); simp only [Act.put, zA, zB, zC]
      refine LexZ.take 3 (by rfl) (by kernel_rfl) (Lex4.free_ (v := ?_) (by rfl) (by rfl) (fun u => ?_) ?_); rotate_left; (go_simp; try with_reducible rfl); simp only [Act.put, zA, zB, zC]
      refine LexZ.take 4 (by rfl) (by kernel_rfl) (Lex4.free_ (v := ?_) (by rfl) (by rfl) (fun u => ?_) ?_); rotate_left; (go_simp; try with_reducible rfl); simp only [Act.put, zA, zB, zC]
      refine LexZ.take 5 (by rfl) (by kernel_rfl) (Lex4.free_ (v := ?_) (by rfl) (by rfl) (fun u => ?_) ?_); rotate_left; (go_simp; try with_reducible rfl); simp only [Act.put, zA, zB, zC]
      refine LexZ.take 6 (by rfl) (by kernel_rfl) (Lex4.free_ (v := ?_) (by rfl) (by rfl) (fun u => ?_) ?_); rotate_left; (go_simp; try with_reducible rfl); simp only [Act.put, zA, zB, zC]
      refine LexZ.take 7 (by rfl) (by kernel_rfl) (Lex4.free_ (v := ?_) (by rfl) (by rfl) (fun u => ?_) ?_); rotate_left; (go_simp; try with_reducible rfl); simp only [Act.put, zA, zB, zC]
      refine LexZ.take 8 (by rfl) (by kernel_rfl) (Lex4.free_ (v := ?_) (by rfl) (by rfl) (fun u => ?_) ?_); rotate_left; (go_simp; try with_reducible rfl); simp only [Act.put, zA, zB, zC]
      refine LexZ.take 9 (by rfl) (by kernel_rfl) (Lex4.free_ (v := ?_) (by rfl) (by rfl) (fun u => ?_) ?_); rotate_left; (go_simp; try with_reducible rfl); simp only [Act.put, zA, zB, zC]
      refine LexZ.take 10 (by rfl) (by kernel_rfl) (Lex4.free_ (v := ?_) (by rfl) (by rfl) (fun u => ?_) ?_); rotate_left; (go_simp; try with_reducible rfl); simp only [Act.put, zA, zB, zC]
      refine LexZ.take 11 (by rfl) (by kernel_rfl) (Lex4.free_ (v := ?_) (by rfl) (by rfl) (fun u => ?_) ?_); rotate_left; (go_simp; try with_reducible rfl); simp only [Act.put, zA, zB, zC]
      refine LexZ.take 12 (by rfl) (by kernel_rfl) (Lex4.free_ (v := ?_) (by rfl) (by rfl) (fun u => ?_) ?_); rotate_left; (go_simp; try with_reducible rfl); simp only [Act.put, zA, zB, zC]
      refine LexZ.take 13 (by rfl) (by kernel_rfl) (Lex4.free_ (v := ?_) (by rfl) (by rfl) (fun u => ?_) ?_); rotate_left; (go_simp; try with_reducible rfl); simp only [Act.put, zA, zB, zC]
      refine LexZ.take 14 (by rfl) (by kernel_rfl) (Lex4.free_ (v := ?_) (by rfl) (by rfl) (fun u => ?_) ?_); rotate_left; (go_simp; try with_reducible rfl); simp only [Act.put, zA, zB, zC]
      refine LexZ.take 15 (by rfl) (by kernel_rfl) (Lex4.free_ (v := ?_) (by rfl) (by rfl) (fun u => ?_) ?_); rotate_left; (go_simp; try with_reducible rfl); simp only [Act.put, zA, zB, zC]
      refine LexZ.take 16 (by rfl) (by kernel_rfl) (Lex4.free_ (v := ?_) (by rfl) (by rfl) (fun u => ?_) ?_); rotate_left; (go_simp; try with_reducible rfl); simp only [Act.put, zA, zB, zC]
      refine LexZ.take 17 (by rfl) (by kernel_rfl) (Lex4.free_ (v := ?_) (by rfl) (by rfl) (fun u => ?_) ?_); rotate_left; (go_simp; try with_reducible rfl); simp only [Act.put, zA, zB, zC]
      refine LexZ.take 18 (by rfl) (by kernel_rfl) (Lex4.free_ (v := ?_) (by rfl) (by rfl) (fun u => ?_) ?_); rotate_left; (go_simp; try with_reducible rfl); simp only [Act.put, zA, zB, zC]
      refine LexZ.take 19 (by rfl) (by kernel_rfl) (Lex4.free_ (v := ?_) (by rfl) (by rfl) (fun u => ?_) ?_); rotate_left; (go_simp; try with_reducible rfl); simp only [Act.put, zA, zB, zC]
      obtain ⟨ic, ic1, ic2, ic3, ic4⟩ := info_parts infoC4
      obtain ⟨zcv, hzcv⟩ : ∃ z, z = Value.agg #[.int .u8 0, .int .u8 0, .int .u8 0, .int .u8 0] := ⟨_, rfl⟩
      rw [← hzcv] at ic2
      have ic5 : zcv.cells.size = 4 := by rw [hzcv]; rfl
      clear hzcv
      have IC := Lib.hid (And.intro ic1 (And.intro ic2 (And.intro ic3 (And.intro ic4 ic5)))); clear ic1 ic2 ic3 ic4 ic5
      have hF5 : Blk wr.drew g 27 #[.int .u8 (m.code : Int), .int .i64 wd, .int .i64 ht, v] := hF
      have hS5 : Blk wr.drew s 31 (segC m nilS nilS nilS nilS nilS) := hS
      have ho5 : wr.drew.ownsRow base 90 4 v k xs := hown
      have hb5 : But2 base s s w wr.drew := hbut.drew 1
      have hz5 : base ≤ wr.drew.heap.size := hz
      clear hF hS hown hbut hz hI
      generalize wr.drew = W0 at hF5 hS5 ho5 hb5 hz5 ⊢
      refine LexZ.take 20 (by rfl) (by kernel_rfl) (Lex4.eff_ (by rfl) (by rfl) (fun n1 K1 hK1 => ?_))
      have hF6 : Blk (W0.drewN n1) g 27 #[.int .u8 (m.code : Int), .int .i64 wd, .int .i64 ht, v] := hF5
      have hS6 : Blk (W0.drewN n1) s 31 (segC m nilS nilS nilS nilS nilS) := hS5
      have ho6 : (W0.drewN n1).ownsRow base 90 4 v k xs := ho5
      have hb6 : But2 base s s w (W0.drewN n1) := hb5.drew n1
      have hz6 : base ≤ (W0.drewN n1).heap.size := hz5
      clear hF5 hS5 ho5 hb5 hz5
      generalize W0.drewN n1 = W1 at hF6 hS6 ho6 hb6 hz6 ⊢
      refine wp_buildOne 25 90 (.tmp 70) rfl #[.int .u8 (X0 : Int), .int .u8 (h : Int), .int .u8 (u : Int), .int .u8 (X2 : Int)] rfl ic zcv 4 Tryz.underlying25 IC.out.1 IC.out.2.1 IC.out.2.2.1 rfl (by decide) (by decide) ?_
      have hF7 := hF6.alloc (.cells #[.int .u8 (X0 : Int), .int .u8 (h : Int), .int .u8 (u : Int), .int .u8 (X2 : Int)] 90)
      have hS7 := hS6.alloc (.cells #[.int .u8 (X0 : Int), .int .u8 (h : Int), .int .u8 (u : Int), .int .u8 (X2 : Int)] 90)
      have ho7 := ho6.alloc (.cells #[.int .u8 (X0 : Int), .int .u8 (h : Int), .int .u8 (u : Int), .int .u8 (X2 : Int)] 90)
      have hb7 : But2 base s s w (W1.alloc (.cells #[.int .u8 (X0 : Int), .int .u8 (h : Int), .int .u8 (u : Int), .int .u8 (X2 : Int)] 90)) := hb6.trans (But2.of_below ((Below.refl _ _).alloc hz6 _))
      have hn7 := Blk.new W1 90 #[.int .u8 (X0 : Int), .int .u8 (h : Int), .int .u8 (u : Int), .int .u8 (X2 : Int)]
      have hz7 : base ≤ (W1.alloc (.cells #[.int .u8 (X0 : Int), .int .u8 (h : Int), .int .u8 (u : Int), .int .u8 (X2 : Int)] 90)).heap.size := by simp; omega
      refine hK1 _ _ (by rw [hF7.cell]; rfl) ?_
      clear hF6 hS6 ho6 hb6 hK1 K1
      generalize hbn : W1.heap.size = bn at hn7 hz6 ⊢
      generalize W1.alloc (.cells #[.int .u8 (X0 : Int), .int .u8 (h : Int), .int .u8 (u : Int), .int .u8 (X2 : Int)] 90) = W2 at hF7 hS7 ho7 hb7 hn7 hz7 ⊢
      clear hbn
      try simp only [Act.put, zA, zB, zC]
      refine LexZ.take 21 (by rfl) (by kernel_rfl) (Lex4.eff_ (by rfl) (by rfl) (fun n2 K2 hK2 => ?_))
      have hF8 : Blk (W2.drewN n2) g 27 #[.int .u8 (m.code : Int), .int .i64 wd, .int .i64 ht, v] := hF7
      have hS8 : Blk (W2.drewN n2) s 31 (segC m nilS nilS nilS nilS nilS) := hS7
      have ho8 : (W2.drewN n2).ownsRow base 90 4 v k xs := ho7
      have hb8 : But2 base s s w (W2.drewN n2) := hb7.drew n2
      have hn8 : Blk (W2.drewN n2) bn 90 #[.int .u8 (X0 : Int), .int .u8 (h : Int), .int .u8 (u : Int), .int .u8 (X2 : Int)] := hn7
      have hz8 : base ≤ (W2.drewN n2).heap.size := hz7
      clear hF7 hS7 ho7 hb7 hn7 hz7
      generalize W2.drewN n2 = W3 at hF8 hS8 ho8 hb8 hn8 hz8 ⊢
      refine wp_append_lies W3 (.tmp 52) (.tmp 71) 25 rfl base 90 ic zcv 4 4 Tryz.underlying25 IC.out.1 IC.out.2.1 IC.out.2.2.1 IC.out.2.2.2.1 IC.out.2.2.2.2 (by decide) v k xs (by rfl) ho8 ⟨bn, 0, none⟩ 1 1 [.int .u8 (X0 : Int), .int .u8 (h : Int), .int .u8 (u : Int), .int .u8 (X2 : Int)] (by rfl) rfl (fun i u hu => by rw [Addr.add_mid, hn8.cell, Nat.zero_add]; simpa using hu) (by intro u hu; simp at hu; rcases hu with rfl | rfl | rfl | rfl <;> rfl) (by decide) (by unfold maxLen; have := HK.out; omega) (by have := HK.out; omega) hz8 W3.heap.size rfl ?_
      intro gg cap2 W4 ho9 hgr9 hat9 hlt9
      have hne : ∀ g, v.ownBlock = some g → base ≤ g := fun g e => (ho8.lt g e).1
      have hS9 := hS8.grown hgr9 (fun e => by have := hne s e.symm; omega)
      have hF9 := hF8.grown hgr9 (fun e => row_ne ho8 hF8 (by decide) e.symm)
      have hb9 := hb8.trans (But2.of_grown hgr9 (fun g e => .inr (.inr (hne g e))) hz8)
      refine hK2 _ _ (by rw [hF9.cell]; rfl) ?_
      clear hK2 K2 hS8 hF8 ho8 hb8 hn8
      try simp only [Act.put, zA, zB, zC]
      refine LexZ.take 22 (by rfl) (by kernel_rfl) (Lex4.free_ (v := ?_) (by rfl) (by rfl) (fun u => ?_) ?_); rotate_left; (go_simp; try with_reducible rfl); simp only [Act.put, zA, zB, zC]
      refine LexZ.done (by kernel_rfl) (by kernel_rfl) (fun n9 => ?_)
      have hS10 : Blk (W4.drewN n9) s 31 (segC m nilS nilS nilS nilS nilS) := hS9
      have hF10 : Blk (W4.drewN n9) g 27 #[.int .u8 (m.code : Int), .int .i64 wd, .int .i64 ht, v] := hF9
      have hb10 := hb9.drew n9
      have hz10 : base ≤ (W4.drewN n9).heap.size := Nat.le_trans hz8 hgr9.size
      have ho10 : (W4.drewN n9).ownsRow base 90 4 (.slice (some ⟨gg, 0, none⟩) (k + 1) cap2) (k + 1) (xs ++ [.int .u8 (X0 : Int), .int .u8 (h : Int), .int .u8 (u : Int), .int .u8 (X2 : Int)]) := ho9
      clear hS9 hF9 ho9 hb9 hgr9 hat9 hlt9
      generalize W4.drewN n9 = W5 at hS10 hF10 ho10 hb10 hz10 ⊢
      have hc10 : W5.cell? ⟨g, 3, none⟩ = some v := by rw [hF10.cell]; rfl
      have hf10 : W5.frozen? ⟨g, 3, none⟩ = false := hF10.frozen _
      have hF11 := hF10.set 3 (.slice (some ⟨gg, 0, none⟩) (k + 1) cap2)
      have hS11 := hS10.far (p := ⟨g, 3, none⟩) (show s ≠ g by omega) (.slice (some ⟨gg, 0, none⟩) (k + 1) cap2)
      have ho11 := own_keep ho10 (w' := W5.setCell ⟨g, 3, none⟩ (.slice (some ⟨gg, 0, none⟩) (k + 1) cap2)) (fun g' hg' => Below.heap_setCell W5 _ _ g' (fun e => row_ne ho10 hF10 (by decide) (by rw [← (show g' = g from e)]; exact hg')))
      have hb11 : But2 base s s w (W5.setCell ⟨g, 3, none⟩ (.slice (some ⟨gg, 0, none⟩) (k + 1) cap2)) := hb10.trans (But2.of_grown (w5_one W5 g _) (fun g' e => .inr (.inr (by injection e with e; omega))) hz10)
      have hz11 : base ≤ (W5.setCell ⟨g, 3, none⟩ (.slice (some ⟨gg, 0, none⟩) (k + 1) cap2)).heap.size := by simp; omega
      have HF := Lib.hid (And.intro hS11 (And.intro hF11 (And.intro ho11 (And.intro hb11 hz11)))); clear hS11 hF11 ho11 hb11 hz11 hS10 hF10 ho10 hb10 hz10
      have hw3 : IntKind.i64.wrap ((p : Int) + 3) = (p : Int) + 3 := IntWalk.i64_in _ (by omega)
      go_simp
      go_wp2_with fail
      go_roundw
      case rel => exact ⟨k + 1, _, by have := HK.out; omega, by have := HK.out.2.1; go_num, HF.out.2.1, by rw [HNX.out.1]; exact HF.out.2.2.1, HF.out.1, HF.out.2.2.2⟩
      case measure => simp [intOf]; omega
    · obtain rfl : k = c := by omega
      have hall : (compsM (d.drop 6)).take k = compsM (d.drop 6) := List.take_of_length_le (by rw [HCL.out.2]; exact Nat.le_refl _)
      rw [hall] at hown
      obtain ⟨A, cap, rfl, hrows, hcap⟩ := own_rows hown
      have hb8 : ∀ c ∈ compsM (d.drop 6), c.id < 256 ∧ c.h < 256 ∧ c.v < 256 ∧ c.q < 256 := fun c hc => compsM_lt _ c hc
      have HB := Lib.hid (And.intro hb8 (And.intro hrows hcap)); clear hb8 hrows hcap hall
      have HOW := Lib.hid hown; clear hown
      generalize hL9 : compsM (d.drop 6) = comps at *
      have HS4 := Lib.hid (show (Tryz.prog.info? 27).map (·.size) = some (#[.int .u8 (m.code : Int), .int .i64 wd, .int .i64 ht, .slice A k cap] : Array Value).size from size4)
      have hpk : ¬ (p : Int) < n := by have := HN6.out; omega
      clear hp hk hlt
      go_wp2_with (refine wpList_load_row rfl _ _ rfl g rfl _ _ _ _ hF Tryz.underlying27 rfl HS4.out ?_)
      refine (framed_any m.code wd ht comps A k cap wr HB.out.2.1 (by omega) HB.out.1 HB.out.2.2).mono ?_
      rintro e w5 ⟨rfl, hb5⟩
      have hF5 := hF.kept hb5
      have hS5 := hS.kept hb5
      have hB5 := hbut.trans (But2.of_below (hb5.mono hz))
      have hz5 : base ≤ w5.heap.size := Nat.le_trans hz hb5.size
      have ho5 : w5.ownsRow base 90 4 (.slice A k cap) k (comps.flatMap compC) := own_keep HOW.out (w' := w5) (fun g' hg' => hb5.block g' (HOW.out.lt g' hg').2)
      have hwn : wd = (nb2 d 3 : Nat) := by rw [← HWH.out.1, HQ.out.2]; omega
      have hhn : ht = (nb2 d 1 : Nat) := by rw [← HWH.out.2, HQ.out.1]; omega
      have hrf := HRF.out
      rw [← hwn, ← hhn] at hrf
      generalize framedM wd ht comps = fe at hrf ⊢
      have HR := Lib.hid hrf; clear hrf
      have HWN := Lib.hid (And.intro hwn hhn); clear hwn hhn
      clear hF hS hbut hz hb5 HOW
      by_cases h0 : fe = 0
      case neg =>
        have hcb : ((fe : Int) != 0) = true := by simpa using h0
        have hcb2 : ¬ ((fe : Int) = 0) := by omega
        go_wp2_with fail
        go_ret
        unfold RFP
        rw [HR.out]
        exact ⟨rfl, hB5, fun h => absurd h h0⟩
      subst h0
      have e5 : w5.cell? ⟨s, 5, none⟩ = some (.int .u8 (m.kind : Nat)) := by rw [hS5.cell]; rfl
      have e6 : w5.cell? ⟨s, 6, none⟩ = some (.int .i64 m.width) := by rw [hS5.cell]; rfl
      have e7 : w5.cell? ⟨s, 7, none⟩ = some (.int .i64 m.height) := by rw [hS5.cell]; rfl
      have e8 : w5.cell? ⟨s, 8, none⟩ = some nilS := by rw [hS5.cell]; rfl
      have f5 : w5.frozen? ⟨s, 5, none⟩ = false := hS5.frozen _
      have f6 : w5.frozen? ⟨s, 6, none⟩ = false := hS5.frozen _
      have f7 : w5.frozen? ⟨s, 7, none⟩ = false := hS5.frozen _
      have f8 : w5.frozen? ⟨s, 8, none⟩ = false := hS5.frozen _
      have hS6 := (((hS5.set 5 (.int .u8 (m.code : Int))).set 6 (.int .i64 wd)).set 7 (.int .i64 ht)).set 8 (.slice A k cap)
      have ho6 := own_keep ho5 (w' := ((((w5.setCell ⟨s, 5, none⟩ (.int .u8 (m.code : Int))).setCell ⟨s, 6, none⟩ (.int .i64 wd)).setCell ⟨s, 7, none⟩ (.int .i64 ht)).setCell ⟨s, 8, none⟩ (.slice A k cap))) (fun g' hg' => by
        have h9 : g' ≠ s := by have := (ho5.lt g' hg').1; omega
        rw [Below.heap_setCell _ _ _ g' h9, Below.heap_setCell _ _ _ g' h9, Below.heap_setCell _ _ _ g' h9, Below.heap_setCell _ _ _ g' h9])
      have hB6 : But2 base s s w ((((w5.setCell ⟨s, 5, none⟩ (.int .u8 (m.code : Int))).setCell ⟨s, 6, none⟩ (.int .i64 wd)).setCell ⟨s, 7, none⟩ (.int .i64 ht)).setCell ⟨s, 8, none⟩ (.slice A k cap)) :=
        hB5.trans (But2.of_grown (grown_set (grown_set (grown_set (w5_one w5 s _) 6 _) 7 _) 8 _) (fun g e => .inl (by injection e with e; exact e.symm)) hz5)
      have HF := Lib.hid (And.intro hS6 (And.intro ho6 hB6)); clear hS6 ho6 hB6 ho5 hB5
      have HF5 := Lib.hid hF5; clear hF5
      have HS5 := Lib.hid hS5; clear hS5
      have k0 : w5.cell? ⟨g, 0, none⟩ = some (.int .u8 (m.code : Int)) := by rw [HF5.out.cell]; rfl
      have k1 : w5.cell? ⟨g, 1, none⟩ = some (.int .i64 wd) := by rw [HF5.out.cell]; rfl
      have k2 : w5.cell? ⟨g, 2, none⟩ = some (.int .i64 ht) := by rw [HF5.out.cell]; rfl
      have k3 : w5.cell? ⟨g, 3, none⟩ = some (.slice A k cap) := by rw [HF5.out.cell]; rfl
      go_wp2_with fail
      go_ret
      unfold RFP
      rw [HR.out]
      refine ⟨rfl, HF.out.2.2, fun _ => ⟨.slice A k cap, ?_, ?_⟩⟩
      · have h9 := HF.out.1
        unfold segF
        rw [hL9, ← HWN.out.1, ← HWN.out.2]
        exact h9
      · rw [hL9, HCL.out.2]
        exact HF.out.2.1
end Go.Proofs.YtjfgfoeenajneaaGreatDoor.Sg
