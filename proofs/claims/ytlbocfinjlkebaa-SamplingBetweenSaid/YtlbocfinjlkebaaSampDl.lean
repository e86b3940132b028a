/- SamplingDown: the law's own call returns true, whatever the shape and the factors. -/
import Derived.Test.YtlbocfinjlkebaaSampDr
import Derived.Test.YtlbocfinjlkebaaSampUp
namespace Go.Proofs.Ytlbocfinjlkebaa.Samp
open Go.RowKit

theorem dn_no (a : Addr) (fx fy : Int) (w : World) (he : facE false fx fy ≠ 0) :
    Calls Try.prog 20 #[.pointer (some a), .int .i64 fx, .int .i64 fy] w fun e w' => e = .returned (.tuple #[.pointer none, .int .i64 (facE false fx fy)]) ∧ w = w' := by
  obtain ⟨E, hE⟩ : ∃ E, facE false fx fy = E := ⟨_, rfl⟩
  rw [hE] at he ⊢
  have HE := Lib.hid hE; clear hE
  go_enter Try.func20, Try.ntmps20
  go_wp2_with fail
  refine (pf_some _ fx fy w).mono ?_
  rintro e w' ⟨rfl, rfl⟩
  simp only [HE.out]
  go_wp2_with fail
  go_ret2
  exact ⟨rfl, rfl⟩
theorem dn_nil (fx fy : Int) (w : World) :
    Calls Try.prog 20 #[.pointer none, .int .i64 fx, .int .i64 fy] w fun e w' => e = .returned (.tuple #[.pointer none, .int .i64 2]) ∧ w = w' := by
  go_enter Try.func20, Try.ntmps20
  go_wp2_with fail
  refine (pf_nil fx fy w).mono ?_
  rintro e w' ⟨rfl, rfl⟩
  go_wp2_with fail
  go_ret2
  exact ⟨rfl, rfl⟩
theorem rdn_no (a : Addr) (fx fy : Int) (w : World) (he : facE false fx fy ≠ 0) :
    Calls Try.prog 19 #[.pointer (some a), .int .i64 fx, .int .i64 fy] w fun e w' => e = .returned (.tuple #[.pointer none, .int .i64 (facE false fx fy)]) ∧ w = w' := by
  obtain ⟨E, hE⟩ : ∃ E, facE false fx fy = E := ⟨_, rfl⟩
  rw [hE] at he ⊢
  have HE := Lib.hid hE; clear hE
  go_enter Try.func19, Try.ntmps19
  go_wp2_with fail
  refine (rf_some _ fx fy w).mono ?_
  rintro e w' ⟨rfl, rfl⟩
  simp only [HE.out]
  go_wp2_with fail
  go_ret2
  exact ⟨rfl, rfl⟩
theorem rdn_nil (fx fy : Int) (w : World) :
    Calls Try.prog 19 #[.pointer none, .int .i64 fx, .int .i64 fy] w fun e w' => e = .returned (.tuple #[.pointer none, .int .i64 2]) ∧ w = w' := by
  go_enter Try.func19, Try.ntmps19
  go_wp2_with fail
  refine (rf_nil fx fy w).mono ?_
  rintro e w' ⟨rfl, rfl⟩
  go_wp2_with fail
  go_ret2
  exact ⟨rfl, rfl⟩

set_option maxRecDepth 100000 in
set_option maxHeartbeats 4000000 in
theorem lawDn_none (wd : Int) (A : Option Addr) (n c : Nat) (fx fy : Int) (w : World) (hn : n ≤ maxLen) (hs : shaped wd n = false) :
    Calls Try.prog 4 #[.agg #[.int .i64 wd, .slice A n c], .int .i64 fx, .int .i64 fy] w (TrueB w) := by
  go_enter Try.func4, Try.ntmps4
  go_wp2_with fail
  refine (made_no wd A n c _ hn hs).mono ?_
  rintro e w1 ⟨rfl, b1⟩
  go_wp2_with fail
  refine (rdn_nil fx fy _).mono ?_
  rintro e w' ⟨rfl, rfl⟩
  go_wp2_with fail
  refine (dn_nil fx fy _).mono ?_
  rintro e w' ⟨rfl, rfl⟩
  go_wp2_with fail
  refine (dn_nil fx fy _).mono ?_
  rintro e w' ⟨rfl, rfl⟩
  go_wp2_with fail
  refine (is_nil _).mono ?_
  rintro e w' ⟨rfl, rfl⟩
  go_wp2_with fail
  refine (is_nil _).mono ?_
  rintro e w' ⟨rfl, rfl⟩
  go_wp2_with fail
  refine (is_nil _).mono ?_
  rintro e w' ⟨rfl, rfl⟩
  go_wp2_with fail
  refine (spoilt_nil 7 _).mono ?_
  rintro e w' ⟨rfl, rfl⟩
  go_wp2_with fail
  refine (is_nil _).mono ?_
  rintro e w' ⟨rfl, rfl⟩
  go_wp2_with fail
  refine (is_nil _).mono ?_
  rintro e w' ⟨rfl, rfl⟩
  go_wp2_with fail
  refine (spoilt_nil 9 _).mono ?_
  rintro e w' ⟨rfl, rfl⟩
  go_wp2_with fail
  refine (dn_nil fx fy _).mono ?_
  rintro e w' ⟨rfl, rfl⟩
  go_wp2_with fail
  refine (is_nil _).mono ?_
  rintro e w' ⟨rfl, rfl⟩
  go_wp2_with fail
  go_ret
  exact ⟨rfl, below_then ((Below.refl _ _).alloc (Nat.le_refl _) _) b1⟩

set_option maxRecDepth 100000 in
set_option maxHeartbeats 4000000 in
theorem lawDn_no (W : Nat) (A : Option Addr) (n c : Nat) (zs : List Int) (fx fy : Int) (w : World) (hnc : n ≤ c) (hc : c ≤ maxLen) (hsl : Sl w A n (zs.map (.int .u8))) (h1 : 1 ≤ W) (h2 : W ≤ n) (h3 : n ≤ 67108864)
    (he : facE false fx fy ≠ 0) :
    Calls Try.prog 4 #[.agg #[.int .i64 W, .slice A n c], .int .i64 fx, .int .i64 fy] w (TrueB w) := by
  have hWH : W * (n / W) ≤ 67108864 := Nat.le_trans (Nat.mul_div_le n W) h3
  obtain ⟨H, hH⟩ : ∃ H, n / W = H := ⟨_, rfl⟩
  rw [hH] at hWH
  obtain ⟨E, hE⟩ : ∃ E, facE false fx fy = E := ⟨_, rfl⟩
  have he' : ¬ E = 0 := by rw [← hE]; exact he
  have HE := Lib.hid hE; clear hE
  have HH := Lib.hid hH; clear hH
  have HHE := Lib.hid he; clear he
  have HWH := Lib.hid hWH; clear hWH
  go_enter Try.func4, Try.ntmps4
  go_wp2_with fail
  refine (made_yes W A n c zs _ hnc hc (hsl.alloc _) h1 h2 h3).mono ?_
  rintro e w1 ⟨r, p, g, cp, rfl, hr1, hp1, k1, k2, k3, k4, k5, b1⟩
  simp only [HH.out] at hr1 hp1
  generalize zs.take (W * H) = ys at *
  go_wp2_with fail
  refine (rdn_no _ fx fy _ HHE.out).mono ?_
  rintro e w' ⟨rfl, rfl⟩
  rw [HE.out]
  go_wp2_with fail
  refine (dn_no _ fx fy _ HHE.out).mono ?_
  rintro e w' ⟨rfl, rfl⟩
  rw [HE.out]
  go_wp2_with fail
  refine (dn_no _ fx fy _ HHE.out).mono ?_
  rintro e w' ⟨rfl, rfl⟩
  rw [HE.out]
  go_wp2_with fail
  refine (is_nil _).mono ?_
  rintro e w' ⟨rfl, rfl⟩
  go_wp2_with fail
  refine (is_nil _).mono ?_
  rintro e w' ⟨rfl, rfl⟩
  go_wp2_with fail
  refine (is_any p g W H cp _ r A W H c _ _ hp1 hr1 HWH.out).mono ?_
  rintro e w2 ⟨rfl, b2⟩
  simp only [isB_self]
  go_wp2_with fail
  refine (spoilt_nil 7 _).mono ?_
  rintro e w' ⟨rfl, rfl⟩
  go_wp2_with fail
  refine (is_nil _).mono ?_
  rintro e w' ⟨rfl, rfl⟩
  go_wp2_with fail
  have hp3 := hp1.below b2
  have hr3 := hr1.below b2
  refine (is_any p g W H cp _ r A W H c _ _ hp3 hr3 HWH.out).mono ?_
  rintro e w3 ⟨rfl, b3⟩
  simp only [isB_self]
  have hp4 := hp3.below b3
  go_wp2_with fail
  refine (spoilt_any p g W H cp _ 9 _ hp4).mono ?_
  rintro e w4 ⟨rfl, hp5, hg5⟩
  go_wp2_with fail
  refine (dn_no _ fx fy _ HHE.out).mono ?_
  rintro e w' ⟨rfl, rfl⟩
  rw [HE.out]
  go_wp2_with fail
  refine (is_nil _).mono ?_
  rintro e w' ⟨rfl, rfl⟩
  go_wp2_with fail
  have a1 : Below w.heap.size w w1 := below_then ((Below.refl _ _).alloc (Nat.le_refl _) _) b1
  have a3 := below_then (below_then a1 b2) b3
  have a4 := a3.grown hg5 a3.size (fun k hk => by injection hk with hk; simp only [World.size_alloc] at k3; omega)
  go_ret
  exact ⟨rfl, a4⟩

set_option maxRecDepth 100000 in
set_option maxHeartbeats 8000000 in
theorem lawDn_yes (W : Nat) (A : Option Addr) (n c : Nat) (zs : List Int) (fx fy : Nat) (w : World) (hnc : n ≤ c) (hc : c ≤ maxLen) (hsl : Sl w A n (zs.map (.int .u8))) (hz : Bytes zs) (h1 : 1 ≤ W) (h2 : W ≤ n) (h3 : n ≤ 67108864)
    (e1 : 1 ≤ fx) (e2 : fx ≤ 4) (e3 : 1 ≤ fy) (e4 : fy ≤ 4) :
    Calls Try.prog 4 #[.agg #[.int .i64 W, .slice A n c], .int .i64 fx, .int .i64 fy] w (TrueB w) := by
  have hWH : W * (n / W) ≤ 67108864 := Nat.le_trans (Nat.mul_div_le n W) h3
  obtain ⟨H, hH⟩ : ∃ H, n / W = H := ⟨_, rfl⟩
  rw [hH] at hWH
  have hH1 : 1 ≤ H := by rw [← hH]; exact (Nat.le_div_iff_mul_le (by omega)).2 (by omega)
  have hzt := hz.take (W * H)
  have v0 := dn_nine (W := W) (H := H) (fx := fx) (fy := fy) 0 0 h1 hH1 e1 e3
  obtain ⟨wide, hwd⟩ : ∃ wide, dnS W fx = wide := ⟨_, rfl⟩
  obtain ⟨high, hhg⟩ : ∃ high, dnS H fy = high := ⟨_, rfl⟩
  have bw1 : 1 ≤ wide := by rw [← hwd]; exact dnS_pos h1 e1
  have bh1 : 1 ≤ high := by rw [← hhg]; exact dnS_pos hH1 e3
  have e7 : wide * high ≤ 67108864 := Nat.le_trans (Nat.mul_le_mul (by rw [← hwd]; exact dnS_le e1) (by rw [← hhg]; exact dnS_le e3)) hWH
  have bN : 1 ≤ wide * high := Nat.mul_le_mul bw1 bh1
  have nine : smp ((gridL wide (dnV (List.replicate (W * H) 9) W H fx fy) (high * wide)).map (.int .u8)) wide ((0 : Nat) : Int) ((0 : Nat) : Int) = .int .u8 9 := by
    rw [smp_map _ _ _ _ (by rw [gridL_length]; have := Nat.mul_le_mul bh1 bw1; omega), List.getD_eq_getElem?_getD, gridL_get _ bw1 (by have := Nat.mul_le_mul bh1 bw1; omega)]
    simp only [Option.getD_some]
    exact congrArg (Value.int .u8) v0
  have rup := fun b A c zs w hp (hz : Bytes zs) => hwd ▸ hhg ▸ rdn_yes b A W H c zs fx fy w hp h1 hH1 hWH hz e1 e2 e3 e4
  have up := fun b g c zs w hp (hz : Bytes zs) => hwd ▸ hhg ▸ dn_yes b g W H c zs fx fy w hp hz e1 e2 e3 e4
  have RUP := Lib.hid rup; clear rup
  have UP := Lib.hid up; clear up
  have HNINE := Lib.hid nine; clear nine v0
  have HWD := Lib.hid hwd; clear hwd
  have HHG := Lib.hid hhg; clear hhg
  have HZT := Lib.hid hzt; clear hzt
  have HH := Lib.hid hH; clear hH
  have HWH := Lib.hid hWH; clear hWH
  have HE7 := Lib.hid e7; clear e7
  go_enter Try.func4, Try.ntmps4
  go_wp2_with fail
  refine (made_yes W A n c zs _ hnc hc (hsl.alloc _) h1 h2 h3).mono ?_
  rintro e w1 ⟨r, p, g, cp, rfl, hr1, hp1, k1, k2, k3, k4, k5, b1⟩
  simp only [HH.out] at hr1 hp1
  generalize zs.take (W * H) = ys at *
  have l1 := hp1.blt
  have l2 := hp1.glt
  go_wp2_with fail
  refine (RUP.out r A c _ _ hr1 HZT.out).mono ?_
  rintro e w2 ⟨q, gq, cq, rfl, hq2, m1, m2, b2⟩
  have hp2 := hp1.below b2
  have hr2 := hr1.below b2
  have s2 := b2.size
  go_wp2_with fail
  refine (UP.out p g cp _ _ hp2 HZT.out).mono ?_
  rintro e w3 ⟨pa, ga, ca, rfl, ha3, m3, m4, b3⟩
  have hp3 := hp2.below b3
  have hr3 := hr2.below b3
  have hq3 := hq2.below b3
  have s3 := b3.size
  have l3 := ha3.blt
  have l4 := ha3.glt
  go_wp2_with fail
  refine (UP.out p g cp _ _ hp3 HZT.out).mono ?_
  rintro e w4 ⟨pb, gb, cb, rfl, hb4, m5, m6, b4⟩
  have hp4 := hp3.below b4
  have hr4 := hr3.below b4
  have hq4 := hq3.below b4
  have ha4 := ha3.below b4
  have s4 := b4.size
  go_wp2_with fail
  refine (is_any pa ga wide high ca _ q _ wide high cq _ _ ha4 hq4 HE7.out).mono ?_
  rintro e w5 ⟨rfl, b5⟩
  simp only [isB_self]
  have hp5 := hp4.below b5
  have hr5 := hr4.below b5
  have hq5 := hq4.below b5
  have ha5 := ha4.below b5
  have hb5 := hb4.below b5
  go_wp2_with fail
  refine (is_any pb gb wide high cb _ q _ wide high cq _ _ hb5 hq5 HE7.out).mono ?_
  rintro e w6 ⟨rfl, b6⟩
  simp only [isB_self]
  have hp6 := hp5.below b6
  have hr6 := hr5.below b6
  have hq6 := hq5.below b6
  have ha6 := ha5.below b6
  have hb6 := hb5.below b6
  go_wp2_with fail
  refine (is_any p g W H cp _ r A W H c _ _ hp6 hr6 HWH.out).mono ?_
  rintro e w7 ⟨rfl, b7⟩
  simp only [isB_self]
  have hp7 := hp6.below b7
  have hr7 := hr6.below b7
  have hq7 := hq6.below b7
  have ha7 := ha6.below b7
  have hb7 := hb6.below b7
  have lq1 := hq2.blt
  have lq2 : gq < w2.heap.size := by
    have h4 := Sl.cells hq2.sl bN 0 bN
    have h5 : 0 < ((gridL wide (dnV ys W H fx fy) (high * wide)).map (Value.int .u8)).length := by rw [hq2.sl.1]; exact bN
    rw [List.getElem?_eq_getElem h5] at h4
    exact World.block_lt_of_cell? _ _ h4
  go_wp2_with fail
  refine (spoilt_any pa ga wide high ca _ 7 _ ha7).mono ?_
  rintro e w8 ⟨rfl, ha8, hg8⟩
  have hp8 := hp7.grown hg8 (by simp; omega) (by simp; omega)
  have hq8 := RefAt.grown hq7 hg8 (by simp; omega) (by simp; omega)
  have hb8 := hb7.grown hg8 (by simp; omega) (by simp; omega)
  have c17 : Below w1.heap.size w1 w7 := below_then (below_then (below_then (below_then (below_then b2 b3) b4) b5) b6) b7
  have c18 := c17.grown hg8 c17.size (fun k hk => by injection hk with hk; omega)
  have hr8 := hr1.below c18
  go_wp2_with fail
  refine (is_any pb gb wide high cb _ q _ wide high cq _ _ hb8 hq8 HE7.out).mono ?_
  rintro e w9 ⟨rfl, b9⟩
  simp only [isB_self]
  have hp9 := hp8.below b9
  have hr9 := hr8.below b9
  have hq9 := hq8.below b9
  have hb9 := hb8.below b9
  go_wp2_with fail
  refine (is_any p g W H cp _ r A W H c _ _ hp9 hr9 HWH.out).mono ?_
  rintro e w10 ⟨rfl, b10⟩
  simp only [isB_self]
  have hp10 := hp9.below b10
  have hq10 := hq9.below b10
  have hb10 := hb9.below b10
  go_wp2_with fail
  refine (spoilt_any p g W H cp _ 9 _ hp10).mono ?_
  rintro e w11 ⟨rfl, hp11, hg11⟩
  have hq11 := RefAt.grown hq10 hg11 (by simp; omega) (by simp; omega)
  have hb11 := hb10.grown hg11 (by simp; omega) (by simp; omega)
  go_wp2_with fail
  refine (UP.out p g cp _ _ hp11 (Bytes.rep _)).mono ?_
  rintro e w12 ⟨pc, gc, cc, rfl, hc12, m7, m8, b12⟩
  have hq12 := hq11.below b12
  have hb12 := hb11.below b12
  go_wp2_with fail
  refine (is_any pb gb wide high cb _ q _ wide high cq _ _ hb12 hq12 HE7.out).mono ?_
  rintro e w13 ⟨rfl, b13⟩
  simp only [isB_self]
  have hc13 := hc12.below b13
  have d1 : Below w.heap.size w w1 := below_then ((Below.refl _ _).alloc (Nat.le_refl _) _) b1
  have d8 := below_then d1 c18
  have d10 := below_then (below_then d8 b9) b10
  have d11 := d10.grown hg11 d10.size (fun k hk => by injection hk with hk; simp only [World.size_alloc] at k3; omega)
  have d13 := below_then (below_then d11 b12) b13
  go_wp2_with fail
  refine (P8.at_in pc gc wide high cc _ ((0 : Nat) : Int) ((0 : Nat) : Int) _ hc13 (by omega) (by omega) (by omega) (by omega)).mono ?_
  rintro e w' ⟨hee, k, rfl⟩
  rw [HNINE.out] at hee
  subst hee
  go_wp2_with fail
  go_ret
  exact ⟨rfl, below_drewN d13 _⟩
end Go.Proofs.Ytlbocfinjlkebaa.Samp
