/- SamplingUp where there is an answer. -/
import Derived.Test.YtlbocfinjlkebaaSampUp
namespace Go.Proofs.Ytlbocfinjlkebaa.Samp
open Go.RowKit

set_option maxRecDepth 100000 in
set_option maxHeartbeats 8000000 in
theorem lawUp_yes (W : Nat) (A : Option Addr) (n c : Nat) (zs : List Int) (fx fy wide high : Nat) (w : World) (hnc : n ≤ c) (hc : c ≤ maxLen) (hsl : Sl w A n (zs.map (.int .u8))) (h1 : 1 ≤ W) (h2 : W ≤ n) (h3 : n ≤ 67108864)
    (he : upE fx fy wide high W (n / W) = 0) (e1 : 1 ≤ fx) (e2 : 1 ≤ fy) (e3 : 1 ≤ wide) (e4 : 1 ≤ high) (e5 : wide ≤ fx * W) (e6 : high ≤ fy * (n / W)) (e7 : wide * high ≤ 67108864) :
    Calls Try.prog 7 #[.agg #[.int .i64 W, .slice A n c], .int .i64 fx, .int .i64 fy, .int .i64 wide, .int .i64 high] w (TrueB w) := by
  have hWH : W * (n / W) ≤ 67108864 := Nat.le_trans (Nat.mul_div_le n W) h3
  obtain ⟨H, hH⟩ : ∃ H, n / W = H := ⟨_, rfl⟩
  have hbH : H ≤ 67108864 := by rw [← hH]; exact Nat.le_trans (Nat.div_le_self n W) h3
  rw [hH] at he hWH e6
  have bw : wide ≤ 67108864 := by have := Nat.le_mul_of_pos_right wide (show 0 < high by omega); omega
  have bh : high ≤ 67108864 := by have := Nat.le_mul_of_pos_left high (show 0 < wide by omega); omega
  have HE := Lib.hid he; clear he
  have HH := Lib.hid hH; clear hH
  have HWH := Lib.hid hWH; clear hWH
  have HE5 := Lib.hid e5; clear e5
  have HE6 := Lib.hid e6; clear e6
  have HE7 := Lib.hid e7; clear e7
  go_enter Try.func7, Try.ntmps7
  go_wp2_with fail
  refine (made_yes W A n c zs _ hnc hc (hsl.alloc _) h1 h2 h3).mono ?_
  rintro e w1 ⟨r, p, g, cp, rfl, hr1, hp1, k1, k2, k3, k4, k5, b1⟩
  simp only [HH.out] at hr1 hp1
  generalize zs.take (W * H) = ys at *
  have l1 := hp1.blt
  have l2 := hp1.glt
  go_wp2_with fail
  refine (rup_yes r A W H c _ fx fy wide high _ hr1 (by omega) hbH HWH.out HE.out).mono ?_
  rintro e w2 ⟨q, gq, cq, rfl, hq2, m1, m2, b2⟩
  have hp2 := hp1.below b2
  have hr2 := hr1.below b2
  have s2 := b2.size
  go_wp2_with fail
  refine (up_yes p g W H cp _ fx fy wide high _ hp2 HE.out).mono ?_
  rintro e w3 ⟨pa, ga, ca, rfl, ha3, m3, m4, b3⟩
  have hp3 := hp2.below b3
  have hr3 := hr2.below b3
  have hq3 := hq2.below b3
  have s3 := b3.size
  have l3 := ha3.blt
  have l4 := ha3.glt
  go_wp2_with fail
  refine (up_yes p g W H cp _ fx fy wide high _ hp3 HE.out).mono ?_
  rintro e w4 ⟨pb, gb, cb, rfl, hb4, m5, m6, b4⟩
  have hp4 := hp3.below b4
  have hr4 := hr3.below b4
  have hq4 := hq3.below b4
  have ha4 := ha3.below b4
  have s4 := b4.size
  go_wp2_with fail
  refine (is_any pa ga wide high ca _ q _ wide high cq _ _ ha4 hq4 HE7.out).mono ?_
  rintro e w5 ⟨rfl, b5⟩
  simp only [isB_self]
  have hp5 := hp4.below b5
  have hr5 := hr4.below b5
  have hq5 := hq4.below b5
  have ha5 := ha4.below b5
  have hb5 := hb4.below b5
  go_wp2_with fail
  refine (is_any pb gb wide high cb _ q _ wide high cq _ _ hb5 hq5 HE7.out).mono ?_
  rintro e w6 ⟨rfl, b6⟩
  simp only [isB_self]
  have hp6 := hp5.below b6
  have hr6 := hr5.below b6
  have hq6 := hq5.below b6
  have ha6 := ha5.below b6
  have hb6 := hb5.below b6
  go_wp2_with fail
  refine (is_any p g W H cp _ r A W H c _ _ hp6 hr6 HWH.out).mono ?_
  rintro e w7 ⟨rfl, b7⟩
  simp only [isB_self]
  have hp7 := hp6.below b7
  have hr7 := hr6.below b7
  have hq7 := hq6.below b7
  have ha7 := ha6.below b7
  have hb7 := hb6.below b7
  have lq1 := hq2.blt
  have lq2 : gq < w2.heap.size := by
    have h4 := Sl.cells hq2.sl (Nat.mul_le_mul e3 e4) 0 (Nat.mul_le_mul e3 e4)
    have h5 : 0 < ((gridL wide (upV ys W fx fy) (high * wide)).map (Value.int .u8)).length := by rw [hq2.sl.1]; exact Nat.mul_le_mul e3 e4
    rw [List.getElem?_eq_getElem h5] at h4
    exact World.block_lt_of_cell? _ _ h4
  go_wp2_with fail
  refine (spoilt_any pa ga wide high ca _ 7 _ ha7).mono ?_
  rintro e w8 ⟨rfl, ha8, hg8⟩
  have hp8 := hp7.grown hg8 (by simp; omega) (by simp; omega)
  have hq8 := RefAt.grown hq7 hg8 (by simp; omega) (by simp; omega)
  have hb8 := hb7.grown hg8 (by simp; omega) (by simp; omega)
  have c17 : Below w1.heap.size w1 w7 := below_then (below_then (below_then (below_then (below_then b2 b3) b4) b5) b6) b7
  have c18 := c17.grown hg8 c17.size (fun k hk => by injection hk with hk; omega)
  have hr8 := hr1.below c18
  go_wp2_with fail
  refine (is_any pb gb wide high cb _ q _ wide high cq _ _ hb8 hq8 HE7.out).mono ?_
  rintro e w9 ⟨rfl, b9⟩
  simp only [isB_self]
  have hp9 := hp8.below b9
  have hr9 := hr8.below b9
  have hq9 := hq8.below b9
  have hb9 := hb8.below b9
  go_wp2_with fail
  refine (is_any p g W H cp _ r A W H c _ _ hp9 hr9 HWH.out).mono ?_
  rintro e w10 ⟨rfl, b10⟩
  simp only [isB_self]
  have hp10 := hp9.below b10
  have hq10 := hq9.below b10
  have hb10 := hb9.below b10
  go_wp2_with fail
  refine (spoilt_any p g W H cp _ 9 _ hp10).mono ?_
  rintro e w11 ⟨rfl, hp11, hg11⟩
  have hq11 := RefAt.grown hq10 hg11 (by simp; omega) (by simp; omega)
  have hb11 := hb10.grown hg11 (by simp; omega) (by simp; omega)
  go_wp2_with fail
  refine (up_yes p g W H cp _ fx fy wide high _ hp11 HE.out).mono ?_
  rintro e w12 ⟨pc, gc, cc, rfl, hc12, m7, m8, b12⟩
  have hq12 := hq11.below b12
  have hb12 := hb11.below b12
  go_wp2_with fail
  refine (is_any pb gb wide high cb _ q _ wide high cq _ _ hb12 hq12 HE7.out).mono ?_
  rintro e w13 ⟨rfl, b13⟩
  simp only [isB_self]
  have hc13 := hc12.below b13
  have d1 : Below w.heap.size w w1 := below_then ((Below.refl _ _).alloc (Nat.le_refl _) _) b1
  have d8 := below_then d1 c18
  have d10 := below_then (below_then d8 b9) b10
  have d11 := d10.grown hg11 d10.size (fun k hk => by injection hk with hk; simp only [World.size_alloc] at k3; omega)
  have d13 := below_then (below_then d11 b12) b13
  obtain ⟨x, hx⟩ : ∃ x, wide = x + 1 := ⟨wide - 1, by omega⟩
  have hxi : (wide : Int) - 1 = (x : Int) := by omega
  have hx0 : x < wide := by omega
  clear hx
  go_wp2_with fail
  go_loopw [21] (fun i wr => ∃ y m : Nat, y ≤ high ∧ i = .int .i64 y ∧ wr = w13.drewN m) (fun i _ => high - (intOf i).toNat)
  case atStart => exact ⟨0, 0, Nat.zero_le _, rfl, rfl⟩
  case round =>
    obtain ⟨y, m, hy, rfl, rfl⟩ := hrel
    by_cases hlt : y < high
    · have hv := up_nine (W := W) (H := H) (fx := fx) (fy := fy) (wide := wide) (high := high) (x := x) (y := y) (by omega) hlt e1 e2 HE5.out HE6.out
      have HV := Lib.hid hv; clear hv
      go_wp2_with fail
      refine (P8.at_in pc gc wide high cc _ x y _ (hc13.drewN m) (by omega) (by omega) (by omega) (by omega)).mono ?_
      rintro e w' ⟨hee, k, rfl⟩
      rw [HV.out] at hee
      subst hee
      go_wp2_with fail
      go_roundw
      case rel => exact ⟨y + 1, _, by omega, by go_num, rfl⟩
      case measure => simp [intOf]; omega
    · go_wp2_with fail
      go_ret
      exact ⟨rfl, below_drewN d13 _⟩
end Go.Proofs.Ytlbocfinjlkebaa.Samp
