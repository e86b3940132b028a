/- SamplingUp: the law's own call returns true, whatever the shape and the sizes. -/
import Derived.Test.YtlbocfinjlkebaaSampIs
import Derived.Test.YtlbocfinjlkebaaSampSpoil
import Derived.Test.YtlbocfinjlkebaaAwake
import Derived.Test.YtlbocfinjlkebaaLayGet
namespace Go.Proofs.Ytlbocfinjlkebaa.Samp
open Go.RowKit

theorem isB_self (W H : Nat) (zs : List Int) : isB W H W H zs zs = true := by simp [isB, eqL_self]

set_option maxRecDepth 100000 in
set_option maxHeartbeats 4000000 in
theorem lawUp_none (wd : Int) (A : Option Addr) (n c : Nat) (fx fy wide high : Int) (w : World) (hn : n ≤ maxLen) (hs : shaped wd n = false) :
    Calls Try.prog 7 #[.agg #[.int .i64 wd, .slice A n c], .int .i64 fx, .int .i64 fy, .int .i64 wide, .int .i64 high] w (TrueB w) := by
  go_enter Try.func7, Try.ntmps7
  go_wp2_with fail
  refine (made_no wd A n c _ hn hs).mono ?_
  rintro e w1 ⟨rfl, b1⟩
  go_wp2_with fail
  refine (rup_nil fx fy wide high _).mono ?_
  rintro e w' ⟨rfl, rfl⟩
  go_wp2_with fail
  refine (up_nil fx fy wide high _).mono ?_
  rintro e w' ⟨rfl, rfl⟩
  go_wp2_with fail
  refine (up_nil fx fy wide high _).mono ?_
  rintro e w' ⟨rfl, rfl⟩
  go_wp2_with fail
  refine (is_nil _).mono ?_
  rintro e w' ⟨rfl, rfl⟩
  go_wp2_with fail
  refine (is_nil _).mono ?_
  rintro e w' ⟨rfl, rfl⟩
  go_wp2_with fail
  refine (is_nil _).mono ?_
  rintro e w' ⟨rfl, rfl⟩
  go_wp2_with fail
  refine (spoilt_nil 7 _).mono ?_
  rintro e w' ⟨rfl, rfl⟩
  go_wp2_with fail
  refine (is_nil _).mono ?_
  rintro e w' ⟨rfl, rfl⟩
  go_wp2_with fail
  refine (is_nil _).mono ?_
  rintro e w' ⟨rfl, rfl⟩
  go_wp2_with fail
  refine (spoilt_nil 9 _).mono ?_
  rintro e w' ⟨rfl, rfl⟩
  go_wp2_with fail
  refine (up_nil fx fy wide high _).mono ?_
  rintro e w' ⟨rfl, rfl⟩
  go_wp2_with fail
  refine (is_nil _).mono ?_
  rintro e w' ⟨rfl, rfl⟩
  go_wp2_with fail
  go_loopw [21] (fun i wr => i = .int .i64 0 ∧ wr = w1) (fun _ _ => 0)
  case atStart => exact ⟨rfl, rfl⟩
  case round =>
    obtain ⟨rfl, rfl⟩ := hrel
    by_cases h0 : (0 : Int) < high
    all_goals
      go_wp2_with fail
      all_goals
        go_ret
        exact ⟨rfl, below_then ((Below.refl _ _).alloc (Nat.le_refl _) _) b1⟩

set_option maxRecDepth 100000 in
set_option maxHeartbeats 4000000 in
theorem lawUp_no (W : Nat) (A : Option Addr) (n c : Nat) (zs : List Int) (fx fy wide high : Int) (w : World) (hnc : n ≤ c) (hc : c ≤ maxLen) (hsl : Sl w A n (zs.map (.int .u8))) (h1 : 1 ≤ W) (h2 : W ≤ n) (h3 : n ≤ 67108864)
    (he : upE fx fy wide high W (n / W) ≠ 0) :
    Calls Try.prog 7 #[.agg #[.int .i64 W, .slice A n c], .int .i64 fx, .int .i64 fy, .int .i64 wide, .int .i64 high] w (TrueB w) := by
  have hWH : W * (n / W) ≤ 67108864 := Nat.le_trans (Nat.mul_div_le n W) h3
  obtain ⟨H, hH⟩ : ∃ H, n / W = H := ⟨_, rfl⟩
  have hbH : H ≤ 67108864 := by rw [← hH]; exact Nat.le_trans (Nat.div_le_self n W) h3
  rw [hH] at he hWH
  obtain ⟨E, hE⟩ : ∃ E, upE fx fy wide high W H = E := ⟨_, rfl⟩
  have he' : ¬ E = 0 := by rw [← hE]; exact he
  have HE := Lib.hid hE; clear hE
  have HH := Lib.hid hH; clear hH
  have HHE := Lib.hid he; clear he
  have HWH := Lib.hid hWH; clear hWH
  go_enter Try.func7, Try.ntmps7
  go_wp2_with fail
  refine (made_yes W A n c zs _ hnc hc (hsl.alloc _) h1 h2 h3).mono ?_
  rintro e w1 ⟨r, p, g, cp, rfl, hr1, hp1, k1, k2, k3, k4, k5, b1⟩
  simp only [HH.out] at hr1 hp1
  generalize zs.take (W * H) = ys at *
  go_wp2_with fail
  refine (rup_no r A W H c _ fx fy wide high _ hr1 (by omega) hbH HHE.out).mono ?_
  rintro e w' ⟨rfl, n1, rfl⟩
  rw [HE.out]
  go_wp2_with fail
  have hp2 := hp1.drewN n1
  refine (up_no p g W H cp _ fx fy wide high _ hp2 HHE.out).mono ?_
  rintro e w' ⟨rfl, n2, rfl⟩
  rw [HE.out]
  go_wp2_with fail
  refine (up_no p g W H cp _ fx fy wide high _ (hp1.drewN _) HHE.out).mono ?_
  rintro e w' ⟨rfl, n3, rfl⟩
  rw [HE.out]
  go_wp2_with fail
  refine (is_nil _).mono ?_
  rintro e w' ⟨rfl, rfl⟩
  go_wp2_with fail
  refine (is_nil _).mono ?_
  rintro e w' ⟨rfl, rfl⟩
  go_wp2_with fail
  refine (is_any p g W H cp _ r A W H c _ _ (hp1.drewN _) (hr1.drewN _) HWH.out).mono ?_
  rintro e w2 ⟨rfl, b2⟩
  simp only [isB_self]
  go_wp2_with fail
  refine (spoilt_nil 7 _).mono ?_
  rintro e w' ⟨rfl, rfl⟩
  go_wp2_with fail
  refine (is_nil _).mono ?_
  rintro e w' ⟨rfl, rfl⟩
  go_wp2_with fail
  have hp3 := (hp1.drewN (n1 + n2 + n3)).below b2
  have hr3 := (hr1.drewN (n1 + n2 + n3)).below b2
  refine (is_any p g W H cp _ r A W H c _ _ hp3 hr3 HWH.out).mono ?_
  rintro e w3 ⟨rfl, b3⟩
  simp only [isB_self]
  have hp4 := hp3.below b3
  go_wp2_with fail
  refine (spoilt_any p g W H cp _ 9 _ hp4).mono ?_
  rintro e w4 ⟨rfl, hp5, hg5⟩
  go_wp2_with fail
  refine (up_no p g W H cp _ fx fy wide high _ hp5 HHE.out).mono ?_
  rintro e w' ⟨rfl, n4, rfl⟩
  rw [HE.out]
  go_wp2_with fail
  refine (is_nil _).mono ?_
  rintro e w' ⟨rfl, rfl⟩
  go_wp2_with fail
  have a1 : Below w.heap.size w w1 := below_then ((Below.refl _ _).alloc (Nat.le_refl _) _) b1
  have a3 := below_then (below_then (below_drewN a1 (n1 + n2 + n3)) b2) b3
  have a4 := a3.grown hg5 a3.size (fun k hk => by injection hk with hk; simp only [World.size_alloc] at k3; omega)
  have a5 := below_drewN a4 n4
  go_loopw [21] (fun i wr => i = .int .i64 0 ∧ wr = w4.drewN n4) (fun _ _ => 0)
  case atStart => exact ⟨rfl, rfl⟩
  case round =>
    obtain ⟨rfl, rfl⟩ := hrel
    by_cases h0 : (0 : Int) < high
    all_goals
      go_wp2_with fail
      all_goals
        go_ret
        exact ⟨rfl, a5⟩

theorem upE_nat {fx fy wide high : Int} {W H : Nat} (he : upE fx fy wide high W H = 0) : ∃ a b x y : Nat, fx = a ∧ fy = b ∧ wide = x ∧ high = y ∧ 1 ≤ a ∧ 1 ≤ b ∧ 1 ≤ x ∧ 1 ≤ y ∧ x ≤ a * W ∧ y ≤ b * H ∧ x * y ≤ 67108864 := by
  unfold upE at he
  split at he
  · omega
  · split at he
    · omega
    · rename_i h1 h2
      have h3 : ¬ fx * (W : Int) < wide := fun h => h2 (.inr (.inr (.inl h)))
      have h4 : ¬ fy * (H : Int) < high := fun h => h2 (.inr (.inr (.inr (.inl h))))
      have h5 : ¬ 67108864 < wide * high := fun h => h2 (.inr (.inr (.inr (.inr h))))
      obtain ⟨a, rfl⟩ := Int.eq_ofNat_of_zero_le (show 0 ≤ fx by omega)
      obtain ⟨b, rfl⟩ := Int.eq_ofNat_of_zero_le (show 0 ≤ fy by omega)
      obtain ⟨x, rfl⟩ := Int.eq_ofNat_of_zero_le (show 0 ≤ wide by omega)
      obtain ⟨y, rfl⟩ := Int.eq_ofNat_of_zero_le (show 0 ≤ high by omega)
      rw [← Int.natCast_mul] at h3 h4 h5
      exact ⟨a, b, x, y, rfl, rfl, rfl, rfl, by omega, by omega, by omega, by omega, by omega, by omega, by omega⟩

theorem RefAt.grown {w w' : World} {b g W H c : Nat} {zs : List Int} {row : Option Nat} (h : RefAt w b (some ⟨g, 0, none⟩) W H c zs) (hg : w.grownBy w' row) (h1 : some b ≠ row) (h2 : some g ≠ row) : RefAt w' b (some ⟨g, 0, none⟩) W H c zs := by
  refine ⟨h.blk.grown hg h1, h.sl.1, fun h0 => ⟨g, 0, rfl, fun j hj => ?_⟩⟩
  have h3 := Sl.cells h.sl h0 j hj
  have h4 : j < (zs.map (Value.int .u8)).length := by rw [h.sl.1]; exact hj
  rw [List.getElem?_eq_getElem h4] at h3
  have h5 := World.block_lt_of_cell? w _ h3
  have e : w'.cell? ⟨g, 0 + j, none⟩ = w.cell? ⟨g, 0 + j, none⟩ := by
    have := hg.block g h5 h2
    unfold World.cell?
    rw [this]
  rw [e, h3, List.getElem?_eq_getElem h4]

/-- of a plane of nines every sample is a nine -/
theorem up_nine {W H fx fy wide high x y : Nat} (hx : x < wide) (hy : y < high) (_hfx : 1 ≤ fx) (_hfy : 1 ≤ fy) (h1 : wide ≤ fx * W) (h2 : high ≤ fy * H) :
    smp ((gridL wide (upV (List.replicate (W * H) 9) W fx fy) (high * wide)).map (.int .u8)) wide (x : Int) (y : Int) = .int .u8 9 := by
  have h3 : y * wide + x < high * wide := row_lt hy hx
  rw [smp_map _ _ _ _ (by rw [gridL_length]; exact h3), List.getD_eq_getElem?_getD, gridL_get _ hx h3]
  have q1 : x / fx < W := Nat.div_lt_of_lt_mul (by omega)
  have q2 : y / fy < H := Nat.div_lt_of_lt_mul (by omega)
  have q3 : y / fy * W + x / fx < W * H := by rw [Nat.mul_comm W H]; exact row_lt q2 q1
  simp only [Option.getD_some]
  unfold upV
  rw [List.getD_eq_getElem?_getD, List.getElem?_replicate, if_pos q3]
  rfl
end Go.Proofs.Ytlbocfinjlkebaa.Samp
