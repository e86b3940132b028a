/- May a plane have that size: what plane.fits answers, whatever the numbers. -/
import Derived.Test.YtlbocfinjlkebaaPlaneDef
import Derived.Test.YtlbocfinjlkebaaProg
namespace Go.Proofs.Ytlbocfinjlkebaa
open Go.RowKit
theorem laidOut : laidOutB Try.prog = true := by kernel_rfl

set_option maxHeartbeats 1000000 in
theorem fits_any (W H : Int) (w : World) : Calls Try.prog 82 #[.int .i64 W, .int .i64 H] w fun e w' => e = .returned (.bool (fitsB W H)) ∧ w = w' := by
  unfold fitsB
  by_cases h1 : W < 1
  · go_enter Try.func82, Try.ntmps82
    go_wp2
    go_ret
    exact ⟨by simp; try omega, rfl⟩
  by_cases h2 : H < 1
  · go_enter Try.func82, Try.ntmps82
    go_wp2
    go_ret
    exact ⟨by simp; try omega, rfl⟩
  by_cases h3 : 67108864 < W
  · go_enter Try.func82, Try.ntmps82
    go_wp2
    go_ret
    exact ⟨by simp; try omega, rfl⟩
  have q0 : (0 : Int) ≤ 67108864 / W := Int.ediv_nonneg (by omega) (by omega)
  by_cases h4 : H ≤ 67108864 / W
  · go_enter Try.func82, Try.ntmps82
    go_wp2
    go_ret
    exact ⟨by simp; try omega, rfl⟩
  · go_enter Try.func82, Try.ntmps82
    go_wp2
    go_ret
    exact ⟨by simp; try omega, rfl⟩
end Go.Proofs.Ytlbocfinjlkebaa
