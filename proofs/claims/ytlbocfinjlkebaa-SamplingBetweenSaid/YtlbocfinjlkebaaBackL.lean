/- Made larger and smaller again it is the plane. Plain Lean. -/
import Derived.Test.YtlbocfinjlkebaaSampDn
namespace Go.Proofs.Ytlbocfinjlkebaa.Samp
open Go.RowKit

theorem near_in {zs : List Int} {W H x y : Nat} (hx : x < W) (hy : y < H) : nearV zs W H (x : Int) (y : Int) = zs.getD (y * W + x) 0 := by
  unfold nearV
  rw [clampI_id hx, clampI_id hy]
  rfl
theorem grid_getD {W H x y : Nat} {f : Nat → Nat → Int} (hx : x < W) (hy : y < H) : (gridL W f (H * W)).getD (y * W + x) 0 = f x y := by
  have h1 : (y + 1) * W ≤ H * W := Nat.mul_le_mul_right W hy
  rw [Nat.add_mul, Nat.one_mul] at h1
  rw [List.getD_eq_getElem?_getD, gridL_get f hx (by omega)]
  rfl
/-- a block of the larger plane -/
theorem block_up {zs : List Int} {W H fx fy x y k : Nat} (hx : x < W) (hy : y < H) (h1 : 1 ≤ fx) (h2 : 1 ≤ fy) (hk : k < fx * fy) :
    nearV (gridL (fx * W) (upV zs W fx fy) (fy * H * (fx * W))) (fx * W) (fy * H) ((fx * x + k % fx : Nat) : Int) ((fy * y + k / fx : Nat) : Int) = zs.getD (y * W + x) 0 := by
  have r1 : k % fx < fx := Nat.mod_lt _ (by omega)
  have r2 : k / fx < fy := Nat.div_lt_of_lt_mul hk
  have b1 : fx * x + k % fx < fx * W := by
    have : fx * (x + 1) ≤ fx * W := Nat.mul_le_mul_left fx hx
    rw [Nat.mul_add, Nat.mul_one] at this
    omega
  have b2 : fy * y + k / fx < fy * H := by
    have : fy * (y + 1) ≤ fy * H := Nat.mul_le_mul_left fy hy
    rw [Nat.mul_add, Nat.mul_one] at this
    omega
  rw [near_in b1 b2, grid_getD b1 b2]
  unfold upV
  rw [show (fx * x + k % fx) / fx = x by rw [Nat.mul_add_div (by omega), Nat.div_eq_of_lt r1, Nat.add_zero], show (fy * y + k / fx) / fy = y by rw [Nat.mul_add_div (by omega), Nat.div_eq_of_lt r2, Nat.add_zero]]
theorem sum_up {zs : List Int} {W H fx fy x y : Nat} (hx : x < W) (hy : y < H) (h1 : 1 ≤ fx) (h2 : 1 ≤ fy) : ∀ k : Nat, k ≤ fx * fy →
    sumV (gridL (fx * W) (upV zs W fx fy) (fy * H * (fx * W))) (fx * W) (fy * H) fx fy x y k = k * zs.getD (y * W + x) 0
  | 0, _ => by rw [sumV_zero]; simp
  | k + 1, hk => by
    rw [sumV_next, sum_up hx hy h1 h2 k (by omega), block_up hx hy h1 h2 (by omega)]
    rw [Int.natCast_add, Int.add_mul]
    simp
theorem mean_same {n v : Int} (h : 0 < n) : meanV (n * v) n = v := by
  unfold meanV
  rw [show 2 * (n * v) + n = n + v * (2 * n) by rw [Int.mul_left_comm v, Int.mul_comm v]; omega, Int.add_mul_ediv_right _ _ (by omega), Int.ediv_eq_zero_of_lt (by omega) (by omega)]
  omega
theorem dn_up {zs : List Int} {W H fx fy : Nat} (hl : zs.length = W * H) (h1 : 1 ≤ fx) (h2 : 1 ≤ fy) :
    gridL W (dnV (gridL (fx * W) (upV zs W fx fy) (fy * H * (fx * W))) (fx * W) (fy * H) fx fy) (H * W) = zs := by
  rw [gridL_ext (g := fun x y => zs.getD (y * W + x) 0)]
  · exact (eq_gridL hl).symm
  · intro x y hx hy
    have h3 : 1 ≤ fx * fy := Nat.mul_le_mul h1 h2
    unfold dnV
    rw [sum_up hx hy h1 h2 _ (Nat.le_refl _)]
    exact mean_same (by omega)
theorem dnS_mul {W f : Nat} (h : 1 ≤ f) : dnS (f * W) f = W := by
  unfold dnS
  rw [Nat.add_sub_assoc h, Nat.mul_add_div (by omega), Nat.div_eq_of_lt (by omega), Nat.add_zero]
theorem up_bytes {zs : List Int} (h : Bytes zs) (W fx fy wide n : Nat) : Bytes (gridL wide (upV zs W fx fy) n) := by
  intro z hz
  unfold gridL at hz
  obtain ⟨k, _, rfl⟩ := List.mem_map.1 hz
  exact h.getD _
/-- by factors of 1 it is the plane -/
theorem up_one {zs : List Int} {W H : Nat} (hl : zs.length = W * H) : gridL W (upV zs W 1 1) (H * W) = zs := by
  rw [gridL_ext (g := fun x y => zs.getD (y * W + x) 0)]
  · exact (eq_gridL hl).symm
  · intro x y _ _
    unfold upV
    rw [Nat.div_one, Nat.div_one]
theorem dn_one {zs : List Int} {W H : Nat} (hl : zs.length = W * H) : gridL W (dnV zs W H 1 1) (H * W) = zs := by
  rw [gridL_ext (g := fun x y => zs.getD (y * W + x) 0)]
  · exact (eq_gridL hl).symm
  · intro x y hx hy
    unfold dnV
    rw [show 1 * 1 = 0 + 1 from rfl, sumV_next, sumV_zero, near_in (by omega) (by omega)]
    have := mean_same (n := 1) (v := zs.getD ((1 * y + 0 / 1) * W + (1 * x + 0 % 1)) 0) (by omega)
    rw [Int.one_mul] at this
    rw [Int.zero_add]
    simpa using this
theorem dnS_one (W : Nat) : dnS W 1 = W := by unfold dnS; omega
end Go.Proofs.Ytlbocfinjlkebaa.Samp
