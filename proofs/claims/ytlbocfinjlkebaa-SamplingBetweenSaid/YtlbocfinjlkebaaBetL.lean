/- Between the least and the greatest. Plain Lean. -/
import Derived.Test.YtlbocfinjlkebaaFloZ
import Derived.Test.YtlbocfinjlkebaaBackL
namespace Go.Proofs.Ytlbocfinjlkebaa.Samp
open Go.RowKit

theorem mean_between {s n lo hi : Int} (h : 0 < n) (h1 : lo * n ≤ s) (h2 : s ≤ hi * n) : In2 lo hi (meanV s n) := by
  unfold meanV
  constructor
  · rw [Int.le_ediv_iff_mul_le (by omega), Int.mul_left_comm]
    omega
  · have : (2 * s + n) / (2 * n) < hi + 1 := by
      rw [Int.ediv_lt_iff_lt_mul (by omega), Int.mul_left_comm, Int.add_mul]
      omega
    omega
theorem sum_between {zs : List Int} {W H fx fy x y : Nat} {lo hi : Int} (h1 : 1 ≤ fx)
    (h : ∀ i j : Int, ((fx * x : Nat) : Int) ≤ i → i ≤ ((fx * x : Nat) : Int) + fx - 1 → ((fy * y : Nat) : Int) ≤ j → j ≤ ((fy * y : Nat) : Int) + fy - 1 → In2 lo hi (nearV zs W H i j)) :
    ∀ k : Nat, k ≤ fx * fy → lo * k ≤ sumV zs W H fx fy x y k ∧ sumV zs W H fx fy x y k ≤ hi * k
  | 0, _ => by rw [sumV_zero]; simp
  | k + 1, hk => by
    have r1 : k % fx < fx := Nat.mod_lt _ (by omega)
    have r2 : k / fx < fy := Nat.div_lt_of_lt_mul (by omega)
    obtain ⟨a, ha⟩ : ∃ a, k % fx = a := ⟨_, rfl⟩
    obtain ⟨b, hb⟩ : ∃ b, k / fx = b := ⟨_, rfl⟩
    obtain ⟨c, hc⟩ : ∃ c, fx * x = c := ⟨_, rfl⟩
    obtain ⟨d, hd⟩ : ∃ d, fy * y = d := ⟨_, rfl⟩
    have ih := sum_between h1 h k (by omega)
    rw [sumV_next, ha, hb, hc, hd]
    rw [ha] at r1
    rw [hb] at r2
    rw [hc, hd] at h
    have h2 := h ((c + a : Nat) : Int) ((d + b : Nat) : Int) (by omega) (by omega) (by omega) (by omega)
    obtain ⟨h3, h4⟩ := h2
    rw [Int.natCast_add, Int.mul_add, Int.mul_add]
    omega
/-- a mean lies between the least and the greatest of its samples -/
theorem dn_between {zs : List Int} {W H fx fy x y : Nat} {lo hi : Int} (h1 : 1 ≤ fx) (h2 : 1 ≤ fy)
    (h : ∀ i j : Int, ((fx * x : Nat) : Int) ≤ i → i ≤ ((fx * x : Nat) : Int) + fx - 1 → ((fy * y : Nat) : Int) ≤ j → j ≤ ((fy * y : Nat) : Int) + fy - 1 → In2 lo hi (nearV zs W H i j)) : In2 lo hi (dnV zs W H fx fy x y) := by
  have h3 : 1 ≤ fx * fy := Nat.mul_le_mul h1 h2
  obtain ⟨a, b⟩ := sum_between h1 h (fx * fy) (Nat.le_refl _)
  exact mean_between (by omega) a b
theorem dnS_below {W f : Nat} (h : 1 ≤ f) (hW : 1 ≤ W) : (dnS W f - 1) * f < W ∧ W ≤ dnS W f * f := by
  have h1 := dnS_pos hW h
  constructor
  · obtain ⟨k, hk⟩ : ∃ k, dnS W f = k + 1 := ⟨dnS W f - 1, by omega⟩
    have h2 : k + 1 ≤ (W + f - 1) / f := by unfold dnS at hk; omega
    rw [Nat.le_div_iff_mul_le (by omega), Nat.add_mul, Nat.one_mul] at h2
    rw [hk, Nat.add_sub_cancel]
    omega
  · apply Nat.le_of_not_lt
    intro hc
    have := dnS_step h hc
    omega
/-- the middle one of an odd number -/
theorem way_mid {a f : Nat} (h1 : 1 ≤ f) (h4 : f ≤ 4) (ho : f % 2 = 1) (hm : a % f = f / 2) : Flo.wayR a f = 0 ∧ Flo.wayI a f = ((a / f : Nat) : Int) := by
  have hd := Nat.div_add_mod a f
  obtain ⟨q, hq⟩ : ∃ q, a / f = q := ⟨_, rfl⟩
  rw [hm, hq] at hd
  have hf : f = 1 ∨ f = 3 := by omega
  unfold Flo.wayR Flo.wayI
  rw [hq]
  rcases hf with rfl | rfl
  · omega
  · omega
/-- not below the least, not above the greatest -/
theorem not_less {v : Nat} {lo hi n : Int} (h : Flo.Amid lo hi v) (h1 : n ≤ lo) (hb : n.natAbs ≤ 16777216) : (Ieee.single.order v (floatOfInt .f32 n) == some .lt) = false := by
  obtain ⟨a, b⟩ := Flo.int_fin n hb
  rw [Flo.order_fin h.fin a, b]
  have h2 : n * (Flo.P 0 : Int) ≤ lo * (Flo.P 0 : Int) := Int.mul_le_mul_of_nonneg_right h1 (by omega)
  have h3 := h.from_
  simp only [compare, compareOfLessAndEq]
  rw [if_neg (by omega)]
  split <;> rfl
theorem not_more {v : Nat} {lo hi n : Int} (h : Flo.Amid lo hi v) (h1 : hi ≤ n) (hb : n.natAbs ≤ 16777216) : (Ieee.single.order v (floatOfInt .f32 n) == some .gt) = false := by
  obtain ⟨a, b⟩ := Flo.int_fin n hb
  rw [Flo.order_fin h.fin a, b]
  have h2 : hi * (Flo.P 0 : Int) ≤ n * (Flo.P 0 : Int) := Int.mul_le_mul_of_nonneg_right h1 (by omega)
  have h3 := h.to_
  simp only [compare, compareOfLessAndEq]
  by_cases h4 : Flo.V v < n * (Flo.P 0 : Int)
  · rw [if_pos h4]
    rfl
  · rw [if_neg h4, if_pos (by omega)]
    rfl
end Go.Proofs.Ytlbocfinjlkebaa.Samp
