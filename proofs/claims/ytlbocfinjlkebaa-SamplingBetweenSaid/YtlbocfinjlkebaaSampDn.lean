/- Down: the means, in plain Lean: sums of the nearest samples, rounded half up; how many there are. -/
import Derived.Test.YtlbocfinjlkebaaSampN
namespace Go.Proofs.Ytlbocfinjlkebaa.Samp
open Go.RowKit

/-- every number is a byte -/
def Bytes (zs : List Int) : Prop := ∀ z ∈ zs, 0 ≤ z ∧ z ≤ 255
theorem Bytes.getD {zs : List Int} (h : Bytes zs) (k : Nat) : 0 ≤ zs.getD k 0 ∧ zs.getD k 0 ≤ 255 := by
  rw [List.getD_eq_getElem?_getD]
  by_cases hk : k < zs.length
  · rw [List.getElem?_eq_getElem hk]
    exact h _ (List.getElem_mem hk)
  · rw [List.getElem?_eq_none (by omega)]
    simp
theorem Bytes.near {zs : List Int} (h : Bytes zs) (W H : Nat) (x y : Int) : 0 ≤ nearV zs W H x y ∧ nearV zs W H x y ≤ 255 := h.getD _
theorem Bytes.take {zs : List Int} (h : Bytes zs) (n : Nat) : Bytes (zs.take n) := fun z hz => h z (List.mem_of_mem_take hz)
theorem Bytes.rep (n : Nat) : Bytes (List.replicate n 9) := fun z hz => by rw [List.mem_replicate] at hz; omega

/-- the sum of the first k of the samples that make one -/
def sumV (zs : List Int) (W H fx fy x y k : Nat) : Int := (gridL fx (fun i j => nearV zs W H ((fx * x + i : Nat) : Int) ((fy * y + j : Nat) : Int)) k).sum
theorem sumV_zero (zs : List Int) (W H fx fy x y : Nat) : sumV zs W H fx fy x y 0 = 0 := rfl
theorem sumV_next (zs : List Int) (W H fx fy x y k : Nat) : sumV zs W H fx fy x y (k + 1) = sumV zs W H fx fy x y k + nearV zs W H ((fx * x + k % fx : Nat) : Int) ((fy * y + k / fx : Nat) : Int) := by
  unfold sumV gridL
  rw [List.range_succ, List.map_append, List.sum_append]
  simp
theorem sumV_bnd {zs : List Int} (h : Bytes zs) (W H fx fy x y : Nat) : ∀ k : Nat, 0 ≤ sumV zs W H fx fy x y k ∧ sumV zs W H fx fy x y k ≤ 255 * k
  | 0 => by rw [sumV_zero]; omega
  | k + 1 => by
    have h1 := sumV_bnd h W H fx fy x y k
    have h2 := h.near W H ((fx * x + k % fx : Nat) : Int) ((fy * y + k / fx : Nat) : Int)
    rw [sumV_next]
    omega

/-- a mean, rounded half up -/
def meanV (s n : Int) : Int := (2 * s + n) / (2 * n)
theorem mean_step {s n : Int} (h : 0 < n) : meanV s n = if n ≤ 2 * (s - s / n * n) then s / n + 1 else s / n := by
  unfold meanV
  obtain ⟨q, hq⟩ : ∃ q, s / n = q := ⟨_, rfl⟩
  have h1 := Int.emod_nonneg s (show n ≠ 0 by omega)
  have h2 := Int.emod_lt_of_pos s h
  have h3 := Int.mul_ediv_add_emod s n
  rw [hq] at h3 ⊢
  obtain ⟨r, hr⟩ : ∃ r, s % n = r := ⟨_, rfl⟩
  rw [hr] at h1 h2 h3
  obtain ⟨m, hm⟩ : ∃ m, n * q = m := ⟨_, rfl⟩
  have hm' : q * n = m := by rw [Int.mul_comm]; exact hm
  rw [hm] at h3
  rw [hm']
  split
  · rw [show 2 * s + n = (2 * r - n) + (q + 1) * (2 * n) by rw [Int.add_mul, show q * (2 * n) = 2 * m by rw [← hm', Int.mul_left_comm]]; omega]
    rw [Int.add_mul_ediv_right _ _ (by omega), Int.ediv_eq_zero_of_lt (by omega) (by omega)]
    omega
  · rw [show 2 * s + n = (2 * r + n) + q * (2 * n) by rw [show q * (2 * n) = 2 * m by rw [← hm', Int.mul_left_comm]]; omega]
    rw [Int.add_mul_ediv_right _ _ (by omega), Int.ediv_eq_zero_of_lt (by omega) (by omega)]
    omega
theorem mean_byte {s n : Int} (h : 0 < n) (h1 : 0 ≤ s) (h2 : s ≤ 255 * n) : 0 ≤ meanV s n ∧ meanV s n ≤ 255 := by
  unfold meanV
  refine ⟨Int.ediv_nonneg (by omega) (by omega), ?_⟩
  have : (2 * s + n) / (2 * n) < 256 := Int.ediv_lt_of_lt_mul (by omega) (by omega)
  omega
/-- a sample of the smaller plane -/
def dnV (zs : List Int) (W H fx fy x y : Nat) : Int := meanV (sumV zs W H fx fy x y (fx * fy)) ((fx * fy : Nat) : Int)
/-- a side of the smaller plane -/
def dnS (W f : Nat) : Nat := (W + f - 1) / f
theorem dnS_pos {W f : Nat} (h : 1 ≤ W) (hf : 1 ≤ f) : 1 ≤ dnS W f := by
  unfold dnS; exact (Nat.le_div_iff_mul_le (by omega)).2 (by omega)
theorem dnS_le {W f : Nat} (hf : 1 ≤ f) : dnS W f ≤ W := by
  unfold dnS
  cases W with
  | zero => simp; omega
  | succ n =>
    rw [Nat.div_le_iff_le_mul_add_pred (by omega)]
    have : n + 1 ≤ f * (n + 1) := Nat.le_mul_of_pos_left (n + 1) (by omega)
    omega
theorem dnS_step {W f k : Nat} (hf : 1 ≤ f) (h : k * f < W) : k + 1 ≤ dnS W f := by
  unfold dnS
  rw [Nat.le_div_iff_mul_le (by omega), Nat.add_mul, Nat.one_mul]
  omega
theorem dnS_end {W f k : Nat} (hf : 1 ≤ f) (h : ¬ k * f < W) (hk : k ≤ dnS W f) : k = dnS W f := by
  have h1 : dnS W f < k + 1 := by
    unfold dnS
    rw [Nat.div_lt_iff_lt_mul (by omega), Nat.add_mul, Nat.one_mul]
    omega
  omega
theorem dnV_byte {zs : List Int} (h : Bytes zs) (W H fx fy x y : Nat) (h1 : 1 ≤ fx) (h2 : 1 ≤ fy) : 0 ≤ dnV zs W H fx fy x y ∧ dnV zs W H fx fy x y ≤ 255 := by
  have h3 : 1 ≤ fx * fy := Nat.mul_le_mul h1 h2
  have h4 := sumV_bnd h W H fx fy x y (fx * fy)
  exact mean_byte (by omega) h4.1 h4.2
/-- of a plane of nines every mean is a nine -/
theorem near_nine {W H : Nat} (x y : Int) (h1 : 1 ≤ W) (h2 : 1 ≤ H) : nearV (List.replicate (W * H) 9) W H x y = 9 := by
  have a := clampI_in x h1
  have b := clampI_in y h2
  unfold nearV
  rw [List.getD_eq_getElem?_getD, List.getElem?_replicate, if_pos]
  · rfl
  · rw [Nat.mul_comm W H]
    have : ((clampI y H).toNat + 1) * W ≤ H * W := Nat.mul_le_mul_right W (by omega)
    rw [Nat.add_mul, Nat.one_mul] at this
    omega
theorem sum_nine {W H : Nat} (fx fy x y : Nat) (h1 : 1 ≤ W) (h2 : 1 ≤ H) : ∀ k : Nat, sumV (List.replicate (W * H) 9) W H fx fy x y k = 9 * k
  | 0 => rfl
  | k + 1 => by rw [sumV_next, sum_nine fx fy x y h1 h2 k, near_nine _ _ h1 h2]; omega
theorem dn_nine {W H fx fy : Nat} (x y : Nat) (h1 : 1 ≤ W) (h2 : 1 ≤ H) (h3 : 1 ≤ fx) (h4 : 1 ≤ fy) : dnV (List.replicate (W * H) 9) W H fx fy x y = 9 := by
  have h5 : 1 ≤ fx * fy := Nat.mul_le_mul h3 h4
  unfold dnV meanV
  rw [sum_nine fx fy x y h1 h2]
  obtain ⟨n, hn⟩ : ∃ n, fx * fy = n := ⟨_, rfl⟩
  rw [hn] at h5 ⊢
  rw [show 2 * (9 * (n : Int)) + (n : Int) = (n : Int) + 9 * (2 * (n : Int)) by omega, Int.add_mul_ediv_right _ _ (by omega), Int.ediv_eq_zero_of_lt (by omega) (by omega)]
  rfl
end Go.Proofs.Ytlbocfinjlkebaa.Samp
