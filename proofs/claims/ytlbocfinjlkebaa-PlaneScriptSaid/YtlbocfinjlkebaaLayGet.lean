/- What stands at a place behind Lay and in a piece cut out, sample by sample. -/
import Derived.Test.YtlbocfinjlkebaaLayL
namespace Go.Proofs.Ytlbocfinjlkebaa
open Go.RowKit

theorem row_lt {a b W i : Nat} (h : a < b) (hi : i < W) : a * W + i < b * W := by
  have : (a + 1) * W ≤ b * W := Nat.mul_le_mul_right W h
  rw [Nat.add_mul, Nat.one_mul] at this
  omega
theorem row_in {j j' W i L n : Nat} (hi : i < W) (hL : L + n ≤ W) : (j' * W + L ≤ j * W + i ∧ j * W + i < j' * W + L + n) ↔ (j = j' ∧ L ≤ i ∧ i < L + n) := by
  constructor
  · rintro ⟨h1, h2⟩
    rcases Nat.lt_trichotomy j j' with h | h | h
    · have := row_lt h hi
      omega
    · subst h
      omega
    · by_cases hn : n = 0
      · omega
      · have := row_lt (W := W) (i := L + n - 1) h (by omega)
        omega
  · rintro ⟨rfl, h1, h2⟩
    omega

theorem layK_get {W L n : Nat} {s : Nat → Nat} {ys xs : List Value} {j0 : Nat} (hLn : L + n ≤ W) : ∀ k, (∀ j, j < k → (j0 + j) * W + L + n ≤ xs.length ∧ s (j0 + j) + n ≤ ys.length) →
    ∀ i j, i < W → (layK W L n s ys j0 xs k)[j * W + i]? = if j0 ≤ j ∧ j < j0 + k ∧ L ≤ i ∧ i < L + n then ys[s j + (i - L)]? else xs[j * W + i]?
  | 0, _, i, j, _ => by rw [if_neg (by omega)]; rfl
  | k + 1, h, i, j, hi => by
    have hl := layK_length (W := W) (L := L) (n := n) (s := s) (ys := ys) (xs := xs) (j0 := j0) k (fun j hj => h j (by omega))
    obtain ⟨h1, h2⟩ := h k (by omega)
    have hc : ((ys.drop (s (j0 + k))).take n).length = n := by rw [List.length_take, List.length_drop]; omega
    rw [layK, splice_getElem? _ _ _ _ (by rw [hc, hl]; omega), hc]
    by_cases hin : (j0 + k) * W + L ≤ j * W + i ∧ j * W + i < (j0 + k) * W + L + n
    · rw [if_pos hin]
      obtain ⟨rfl, h3, h4⟩ := (row_in hi hLn).1 hin
      rw [if_pos ⟨by omega, by omega, h3, h4⟩, List.getElem?_take, if_pos (by omega), List.getElem?_drop]
      congr 1
      omega
    · rw [if_neg hin, layK_get hLn k (fun j hj => h j (by omega)) i j hi]
      have hne : ¬ (j = j0 + k ∧ L ≤ i ∧ i < L + n) := fun hh => hin ((row_in hi hLn).2 hh)
      by_cases hold : j0 ≤ j ∧ j < j0 + k ∧ L ≤ i ∧ i < L + n
      · rw [if_pos hold, if_pos ⟨hold.1, by omega, hold.2.2⟩]
      · rw [if_neg hold, if_neg (by omega)]

/-- LAY, SAMPLE BY SAMPLE -/
theorem layL_get {W H W' H' : Nat} {x y : Int} {xs ys : List Value} (hxl : xs.length = W * H) (hyl : ys.length = W' * H') (hW : 1 ≤ W) (hW' : 1 ≤ W') (hH : 1 ≤ H) (hH' : 1 ≤ H')
    (hx : x < W) (hx2 : -(W' : Int) < x) (hy : y < H) (hy2 : -(H' : Int) < y) (i j : Nat) (hi : i < W) (hj : j < H) :
    (layL W H W' H' x y xs ys)[j * W + i]? = if x ≤ i ∧ (i : Int) < x + W' ∧ y ≤ j ∧ (j : Int) < y + H' then ys[((j : Int) - y).toNat * W' + ((i : Int) - x).toNat]? else xs[j * W + i]? := by
  obtain ⟨l1, l2, l3, l4, l5, l6⟩ := lay_side hW hW' hx hx2
  obtain ⟨m1, m2, m3, m4, m5, m6⟩ := lay_side hH hH' hy hy2
  have eL : layLeft x = (max x 0).toNat := rfl
  have eR : (layRight x W W' : Int) = min (x + W') W := by unfold layRight; omega
  have eJ : layLeft y = (max y 0).toNat := rfl
  have eK : (layRight y H H' : Int) = min (y + H') H := by unfold layRight; omega
  unfold layL
  have es : ∀ j, layAt W' x y j = ((j : Int) - y).toNat * W' + ((layLeft x : Int) - x).toNat := fun _ => rfl
  generalize layAt W' x y = s at es ⊢
  generalize layLeft x = L at *
  generalize layRight x W W' = R at *
  generalize layLeft y = J at *
  generalize layRight y H H' = K at *
  rw [layK_get (by omega) (K - J) ?_ i j hi]
  · by_cases h : x ≤ i ∧ (i : Int) < x + W' ∧ y ≤ j ∧ (j : Int) < y + H'
    · rw [if_pos h, if_pos (by omega), es]
      congr 1
      omega
    · rw [if_neg h, if_neg (by omega)]
  · intro k hk
    have hq : ((J + k : Nat) : Int) - y < H' := by omega
    have h1 : (J + k + 1) * W ≤ H * W := Nat.mul_le_mul_right W (by omega)
    rw [Nat.add_mul (J + k) 1, Nat.one_mul] at h1
    have h2 : ((((J + k : Nat) : Int) - y).toNat + 1) * W' ≤ H' * W' := Nat.mul_le_mul_right W' (by omega)
    rw [Nat.add_mul _ 1, Nat.one_mul] at h2
    rw [hxl, hyl, es, Nat.mul_comm W H, Nat.mul_comm W' H']
    omega
end Go.Proofs.Ytlbocfinjlkebaa
