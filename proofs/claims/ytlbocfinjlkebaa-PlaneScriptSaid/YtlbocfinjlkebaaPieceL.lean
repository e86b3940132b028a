/- A piece laid back where it was cut leaves the plane; laid elsewhere it is read as the law says. Plain Lean. -/
import Derived.Test.YtlbocfinjlkebaaPlanePIg
namespace Go.Proofs.Ytlbocfinjlkebaa
open Go.RowKit

theorem laid_rows {W H a b c d : Nat} {xs : List Value} (hxl : xs.length = W * H) (hc : 1 ≤ c ∧ a + c ≤ W) (hd : 1 ≤ d ∧ b + d ≤ H) :
    ∀ j, j < d → (b + j) * W + a + c ≤ xs.length := by
  intro j hj
  have h1 : (b + j + 1) * W ≤ H * W := Nat.mul_le_mul_right W (by omega)
  rw [Nat.add_mul (b + j) 1, Nat.one_mul] at h1
  rw [hxl, Nat.mul_comm W H]
  omega

/-- a plane's samples, whatever is laid: the same number -/
theorem layL_length {W H W' H' : Nat} {x y : Int} {xs ys : List Value} (hxl : xs.length = W * H) (hyl : ys.length = W' * H') (hW : 1 ≤ W) (hW' : 1 ≤ W') (hH : 1 ≤ H) (hH' : 1 ≤ H')
    (hx : x < W) (hx2 : -(W' : Int) < x) (hy : y < H) (hy2 : -(H' : Int) < y) : (layL W H W' H' x y xs ys).length = W * H := by
  obtain ⟨l1, l2, l3, l4, l5, l6⟩ := lay_side hW hW' hx hx2
  obtain ⟨m1, m2, m3, m4, m5, m6⟩ := lay_side hH hH' hy hy2
  have eL : layLeft x = (max x 0).toNat := rfl
  have eR : (layRight x W W' : Int) = min (x + W') W := by unfold layRight; omega
  have eJ : layLeft y = (max y 0).toNat := rfl
  have eK : (layRight y H H' : Int) = min (y + H') H := by unfold layRight; omega
  unfold layL
  have es : ∀ j, layAt W' x y j = ((j : Int) - y).toNat * W' + ((layLeft x : Int) - x).toNat := fun _ => rfl
  generalize layAt W' x y = s at es ⊢
  generalize layLeft x = L at *
  generalize layRight x W W' = R at *
  generalize layLeft y = J at *
  generalize layRight y H H' = K at *
  rw [layK_length (K - J), hxl]
  intro k hk
  have hq : ((J + k : Nat) : Int) - y < H' := by omega
  have h1 : (J + k + 1) * W ≤ H * W := Nat.mul_le_mul_right W (by omega)
  rw [Nat.add_mul (J + k) 1, Nat.one_mul] at h1
  have h2 : ((((J + k : Nat) : Int) - y).toNat + 1) * W' ≤ H' * W' := Nat.mul_le_mul_right W' (by omega)
  rw [Nat.add_mul _ 1, Nat.one_mul] at h2
  rw [hxl, hyl, es, Nat.mul_comm W H, Nat.mul_comm W' H']
  omega

/-- two planes' samples are the same where they are so at every place -/
theorem grid_ext {W H : Nat} {xs ys : List Value} (hxl : xs.length = W * H) (hyl : ys.length = W * H) (h : ∀ j i, j < H → i < W → xs[j * W + i]? = ys[j * W + i]?) : xs = ys := by
  apply List.ext_getElem?
  intro n
  by_cases hn : n < W * H
  · have hW : 0 < W := Nat.pos_of_ne_zero (fun h0 => by rw [h0, Nat.zero_mul] at hn; omega)
    have h1 : n / W * W + n % W = n := by rw [Nat.mul_comm]; exact Nat.div_add_mod n W
    have h2 : n / W < H := Nat.div_lt_of_lt_mul hn
    have h3 := h (n / W) (n % W) h2 (Nat.mod_lt _ hW)
    rwa [h1] at h3
  · rw [List.getElem?_eq_none (by omega), List.getElem?_eq_none (by omega)]

/-- THE PIECE LAID, SAMPLE BY SAMPLE -/
theorem piece_get {W H a b c d : Nat} {x y : Int} {xs : List Value} (hxl : xs.length = W * H) (hW : 1 ≤ W) (hH : 1 ≤ H) (hc : 1 ≤ c ∧ a + c ≤ W) (hd : 1 ≤ d ∧ b + d ≤ H)
    (hx : x < W) (hx2 : -(c : Int) < x) (hy : y < H) (hy2 : -(d : Int) < y) (i j : Nat) (hi : i < W) (hj : j < H) :
    (layL W H c d x y xs (PI.rowsL W a b c xs d))[j * W + i]? = if x ≤ i ∧ (i : Int) < x + c ∧ y ≤ j ∧ (j : Int) < y + d then xs[(b + ((j : Int) - y).toNat) * W + a + ((i : Int) - x).toNat]? else xs[j * W + i]? := by
  have hr := laid_rows hxl hc hd
  rw [layL_get hxl (by rw [PI.rowsL_length d hr, Nat.mul_comm]) hW hc.1 hH hd.1 hx hx2 hy hy2 i j hi hj]
  by_cases h : x ≤ i ∧ (i : Int) < x + c ∧ y ≤ j ∧ (j : Int) < y + d
  · rw [if_pos h, if_pos h, PI.rowsL_get d hr _ _ (by omega) (by omega)]
  · rw [if_neg h, if_neg h]

theorem piece_back {W H a b c d : Nat} {xs : List Value} (hxl : xs.length = W * H) (hW : 1 ≤ W) (hH : 1 ≤ H) (hc : 1 ≤ c ∧ a + c ≤ W) (hd : 1 ≤ d ∧ b + d ≤ H) :
    layL W H c d a b xs (PI.rowsL W a b c xs d) = xs := by
  have hr := laid_rows hxl hc hd
  refine grid_ext (layL_length hxl (by rw [PI.rowsL_length d hr, Nat.mul_comm]) hW hc.1 hH hd.1 (by omega) (by omega) (by omega) (by omega)) hxl fun j i hj hi => ?_
  rw [piece_get hxl hW hH hc hd (by omega) (by omega) (by omega) (by omega) i j hi hj]
  by_cases h : (a : Int) ≤ i ∧ (i : Int) < a + c ∧ (b : Int) ≤ j ∧ (j : Int) < b + d
  · rw [if_pos h]
    have e1 : b + ((j : Int) - b).toNat = j := by omega
    have e2 : ((i : Int) - a).toNat = i - a := by omega
    rw [e1, e2]
    congr 1
    omega
  · rw [if_neg h]
end Go.Proofs.Ytlbocfinjlkebaa
