/- A piece cut out, sample by sample (int). -/
import Derived.Test.YtlbocfinjlkebaaPlanePIc
import Derived.Test.YtlbocfinjlkebaaLayGet
namespace Go.Proofs.Ytlbocfinjlkebaa.PI
open Go.RowKit

theorem rowsL_get {W x y wd : Nat} {xs : List Value} : ∀ k, (∀ j, j < k → (y + j) * W + x + wd ≤ xs.length) → ∀ r s, r < k → s < wd → (rowsL W x y wd xs k)[r * wd + s]? = xs[(y + r) * W + x + s]?
  | 0, _, r, s, hr, _ => by omega
  | k + 1, h, r, s, hr, hs => by
    have hl := rowsL_length (W := W) (x := x) (y := y) (wd := wd) (xs := xs) k (fun j hj => h j (by omega))
    have h1 := h k (by omega)
    rw [rowsL, List.getElem?_append, hl]
    by_cases hrk : r < k
    · rw [if_pos (row_lt hrk hs)]
      exact rowsL_get k (fun j hj => h j (by omega)) r s hrk hs
    · obtain rfl : r = k := by omega
      rw [if_neg (by omega), List.getElem?_take, if_pos (by omega), List.getElem?_drop]
      congr 1
      omega
theorem mem_rowsL {W x y wd : Nat} {xs : List Value} {u : Value} : ∀ k, u ∈ rowsL W x y wd xs k → u ∈ xs
  | 0, h => by simp [rowsL] at h
  | k + 1, h => by
    rw [rowsL, List.mem_append] at h
    rcases h with h | h
    · exact mem_rowsL k h
    · exact List.mem_of_mem_drop (List.mem_of_mem_take h)
end Go.Proofs.Ytlbocfinjlkebaa.PI
