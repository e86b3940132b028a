/- Sixty-four cells, filled one by one. Plain Lean. -/
import Derived.Test.YtlbocfinjlkebaaPlaneDef
namespace Go.Proofs.Ytlbocfinjlkebaa
open Go.RowKit

/-- k cells are what f says, the others z -/
def tileC (f : Nat → Value) (z : Value) (k : Nat) : Array Value := ((List.range k).map f ++ List.replicate (64 - k) z).toArray
theorem tileC_size (f : Nat → Value) (z : Value) {k : Nat} (h : k ≤ 64) : (tileC f z k).size = 64 := by simp [tileC]; omega
theorem tileC_next (f : Nat → Value) (z : Value) {k : Nat} (h : k < 64) : (tileC f z k).setIfInBounds k (f k) = tileC f z (k + 1) := by
  unfold tileC
  rw [List.setIfInBounds_toArray]
  congr 1
  rw [List.set_append_right _ _ (by simp), List.length_map, List.length_range, Nat.sub_self, show 64 - k = (64 - (k + 1)) + 1 by omega, List.replicate_succ, List.set_cons_zero, List.range_succ, List.map_append, List.append_assoc]
  rfl
/-- what the law reads out of a tile -/
theorem tileC_get (f : Nat → Value) (z : Value) {k : Nat} (h : k < 64) : (tileC f z 64)[k]? = some (f k) := by
  unfold tileC
  simp [h]
theorem tileC_one {f : Nat → Value} {z : Value} {k : Nat} (hf : ∀ j, (f j).oneCell' = true) (hz : z.oneCell' = true) : (tileC f z k).all (·.oneCell') = true := by
  rw [Array.all_eq_true_iff_forall_mem]
  intro v hv
  unfold tileC at hv
  rw [List.mem_toArray, List.mem_append] at hv
  rcases hv with hv | hv
  · obtain ⟨j, _, rfl⟩ := List.mem_map.1 hv
    exact hf j
  · rw [List.mem_replicate] at hv
    rw [hv.2]
    exact hz
/-- a place of a tile, as the program counts -/
def tileX (x : Int) (k : Nat) : Int := IntKind.i64.wrap (IntKind.i64.wrap (8 * x) + ((k % 8 : Nat) : Int))
def tileY (y : Int) (k : Nat) : Int := IntKind.i64.wrap (IntKind.i64.wrap (8 * y) + ((k / 8 : Nat) : Int))
end Go.Proofs.Ytlbocfinjlkebaa
