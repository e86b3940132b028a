/- A list laid row by row: sample x of row y is f x y. Plain Lean. -/
import Derived.Test.YtlbocfinjlkebaaPlaneDef
namespace Go.Proofs.Ytlbocfinjlkebaa

/-- the first n samples, row by row -/
def gridL {α : Type} (W : Nat) (f : Nat → Nat → α) (n : Nat) : List α := (List.range n).map fun k => f (k % W) (k / W)
theorem gridL_length {α : Type} (W : Nat) (f : Nat → Nat → α) (n : Nat) : (gridL W f n).length = n := by simp [gridL]
theorem gridL_zero {α : Type} (W : Nat) (f : Nat → Nat → α) : gridL W f 0 = [] := rfl
theorem row_div {W x y : Nat} (h : x < W) : (y * W + x) / W = y := by
  rw [Nat.mul_comm, Nat.mul_add_div (by omega), Nat.div_eq_of_lt h, Nat.add_zero]
theorem row_mod {W x y : Nat} (h : x < W) : (y * W + x) % W = x := by
  rw [Nat.add_comm, Nat.add_mul_mod_self_right, Nat.mod_eq_of_lt h]
theorem gridL_next {α : Type} {W : Nat} (f : Nat → Nat → α) {x y n : Nat} (h : x < W) (hn : y * W + x = n) : gridL W f (n + 1) = gridL W f n ++ [f x y] := by
  subst hn
  unfold gridL
  rw [List.range_succ, List.map_append]
  simp only [List.map_cons, List.map_nil, row_div h, row_mod h]
theorem gridL_get {α : Type} {W : Nat} (f : Nat → Nat → α) {x y n : Nat} (h : x < W) (hn : y * W + x < n) : (gridL W f n)[y * W + x]? = some (f x y) := by
  unfold gridL
  rw [List.getElem?_map, List.getElem?_range hn]
  simp only [Option.map_some, row_div h, row_mod h]
theorem gridL_map {α β : Type} (W : Nat) (f : Nat → Nat → α) (g : α → β) (n : Nat) : (gridL W f n).map g = gridL W (fun x y => g (f x y)) n := by
  simp [gridL]
theorem gridL_ext {α : Type} {W H : Nat} {f g : Nat → Nat → α} (h : ∀ x y, x < W → y < H → f x y = g x y) : gridL W f (H * W) = gridL W g (H * W) := by
  unfold gridL
  apply List.map_congr_left
  intro k hk
  rw [List.mem_range] at hk
  have hW : 0 < W := Nat.pos_of_ne_zero (fun h0 => by rw [h0, Nat.mul_zero] at hk; omega)
  exact h _ _ (Nat.mod_lt _ hW) (Nat.div_lt_of_lt_mul (by rw [Nat.mul_comm]; exact hk))
/-- whatever is so many is a grid of its own samples -/
theorem eq_gridL {α : Type} {W H : Nat} {l : List α} {d : α} (hl : l.length = W * H) : l = gridL W (fun x y => l.getD (y * W + x) d) (H * W) := by
  apply List.ext_getElem?
  intro k
  by_cases hk : k < H * W
  · have hW : 0 < W := Nat.pos_of_ne_zero (fun h0 => by rw [h0, Nat.mul_zero] at hk; omega)
    have h1 : k / W * W + k % W = k := by rw [Nat.mul_comm]; exact Nat.div_add_mod k W
    have h2 : k < l.length := by rw [hl, Nat.mul_comm]; exact hk
    unfold gridL
    rw [List.getElem?_map, List.getElem?_range hk]
    simp only [Option.map_some, h1]
    rw [List.getD_eq_getElem?_getD, List.getElem?_eq_getElem h2]
    rfl
  · rw [List.getElem?_eq_none (by rw [hl, Nat.mul_comm]; omega), List.getElem?_eq_none (by rw [gridL_length]; omega)]
end Go.Proofs.Ytlbocfinjlkebaa
