/- What is laid and cut does not hang on what the samples are. Plain Lean. -/
import Derived.Test.YtlbocfinjlkebaaLayL
import Derived.Test.YtlbocfinjlkebaaPlaneP8c
import Derived.Test.YtlbocfinjlkebaaPlanePIc
import Derived.Test.YtlbocfinjlkebaaPlaneP8r
import Derived.Test.YtlbocfinjlkebaaPlanePIr
namespace Go.Proofs.Ytlbocfinjlkebaa.Byt
open Go.RowKit

theorem splice_map {α β : Type} (f : α → β) (L : List α) (off : Nat) (cs : List α) : splice (L.map f) off (cs.map f) = (splice L off cs).map f := by
  unfold splice
  simp [List.map_append, List.map_take, List.map_drop]
theorem layK_map (f : Value → Value) (W L n : Nat) (s : Nat → Nat) (ys : List Value) (j0 : Nat) (xs : List Value) : ∀ k, layK W L n s (ys.map f) j0 (xs.map f) k = (layK W L n s ys j0 xs k).map f
  | 0 => rfl
  | k + 1 => by
    rw [layK, layK, layK_map f W L n s ys j0 xs k, ← List.map_drop, ← List.map_take, splice_map]
theorem layL_map (f : Value → Value) (W H W' H' : Nat) (x y : Int) (xs ys : List Value) : layL W H W' H' x y (xs.map f) (ys.map f) = (layL W H W' H' x y xs ys).map f := layK_map f _ _ _ _ _ _ _ _
/-- the number in a value -/
def unI : Value → Int
  | .int _ z => z
  | _ => 0
/-- what Lay makes of numbers -/
def layZ (W H W' H' : Nat) (x y : Int) (xs ys : List Int) : List Int := (layL W H W' H' x y (xs.map (.int .i64)) (ys.map (.int .i64))).map unI
theorem layL_ints (k : IntKind) (W H W' H' : Nat) (x y : Int) (xs ys : List Int) : layL W H W' H' x y (xs.map (.int k)) (ys.map (.int k)) = (layZ W H W' H' x y xs ys).map (.int k) := by
  have e : ∀ l : List Int, l.map (Value.int k) = (l.map (Value.int .i64)).map (fun v => Value.int k (unI v)) := fun l => by
    rw [List.map_map]
    rfl
  rw [e xs, e ys, layL_map]
  unfold layZ
  rw [List.map_map]
  rfl
theorem mem_splice {α : Type} {L : List α} {off : Nat} {cs : List α} {u : α} (h : u ∈ splice L off cs) : u ∈ L ∨ u ∈ cs := by
  unfold splice at h
  rw [List.mem_append, List.mem_append] at h
  rcases h with h | h | h
  · exact .inl (List.mem_of_mem_take h)
  · exact .inr h
  · exact .inl (List.mem_of_mem_drop h)
theorem mem_layK {W L n : Nat} {s : Nat → Nat} {ys : List Value} {j0 : Nat} {xs : List Value} {u : Value} : ∀ k, u ∈ layK W L n s ys j0 xs k → u ∈ xs ∨ u ∈ ys
  | 0, h => .inl h
  | k + 1, h => by
    rw [layK] at h
    rcases mem_splice h with h | h
    · exact mem_layK k h
    · exact .inr (List.mem_of_mem_drop (List.mem_of_mem_take h))
theorem mem_layZ {W H W' H' : Nat} {x y : Int} {xs ys : List Int} {z : Int} (h : z ∈ layZ W H W' H' x y xs ys) : z ∈ xs ∨ z ∈ ys := by
  unfold layZ at h
  obtain ⟨u, hu, rfl⟩ := List.mem_map.1 h
  have hu' : u ∈ layK W (layLeft x) (layRight x W W' - layLeft x) (layAt W' x y) (ys.map (.int .i64)) (layLeft y) (xs.map (.int .i64)) (layRight y H H' - layLeft y) := hu
  rcases mem_layK _ hu' with h | h
  · obtain ⟨q, hq, rfl⟩ := List.mem_map.1 h
    exact .inl hq
  · obtain ⟨q, hq, rfl⟩ := List.mem_map.1 h
    exact .inr hq
/-- the rows of a piece, of numbers -/
def rowsZ (W x y wd : Nat) (zs : List Int) : Nat → List Int
  | 0 => []
  | k + 1 => rowsZ W x y wd zs k ++ (zs.drop ((y + k) * W + x)).take wd
theorem rows8 (W x y wd : Nat) (zs : List Int) : ∀ k, P8.rowsL W x y wd (zs.map (.int .u8)) k = (rowsZ W x y wd zs k).map (.int .u8)
  | 0 => rfl
  | k + 1 => by rw [P8.rowsL, rowsZ, rows8 W x y wd zs k, List.map_append, List.map_take, List.map_drop]
theorem rowsI (W x y wd : Nat) (zs : List Int) : ∀ k, PI.rowsL W x y wd (zs.map (.int .i64)) k = (rowsZ W x y wd zs k).map (.int .i64)
  | 0 => rfl
  | k + 1 => by rw [PI.rowsL, rowsZ, rowsI W x y wd zs k, List.map_append, List.map_take, List.map_drop]
theorem mem_rowsZ {W x y wd : Nat} {zs : List Int} {z : Int} : ∀ k, z ∈ rowsZ W x y wd zs k → z ∈ zs
  | 0, h => by simp [rowsZ] at h
  | k + 1, h => by
    rw [rowsZ, List.mem_append] at h
    rcases h with h | h
    · exact mem_rowsZ k h
    · exact List.mem_of_mem_drop (List.mem_of_mem_take h)
theorem ends_same (zs : List Int) : P8.endsL zs = PI.endsL zs := rfl
theorem eqL8 : ∀ l : List Int, P8.eqL l l = true
  | [] => rfl
  | a :: l => by simp [P8.eqL, P8.eqE, eqL8 l]
theorem eqLI : ∀ l : List Int, PI.eqL l l = true
  | [] => rfl
  | a :: l => by simp [PI.eqL, PI.eqE, eqLI l]
theorem same8 (W H : Nat) (zs : List Int) : P8.sameB W H W H zs zs = true := by simp [P8.sameB, eqL8]
theorem sameI (W H : Nat) (zs : List Int) : PI.sameB W H W H zs zs = true := by simp [PI.sameB, eqLI]
theorem set_map (k : IntKind) (zs : List Int) (i : Nat) (z : Int) : (zs.map (.int k)).set i (Value.int k z) = (zs.set i z).map (.int k) := by rw [List.map_set]
theorem mem_set {zs : List Int} {i : Nat} {z u : Int} (h : u ∈ zs.set i z) : u ∈ zs ∨ u = z := by
  rcases List.mem_or_eq_of_mem_set h with h | h
  · exact .inl h
  · exact .inr h
/-- of samples there is one that is among the ends -/
theorem ends_some {zs : List Int} (h : 1 ≤ zs.length) : (PI.endsL zs).2.2 = true := by
  have key : ∀ (l : List Int) (s : Int × Int × Bool), s.2.2 = true → (l.foldl PI.endS s).2.2 = true := by
    intro l
    induction l with
    | nil => intro s hs; exact hs
    | cons v l ih =>
      intro s hs
      refine ih _ ?_
      unfold PI.endS
      (repeat' split) <;> first | rfl | exact hs
  cases zs with
  | nil => simp at h
  | cons v l =>
    refine key l _ ?_
    simp [PI.endS, PI.eqE]
/-- the ends are bytes where the samples are -/
theorem ends_mem (zs : List Int) (s : Int × Int × Bool) (P : Int → Prop) (hs : P s.1 ∧ P s.2.1) (h : ∀ z ∈ zs, P z) : P (zs.foldl PI.endS s).1 ∧ P (zs.foldl PI.endS s).2.1 := by
  induction zs generalizing s with
  | nil => exact hs
  | cons v l ih =>
    refine ih _ ?_ (fun z hz => h z (List.mem_cons_of_mem _ hz))
    have hv := h v (List.mem_cons_self ..)
    unfold PI.endS
    split
    · split
      · split
        · exact ⟨hv, hs.2⟩
        · split
          · exact ⟨hs.1, hv⟩
          · exact hs
      · exact ⟨hv, hv⟩
    · exact hs
end Go.Proofs.Ytlbocfinjlkebaa.Byt
