/- Opening arguments: a slice of floats: its cells. -/
import Derived.Test.YtlbocfinjlkebaaOpenA
import Derived.Test.YtlbocfinjlkebaaMem
import Derived.ChangeSlices
namespace Go.Proofs.Ytlbocfinjlkebaa.Open
open Go.ChangeShapes Go.WideShapes Go.ChangeAt Go.RowKit Go.Deep

/-- the float in a cell -/
def fltAt (w : World) (a : Addr) : Nat := match w.cell? a with
  | some (.float _ z) => z
  | _ => 0
theorem open_slice_flts {H : Type} {enc : TypeId × Value → H} {P : Program} {w : World} {base : Nat} {t e : TypeId} {k : FloatKind} {fuel : Nat} {u : Value} {x : DataW H × List MemPlace} (ht : P.underlying t = some (.slice e)) (he : P.underlying e = some (.float k)) (hc : P.cellsOf e = 1)
    (h : DataW.trod enc P w base (fun _ => true) true fuel t [u] = some x) :
    ∃ (A : Option Addr) (n c : Nat) (zs : List Nat), u = .slice A n c ∧ n ≤ c ∧ c ≤ maxLen ∧ Sl w A n (zs.map (.float k)) := by
  rcases DataW.trod_slice ht h with ⟨hcs, _⟩ | ⟨a, len, cap, elems, rest, n, _, hcs, _, hb, hl, hm, hlen, hel, hsp, hns⟩
  · simp at hcs
    subst hcs
    exact ⟨none, 0, 0, [], rfl, Nat.le_refl _, Nat.zero_le _, Sl.none_ _ _⟩
  · simp at hcs
    subst hcs
    have hcell : ∀ i, i < len → w.cell? (a.add i) = some (.float k (fltAt w (a.add i))) := by
      intro i hi
      have h1 := hel i hi
      rw [hc, Nat.mul_one, List.getElem?_eq_getElem (by omega), Option.bind_eq_some_iff] at h1
      obtain ⟨cs', hcs', hy⟩ := h1
      obtain ⟨z, rfl, _⟩ := trod_float he hy
      have h2 := cell_of_cells?_one hcs'
      have h3 : fltAt w (a.add i) = z := by unfold fltAt; rw [h2]
      rw [h3]
      exact h2
    refine ⟨some a, len, cap, (List.range len).map (fun i => fltAt w (a.add i)), rfl, hl, hm, ⟨by simp, fun h0 => ?_⟩⟩
    obtain ⟨ab, ao, spot⟩ := a
    have hspot : spot = none := by simpa [Addr.add] using World.cell?_spot (hcell 0 (by omega))
    subst hspot
    refine ⟨ab, ao, rfl, fun j hj => ?_⟩
    have h1 := hcell j (by omega)
    have e : (⟨ab, ao, none⟩ : Addr).add j = ⟨ab, ao + j, none⟩ := by unfold Addr.add; split <;> simp_all
    rw [List.map_map, List.getElem?_map, List.getElem?_range hj]
    simp only [Option.map_some, Function.comp]
    rw [← h1, e]
end Go.Proofs.Ytlbocfinjlkebaa.Open
