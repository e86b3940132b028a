/- PlaneFull: the greatest planes may be made, one sample more is refused, whatever the state of memory: the law returns true. -/
import Derived.Test.YtlbocfinjlkebaaRows
import Derived.Test.YtlbocfinjlkebaaOpen
import Derived.Test.YtlbocfinjlkebaaPlaneFull
namespace Go.Proofs.Ytlbocfinjlkebaa.PlaneFullP
open Go.ChangeShapes Go.WideShapes Go.ChangeAt Go.RowKit Go.Deep

theorem own : ownKnob Try.prog.godebug = none := by kernel_rfl

theorem walk (W : World) (args : Array Value) (H : Type) (enc : TypeId × Value → H) (ds : List (DataW H)) (p : List MemPlace) (hg : Lift.Given Try.prog Try.f5 W args H enc ds p) :
    Calls Try.prog 5 args W fun e W' => e = .returned (.bool true) ∧ Below W.heap.size W W' := by
  obtain ⟨_, hA, _, _⟩ := hg
  rw [Try.params5] at hA
  obtain ⟨hargs, rfl, rfl⟩ := trodAll_nil hA
  obtain rfl : args = #[] := by cases args; simp_all
  exact PlaneFull.full_any W

set_option maxRecDepth 100000 in
theorem lifted (os : Os) (started : os.Started) (H : Type) (enc : TypeId × Value → H) :
    ReturnsInHanded {} Try.checked os 5 .any (Rows.planeFullSpec.pre6 enc Try.prog Try.f5 Rows.planeFullRow.domain false) (Rows.planeFullSpec.post enc Try.prog Try.f5 false true false false) :=
  Lift.lift (C := Try.checked) own started (by kernel_rfl) Try.func5 rfl (by kernel_rfl) Try.underlying4 laidOut (by kernel_rfl) (fun H ds h => by match ds, h with | [], _ => rfl)
    (ChangeSpec.witness6 (enc := enc) (C := Try.checked) false ⟨#[], #[], []⟩ 8 (by kernel_rfl) (by kernel_rfl) (by kernel_rfl) (by kernel_rfl))
    (fun W args ds p hg => walk W args H enc ds p hg)

theorem proved : Rows.PlaneFullSaid :=
  OpenClaim.holds_of_wide 5 Try.f5 rfl rfl rfl rfl rfl rfl rfl ⟨rfl, rfl, rfl, rfl, rfl⟩ rfl rfl rfl rfl rfl (by kernel_rfl) Try.func5 (by kernel_rfl)
    (of_decide_eq_true (by kernel_rfl)) (by unfold Func.isWrapper; first | (rw [if_pos (by decide +kernel)]; kernel_rfl) | (rw [if_neg (by decide +kernel)]; exact ⟨rfl, rfl⟩))
    (fun os started H enc _ => lifted os started H enc)
end Go.Proofs.Ytlbocfinjlkebaa.PlaneFullP
