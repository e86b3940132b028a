/- SamplingNames: the limits and the errors have their numbers, two samples are repeated, smoothed and made one, whatever the state of memory: the law returns true. -/
import Derived.Test.YtlbocfinjlkebaaRows
import Derived.Test.YtlbocfinjlkebaaOpen
import Derived.Test.YtlbocfinjlkebaaAlive
namespace Go.Proofs.Ytlbocfinjlkebaa.NamesP
open Go.ChangeShapes Go.WideShapes Go.ChangeAt Go.RowKit Go.Deep

theorem own : ownKnob Try.prog.godebug = none := by kernel_rfl

theorem walk (W : World) (args : Array Value) (H : Type) (enc : TypeId × Value → H) (ds : List (DataW H)) (p : List MemPlace) (hg : Lift.Given Try.prog Try.f11 W args H enc ds p) :
    Calls Try.prog 11 args W fun e W' => e = .returned (.bool true) ∧ Below W.heap.size W W' := by
  obtain ⟨_, hA, _, _⟩ := hg
  rw [Try.params11] at hA
  obtain ⟨hargs, rfl, rfl⟩ := trodAll_nil hA
  obtain rfl : args = #[] := by cases args; simp_all
  exact Samp.names_any W

set_option maxRecDepth 100000 in
theorem lifted (os : Os) (started : os.Started) (H : Type) (enc : TypeId × Value → H) :
    ReturnsInHanded {} Try.checked os 11 .any (Rows.samplingNamesSpec.pre6 enc Try.prog Try.f11 Rows.samplingNamesRow.domain false) (Rows.samplingNamesSpec.post enc Try.prog Try.f11 false true false false) :=
  Lift.lift (C := Try.checked) own started (by kernel_rfl) Try.func11 rfl (by kernel_rfl) Try.underlying4 laidOut (by kernel_rfl) (fun H ds h => by match ds, h with | [], _ => rfl)
    (ChangeSpec.witness6 (enc := enc) (C := Try.checked) false ⟨#[], #[], []⟩ 8 (by kernel_rfl) (by kernel_rfl) (by kernel_rfl) (by kernel_rfl))
    (fun W args ds p hg => walk W args H enc ds p hg)

theorem proved : Rows.SamplingNamesSaid :=
  OpenClaim.holds_of_wide 11 Try.f11 rfl rfl rfl rfl rfl rfl rfl ⟨rfl, rfl, rfl, rfl, rfl⟩ rfl rfl rfl rfl rfl (by kernel_rfl) Try.func11 (by kernel_rfl)
    (of_decide_eq_true (by kernel_rfl)) (by unfold Func.isWrapper; first | (rw [if_pos (by decide +kernel)]; kernel_rfl) | (rw [if_neg (by decide +kernel)]; exact ⟨rfl, rfl⟩))
    (fun os started H enc _ => lifted os started H enc)
end Go.Proofs.Ytlbocfinjlkebaa.NamesP
