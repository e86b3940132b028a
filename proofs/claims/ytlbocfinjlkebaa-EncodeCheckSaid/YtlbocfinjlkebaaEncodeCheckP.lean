/- EncodeCheck: whatever the options, the program's check and the document's check answer the same number: the law returns true, and nothing that was there is written. -/
import Derived.Test.YtlbocfinjlkebaaRows
import Derived.Test.YtlbocfinjlkebaaOpen
import Derived.Test.YtlbocfinjlkebaaEncCheckLaw
namespace Go.Proofs.Ytlbocfinjlkebaa.EncodeCheckP
open Go.ChangeShapes Go.WideShapes Go.ChangeAt Go.RowKit Go.Deep

theorem own : ownKnob Try.prog.godebug = none := by kernel_rfl
theorem laidOut : laidOutB Try.prog = true := by kernel_rfl

theorem flat24 : Open.flat Try.prog 24 = true := by kernel_rfl

set_option maxRecDepth 100000 in
theorem walk (W : World) (args : Array Value) (H : Type) (enc : TypeId × Value → H) (ds : List (DataW H)) (p : List MemPlace) (hg : Lift.Given Try.prog Try.f3 W args H enc ds p) :
    Calls Try.prog 3 args W fun e W' => e = .returned (.bool true) ∧ Below W.heap.size W W' := by
  obtain ⟨⟨base, hval⟩, hA, _, _⟩ := hg
  rw [Try.params3] at hA hval
  obtain ⟨v0, vs0, d0, ds0, p0, q0, hargs, rfl, rfl, h0, r0⟩ := trodAll_cons hA
  obtain ⟨rfl, rfl, rfl⟩ := trodAll_nil r0
  obtain rfl : args = #[v0] := by cases args; simp_all
  have hv0 := hval 0 24 v0 rfl rfl
  obtain ⟨ho, hc⟩ := Open.flat_of Try.underlying24 flat24
  obtain ⟨cs, rfl, hl, n, hf⟩ := Open.open_fields Try.underlying24 ho hc hv0 h0
  match cs, hl with
  | [c0, c1, c2, c3, c4, c5], _ =>
    obtain ⟨u0, _, e0, g0⟩ := hf 0 _ rfl
    obtain ⟨u1, _, e1, g1⟩ := hf 1 _ rfl
    obtain ⟨u2, _, e2, g2⟩ := hf 2 _ rfl
    obtain ⟨u3, _, e3, g3⟩ := hf 3 _ rfl
    obtain ⟨u4, _, e4, g4⟩ := hf 4 _ rfl
    obtain ⟨u5, _, e5, g5⟩ := hf 5 _ rfl
    obtain ⟨q, z0, _⟩ := Open.trod_float Try.underlying22 g0
    obtain ⟨h, z1, _⟩ := DataW.trod_int Try.underlying5 g1
    obtain ⟨v, z2, _⟩ := DataW.trod_int Try.underlying5 g2
    obtain ⟨r, z3, _⟩ := DataW.trod_int Try.underlying3 g3
    obtain ⟨b, z4, _⟩ := Open.trod_bool Try.underlying4 g4
    obtain ⟨s, z5, _⟩ := Open.trod_bool Try.underlying4 g5
    simp at e0 e1 e2 e3 e4 e5 z0 z1 z2 z3 z4 z5
    subst e0 e1 e2 e3 e4 e5 z0 z1 z2 z3 z4 z5
    exact EncCheck.law_any q h v r b s W

set_option maxRecDepth 100000 in
theorem lifted (os : Os) (started : os.Started) (H : Type) (enc : TypeId × Value → H) :
    ReturnsInHanded {} Try.checked os 3 .any (Rows.encodeCheckSpec.pre6 enc Try.prog Try.f3 Rows.encodeCheckRow.domain false) (Rows.encodeCheckSpec.post enc Try.prog Try.f3 false true false false) :=
  Lift.lift (C := Try.checked) own started (by kernel_rfl) Try.func3 rfl (by kernel_rfl) Try.underlying4 laidOut (by kernel_rfl) (fun H ds h => by match ds, h with | [d], _ => rfl)
    (ChangeSpec.witness6 (enc := enc) (C := Try.checked) false ⟨#[], #[.agg #[.float .f64 0, .int .u8 0, .int .u8 0, .int .i64 0, .bool false, .bool false]], []⟩ 8 (by kernel_rfl) (by kernel_rfl) (by kernel_rfl) (by kernel_rfl))
    (fun W args ds p hg => walk W args H enc ds p hg)

theorem proved : Rows.EncodeCheckSaid :=
  OpenClaim.holds_of_wide 3 Try.f3 rfl rfl rfl rfl rfl rfl rfl ⟨rfl, rfl, rfl, rfl, rfl⟩ rfl rfl rfl rfl rfl (by kernel_rfl) Try.func3 (by kernel_rfl)
    (of_decide_eq_true (by kernel_rfl)) (by unfold Func.isWrapper; first | (rw [if_pos (by decide +kernel)]; kernel_rfl) | (rw [if_neg (by decide +kernel)]; exact ⟨rfl, rfl⟩))
    (fun os started H enc _ => lifted os started H enc)
end Go.Proofs.Ytlbocfinjlkebaa.EncodeCheckP
