/- PlanePieces: a piece cut, laid back and laid elsewhere, whatever the numbers: the law returns true. -/
import Derived.Test.YtlbocfinjlkebaaRows
import Derived.Test.YtlbocfinjlkebaaOpenA
import Derived.Test.YtlbocfinjlkebaaPieces
namespace Go.Proofs.Ytlbocfinjlkebaa.PiecesP
open Go.ChangeShapes Go.WideShapes Go.ChangeAt Go.RowKit Go.Deep

theorem own : ownKnob Try.prog.godebug = none := by kernel_rfl
theorem cInt : Try.prog.cellsOf 3 = 1 := by kernel_rfl
theorem cBox : Try.prog.cellsOf 48 = 4 := by kernel_rfl

set_option maxRecDepth 100000 in
theorem walk (W : World) (args : Array Value) (H : Type) (enc : TypeId × Value → H) (ds : List (DataW H)) (p : List MemPlace) (hg : Lift.Given Try.prog Try.f6 W args H enc ds p) :
    Calls Try.prog 6 args W fun e W' => e = .returned (.bool true) ∧ Below W.heap.size W W' := by
  obtain ⟨⟨base, hval⟩, hA, _, _⟩ := hg
  rw [Try.params6] at hA hval
  obtain ⟨v0, vs0, d0, ds0, p0, q0, hargs, rfl, rfl, h0, r0⟩ := trodAll_cons hA
  obtain ⟨v1, vs1, d1, ds1, p1, q1, rfl, rfl, rfl, h1, r1⟩ := trodAll_cons r0
  obtain ⟨v2, vs2, d2, ds2, p2, q2, rfl, rfl, rfl, h2, r2⟩ := trodAll_cons r1
  obtain ⟨v3, vs3, d3, ds3, p3, q3, rfl, rfl, rfl, h3, r3⟩ := trodAll_cons r2
  obtain ⟨v4, vs4, d4, ds4, p4, q4, rfl, rfl, rfl, h4, r4⟩ := trodAll_cons r3
  obtain ⟨rfl, rfl, rfl⟩ := trodAll_nil r4
  obtain rfl : args = #[v0, v1, v2, v3, v4] := by cases args; simp_all
  have hv2 := hval 2 48 v2 rfl rfl
  obtain ⟨n0, rfl⟩ := okWide_int Try.underlying3 (hval 0 3 v0 rfl rfl)
  obtain ⟨n1, rfl⟩ := okWide_int Try.underlying3 (hval 1 3 v1 rfl rfl)
  obtain ⟨n3, rfl⟩ := okWide_int Try.underlying3 (hval 3 3 v3 rfl rfl)
  obtain ⟨n4, rfl⟩ := okWide_int Try.underlying3 (hval 4 3 v4 rfl rfl)
  obtain ⟨cs, rfl, hl, n, hf⟩ := Open.open_array Try.underlying48 cInt cBox hv2 h2
  match cs, hl with
  | [c0, c1, c2, c3], _ =>
    obtain ⟨u0, _, e0, g0⟩ := hf 0 (by decide)
    obtain ⟨u1, _, e1, g1⟩ := hf 1 (by decide)
    obtain ⟨u2, _, e2, g2⟩ := hf 2 (by decide)
    obtain ⟨u3, _, e3, g3⟩ := hf 3 (by decide)
    obtain ⟨q, z0, _⟩ := DataW.trod_int Try.underlying3 g0
    obtain ⟨h, z1, _⟩ := DataW.trod_int Try.underlying3 g1
    obtain ⟨v, z2, _⟩ := DataW.trod_int Try.underlying3 g2
    obtain ⟨r, z3, _⟩ := DataW.trod_int Try.underlying3 g3
    simp at e0 e1 e2 e3 z0 z1 z2 z3
    subst e0 e1 e2 e3 z0 z1 z2 z3
    exact Pieces.pieces_any n0 n1 n3 n4 q h v r W

set_option maxRecDepth 100000 in
theorem lifted (os : Os) (started : os.Started) (H : Type) (enc : TypeId × Value → H) :
    ReturnsInHanded {} Try.checked os 6 .any (Rows.planePiecesSpec.pre6 enc Try.prog Try.f6 Rows.planePiecesRow.domain false) (Rows.planePiecesSpec.post enc Try.prog Try.f6 false true false false) :=
  Lift.lift (C := Try.checked) own started (by kernel_rfl) Try.func6 rfl (by kernel_rfl) Try.underlying4 laidOut (by kernel_rfl) (fun H ds h => by match ds, h with | [d1, d2, d3, d4, d5], _ => rfl)
    (ChangeSpec.witness6 (enc := enc) (C := Try.checked) false ⟨#[], #[.int .i64 0, .int .i64 0, .agg #[.int .i64 0, .int .i64 0, .int .i64 0, .int .i64 0], .int .i64 0, .int .i64 0], []⟩ 8 (by kernel_rfl) (by kernel_rfl) (by kernel_rfl) (by kernel_rfl))
    (fun W args ds p hg => walk W args H enc ds p hg)

theorem proved : Rows.PlanePiecesSaid :=
  OpenClaim.holds_of_wide 6 Try.f6 rfl rfl rfl rfl rfl rfl rfl ⟨rfl, rfl, rfl, rfl, rfl⟩ rfl rfl rfl rfl rfl (by kernel_rfl) Try.func6 (by kernel_rfl)
    (of_decide_eq_true (by kernel_rfl)) (by unfold Func.isWrapper; first | (rw [if_pos (by decide +kernel)]; kernel_rfl) | (rw [if_neg (by decide +kernel)]; exact ⟨rfl, rfl⟩))
    (fun os started H enc _ => lifted os started H enc)
end Go.Proofs.Ytlbocfinjlkebaa.PiecesP
