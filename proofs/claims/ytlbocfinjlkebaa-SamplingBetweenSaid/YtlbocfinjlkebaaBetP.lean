/- SamplingBetween: whatever the shape and the factors: no sample beyond those that it is made of: the law returns true, and what was handed in stays. -/
import Derived.Test.YtlbocfinjlkebaaRows
import Derived.Test.YtlbocfinjlkebaaOpenS
import Derived.Test.YtlbocfinjlkebaaBet
namespace Go.Proofs.Ytlbocfinjlkebaa.BetP
open Go.ChangeShapes Go.WideShapes Go.ChangeAt Go.RowKit Go.Deep

theorem own : ownKnob Try.prog.godebug = none := by kernel_rfl
theorem cByte : Try.prog.cellsOf 5 = 1 := by kernel_rfl
theorem flatS : Open.flat Try.prog 30 = true := by kernel_rfl

theorem int_of {z : Int} (h : (Lit.int .i64 z).wf = true) : -9223372036854775808 ≤ z ∧ z ≤ 9223372036854775807 := by
  have h1 : IntKind.i64.min = -9223372036854775808 := rfl
  have h2 : IntKind.i64.max = 9223372036854775807 := rfl
  have h3 : (decide (IntKind.i64.min ≤ z) && decide (z ≤ IntKind.i64.max)) = true := h
  rw [h1, h2] at h3
  simpa using h3

theorem byte_of {z : Int} (h : (Lit.int .u8 z).wf = true) : 0 ≤ z ∧ z ≤ 255 := by
  have h1 : IntKind.u8.min = 0 := rfl
  have h2 : IntKind.u8.max = 255 := rfl
  have h3 : (decide (IntKind.u8.min ≤ z) && decide (z ≤ IntKind.u8.max)) = true := h
  rw [h1, h2] at h3
  simpa using h3

theorem any (wd : Int) (A : Option Addr) (n c : Nat) (zs : List Int) (x y : Int) (w : World) (hnc : n ≤ c) (hc : c ≤ maxLen) (hsl : Sl w A n (zs.map (.int .u8))) (hz : Samp.Bytes zs)
    (hx1 : -9223372036854775808 ≤ x) (hx2 : x ≤ 9223372036854775807) (hy1 : -9223372036854775808 ≤ y) (hy2 : y ≤ 9223372036854775807) :
    Calls Try.prog 12 #[.agg #[.int .i64 wd, .slice A n c], .int .i64 x, .int .i64 y] w (TrueB w) := by
  cases hs : Samp.shaped wd n
  · exact Samp.lawBet_none wd A n c x y w (Nat.le_trans hnc hc) hs hx1 hx2 hy1 hy2
  · have hs' : 1 ≤ wd ∧ wd ≤ n ∧ n ≤ 67108864 := by
      unfold Samp.shaped at hs
      simpa using hs
    obtain ⟨W, rfl⟩ := Int.eq_ofNat_of_zero_le (show 0 ≤ wd by omega)
    exact Samp.lawBet_some W A n c zs x y w hnc hc hsl hz (by omega) (by omega) (by omega) hx1 hx2 hy1 hy2

set_option maxRecDepth 100000 in
theorem walk (W : World) (args : Array Value) (H : Type) (enc : TypeId × Value → H) (ds : List (DataW H)) (p : List MemPlace) (hg : Lift.Given Try.prog Try.f12 W args H enc ds p) :
    Calls Try.prog 12 args W fun e W' => e = .returned (.bool true) ∧ Below W.heap.size W W' := by
  obtain ⟨⟨base, hval⟩, hA, _, _⟩ := hg
  rw [Try.params12] at hA hval
  obtain ⟨v0, vs0, d0, ds0, p0, q0, hargs, rfl, rfl, h0, r0⟩ := trodAll_cons hA
  obtain ⟨v1, vs1, d1, ds1, p1, q1, rfl, rfl, rfl, h1, r1⟩ := trodAll_cons r0
  obtain ⟨v2, vs2, d2, ds2, p2, q2, rfl, rfl, rfl, h2, r2⟩ := trodAll_cons r1
  obtain ⟨rfl, rfl, rfl⟩ := trodAll_nil r2
  obtain rfl : args = #[v0, v1, v2] := by cases args; simp_all
  have hv0 := hval 0 30 v0 rfl rfl
  obtain ⟨n1, rfl, _, _, hw1⟩ := open_int Try.underlying3 (hval 1 3 v1 rfl rfl) h1
  have hb1 := int_of hw1
  obtain ⟨n2, rfl, _, _, hw2⟩ := open_int Try.underlying3 (hval 2 3 v2 rfl rfl) h2
  have hb2 := int_of hw2
  obtain ⟨ho, hc⟩ := Open.flat_of Try.underlying30 flatS
  obtain ⟨cs, rfl, hl, n, hf⟩ := Open.open_fields Try.underlying30 ho hc hv0 h0
  match cs, hl with
  | [c0, c1], _ =>
    obtain ⟨u0, _, e0, g0⟩ := hf 0 _ rfl
    obtain ⟨u1, _, e1, g1⟩ := hf 1 _ rfl
    obtain ⟨wd, z0, _⟩ := DataW.trod_int Try.underlying3 g0
    obtain ⟨A, m, c, zs, z1, hnc, hcm, hsl, hwz⟩ := Open.open_slice_ints Try.underlying28 Try.underlying5 cByte g1
    simp at e0 e1 z0
    subst e0 e1 z0 z1
    exact any wd A m c zs n1 n2 W hnc hcm hsl (fun z hz => byte_of (hwz z hz)) hb1.1 hb1.2 hb2.1 hb2.2

set_option maxRecDepth 100000 in
theorem lifted (os : Os) (started : os.Started) (H : Type) (enc : TypeId × Value → H) :
    ReturnsInHanded {} Try.checked os 12 .any (Rows.samplingBetweenSpec.pre6 enc Try.prog Try.f12 Rows.samplingBetweenRow.domain false) (Rows.samplingBetweenSpec.post enc Try.prog Try.f12 false true false false) :=
  Lift.lift (C := Try.checked) own started (by kernel_rfl) Try.func12 rfl (by kernel_rfl) Try.underlying4 laidOut (by kernel_rfl) (fun H ds h => by match ds, h with | [d1, d2, d3], _ => rfl)
    (ChangeSpec.witness6 (enc := enc) (C := Try.checked) false ⟨#[], #[.agg #[.int .i64 0, .slice none 0 0], .int .i64 0, .int .i64 0], []⟩ 8 (by kernel_rfl) (by kernel_rfl) (by kernel_rfl) (by kernel_rfl))
    (fun W args ds p hg => walk W args H enc ds p hg)

theorem proved : Rows.SamplingBetweenSaid :=
  OpenClaim.holds_of_wide 12 Try.f12 rfl rfl rfl rfl rfl rfl rfl ⟨rfl, rfl, rfl, rfl, rfl⟩ rfl rfl rfl rfl rfl (by kernel_rfl) Try.func12 (by kernel_rfl)
    (of_decide_eq_true (by kernel_rfl)) (by unfold Func.isWrapper; first | (rw [if_pos (by decide +kernel)]; kernel_rfl) | (rw [if_neg (by decide +kernel)]; exact ⟨rfl, rfl⟩))
    (fun os started H enc _ => lifted os started H enc)
end Go.Proofs.Ytlbocfinjlkebaa.BetP
