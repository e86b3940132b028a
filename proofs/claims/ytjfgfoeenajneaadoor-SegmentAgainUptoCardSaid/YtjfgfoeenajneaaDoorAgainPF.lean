/- SegmentAgain: what is read of any file is written as the bytes that were read: where the arguments hold together at most 1048576 values and letters, the law returns true. -/
import Derived.Test.YtjfgfoeenajneaaDoorGD1
import Derived.ChangeMaps5
import Derived.Test.YtjfgfoeenajneaaDoorGD2
namespace Go.Proofs.YtjfgfoeenajneaaDoor.AgainP
open Go.ChangeShapes Go.WideShapes Go.ChangeAt Go.RowKit

set_option maxRecDepth 100000 in
theorem walk (W : World) (args : Array Value) (H : Type) (enc : TypeId × Value → H) (ds : List (DataW H)) (p : List MemPlace) (hg : Lift.Given Tryd.prog Tryd.f5 W args H enc ds p) (hb : Rows.uptoBulkAll ds ≤ 1048576) (hev : Sg.ErrT W) :
    Calls Tryd.prog 5 args W fun e W' => e = .returned (.bool true) ∧ Below W.heap.size W W' := by
  obtain ⟨⟨base, hval⟩, hA, _, hwt⟩ := hg
  rw [Tryd.params5] at hA hval hwt
  obtain ⟨v0, vs0, d0, ds0, p0, q0, hargs, rfl, rfl, h0, r0⟩ := trodAll_cons hA
  obtain ⟨v1, vs1, d1, ds1, p1, q1, rfl, rfl, rfl, h1, r1⟩ := trodAll_cons r0
  obtain ⟨rfl, rfl, rfl⟩ := trodAll_nil r1
  obtain rfl : args = #[v0, v1] := by cases args; simp_all
  obtain ⟨s0, rfl, rfl, rfl, _⟩ := Go.ChangeMaps.open_string Tryd.underlying9 (hval 0 9 v0 rfl rfl) h0
  have b0 : s0.data.toList.length + 1 ≤ 1048576 := by simp only [Rows.uptoBulkAll, Rows.uptoBulk] at hb; omega
  rw [← Sg.Bs_data s0]
  obtain ⟨n1, rfl, rfl, rfl, wn1⟩ := open_int Tryd.underlying3 (hval 1 3 v1 rfl rfl) h1
  exact Sg.segAgain_law s0.data.toList n1 W hev (by omega) (Sg.wf_i64 wn1).1 (Sg.wf_i64 wn1).2

set_option maxRecDepth 100000 in
theorem reads (os : Os) {H : Type} (enc : TypeId × Value → H) : ∃ places, DataW.whole enc Tryd.prog ((LiftL.laidWorld os).forCall (fun _ _ => 0) ⟨#[], #[.string (ByteArray.mk #[]), .int .i64 0], []⟩).memory Tryd.f5.params.toList Rows.segmentAgainSpec.vars false (#[.string (ByteArray.mk #[]), .int .i64 0] : Array Value).toList 8 = some ([.lit (.string []), .lit (.int .i64 0)], [], places) :=
  ⟨[], by kernel_rfl⟩
set_option maxRecDepth 100000 in
theorem lifted (os : Os) (started : os.Started) (H : Type) (enc : TypeId × Value → H) (F : Stop.Interp) :
    ReturnsInHanded {} Tryd.checked os 5 .any ((Rows.OpenSpec.upto Rows.segmentAgainSpec).preRow enc Tryd.prog Tryd.f5 Rows.segmentAgainUptoRow.domain false Rows.segmentAgainUptoRow.laid) (((Rows.OpenSpec.upto Rows.segmentAgainSpec).at F).post enc Tryd.prog Tryd.f5 false true false false) := by
  obtain ⟨places, hx⟩ := reads os enc
  exact LiftL.lift (s := Rows.segmentAgainSpec) started (by kernel_rfl) Tryd.func5 rfl (by kernel_rfl) Tryd.underlying4 LiftL.laidOut (by kernel_rfl) (fun H ds h => by match ds, h with | [d1, d2], _ => rfl)
    (witness_row_at (enc := enc) (C := Tryd.checked) false (LiftL.laidWorld os) #[.string (ByteArray.mk #[]), .int .i64 0] rfl (by kernel_rfl) (by kernel_rfl) (by kernel_rfl)
      (OpenSpec.preRow_of_cond 8 hx (by kernel_rfl) (fun k hk => by cases hk; kernel_rfl) (by kernel_rfl) (LiftL.laidWorld_met os _)))
    (fun W args ds p hg hb hev => walk W args H enc ds p hg hb hev)
theorem said : Rows.SegmentAgainUptoSaid :=
  OpenClaim.holds_of_cond 5 Tryd.f5 rfl rfl rfl rfl rfl rfl rfl ⟨rfl, rfl, rfl, rfl, rfl⟩ rfl rfl rfl rfl rfl (by kernel_rfl) Tryd.func5 (by kernel_rfl)
    (of_decide_eq_true (by kernel_rfl)) (by unfold Func.isWrapper; first | (rw [if_pos (by decide +kernel)]; kernel_rfl) | (rw [if_neg (by decide +kernel)]; exact ⟨rfl, rfl⟩))
    (fun os started H enc _ F => by rw [OpenClaim.pre_eq_preRow]; exact lifted os started H enc F)
theorem plain (f : FuncId) (fn : Func) (hf : Tryd.pinned.checked.prog.funcNamed "mosaic/mosaiclaw15.SegmentAgain" = some f) (hfn : Tryd.pinned.checked.prog.funcs[f]? = some fn) :
    true = Tryd.pinned.checked.prog.looks [] ∧ ∀ (j : Nat) t, fn.params[j]? = some t → Tryd.pinned.checked.prog.wantsStandIn t = false := by
  obtain rfl : f = 5 := Option.some.inj ((show Tryd.prog.funcNamed "mosaic/mosaiclaw15.SegmentAgain" = some 5 by kernel_rfl).symm.trans hf) |>.symm
  obtain rfl : fn = Tryd.f5 := (Option.some.inj (Tryd.func5.symm.trans hfn)).symm
  refine ⟨by kernel_rfl, fun j t ht => ?_⟩
  rw [Tryd.params5] at ht
  have hm : t ∈ [9, 3] := by simpa using Array.mem_of_getElem? ht
  have hall : ([9, 3].all fun u => !Tryd.prog.wantsStandIn u) = true := by kernel_rfl
  exact (show Tryd.prog.wantsStandIn t = false by simpa using List.all_eq_true.1 hall t hm)
theorem proved : Rows.SegmentAgainUptoCardSaid :=
  Claim7.holds_tied_plain_at .later [] _ _ _ _ said (fun _ h => by cases h) (by kernel_rfl) (fun _ h => by cases h) segmentAgainUpto_row_tie rfl ⟨rfl, rfl⟩ (by kernel_rfl) rfl plain (by kernel_rfl)
end Go.Proofs.YtjfgfoeenajneaaDoor.AgainP
