/- SegmentRead: of any file, at any place: the segment, or the fault; read again, and elsewhere between, alike: where the arguments hold together at most 1048576 values and letters, the law returns true. -/
import Derived.Test.YtjfgfoeenajneaaGreatDoorGD1
import Derived.ChangeMaps5
import Derived.Test.YtjfgfoeenajneaaGreatDoorGF3
namespace Go.Proofs.YtjfgfoeenajneaaGreatDoor.ReadP
open Go.ChangeShapes Go.WideShapes Go.ChangeAt Go.RowKit

set_option maxRecDepth 100000 in
theorem walk (W : World) (args : Array Value) (H : Type) (enc : TypeId × Value → H) (ds : List (DataW H)) (p : List MemPlace) (hg : Lift.Given Tryz.prog Tryz.f3 W args H enc ds p) (hb : Rows.uptoBulkAll ds ≤ 1048576) (hev : Sg.ErrT W) :
    Calls Tryz.prog 3 args W fun e W' => e = .returned (.bool true) ∧ Below W.heap.size W W' := by
  obtain ⟨⟨base, hval⟩, hA, _, hwt⟩ := hg
  rw [Tryz.params3] at hA hval hwt
  obtain ⟨v0, vs0, d0, ds0, p0, q0, hargs, rfl, rfl, h0, r0⟩ := trodAll_cons hA
  obtain ⟨v1, vs1, d1, ds1, p1, q1, rfl, rfl, rfl, h1, r1⟩ := trodAll_cons r0
  obtain ⟨v2, vs2, d2, ds2, p2, q2, rfl, rfl, rfl, h2, r2⟩ := trodAll_cons r1
  obtain ⟨rfl, rfl, rfl⟩ := trodAll_nil r2
  obtain rfl : args = #[v0, v1, v2] := by cases args; simp_all
  obtain ⟨s0, rfl, rfl, rfl, _⟩ := Go.ChangeMaps.open_string Tryz.underlying9 (hval 0 9 v0 rfl rfl) h0
  have b0 : s0.data.toList.length + 1 ≤ 1048576 := by simp only [Rows.uptoBulkAll, Rows.uptoBulk] at hb; omega
  rw [← Sg.Bs_data s0]
  obtain ⟨n1, rfl, rfl, rfl, wn1⟩ := open_int Tryz.underlying3 (hval 1 3 v1 rfl rfl) h1
  obtain ⟨n2, rfl, rfl, rfl, wn2⟩ := open_int Tryz.underlying3 (hval 2 3 v2 rfl rfl) h2
  exact Sg.segRead_law s0.data.toList n1 n2 W hev (by omega) (Sg.wf_i64 wn1).1 (Sg.wf_i64 wn1).2 (Sg.wf_i64 wn2).1 (Sg.wf_i64 wn2).2

set_option maxRecDepth 100000 in
theorem reads (os : Os) {H : Type} (enc : TypeId × Value → H) : ∃ places, DataW.whole enc Tryz.prog ((LiftL.laidWorld os).forCall (fun _ _ => 0) ⟨#[], #[.string (ByteArray.mk #[]), .int .i64 0, .int .i64 0], []⟩).memory Tryz.f3.params.toList Rows.segmentReadSpec.vars false (#[.string (ByteArray.mk #[]), .int .i64 0, .int .i64 0] : Array Value).toList 8 = some ([.lit (.string []), .lit (.int .i64 0), .lit (.int .i64 0)], [], places) :=
  ⟨[], by kernel_rfl⟩
set_option maxRecDepth 100000 in
theorem lifted (os : Os) (started : os.Started) (H : Type) (enc : TypeId × Value → H) (F : Stop.Interp) :
    ReturnsInHanded {} Tryz.checked os 3 .any ((Rows.OpenSpec.upto Rows.segmentReadSpec).preRow enc Tryz.prog Tryz.f3 Rows.segmentReadUptoRow.domain false Rows.segmentReadUptoRow.laid) (((Rows.OpenSpec.upto Rows.segmentReadSpec).at F).post enc Tryz.prog Tryz.f3 false true false false) := by
  obtain ⟨places, hx⟩ := reads os enc
  exact LiftL.lift (s := Rows.segmentReadSpec) started (by kernel_rfl) Tryz.func3 rfl (by kernel_rfl) Tryz.underlying4 LiftL.laidOut (by kernel_rfl) (fun H ds h => by match ds, h with | [d1, d2, d3], _ => rfl)
    (witness_row_at (enc := enc) (C := Tryz.checked) false (LiftL.laidWorld os) #[.string (ByteArray.mk #[]), .int .i64 0, .int .i64 0] rfl (by kernel_rfl) (by kernel_rfl) (by kernel_rfl)
      (OpenSpec.preRow_of_cond 8 hx (by kernel_rfl) (fun k hk => by cases hk; kernel_rfl) (by kernel_rfl) (LiftL.laidWorld_met os _)))
    (fun W args ds p hg hb hev => walk W args H enc ds p hg hb hev)
theorem said : Rows.SegmentReadUptoSaid :=
  OpenClaim.holds_of_cond 3 Tryz.f3 rfl rfl rfl rfl rfl rfl rfl ⟨rfl, rfl, rfl, rfl, rfl⟩ rfl rfl rfl rfl rfl (by kernel_rfl) Tryz.func3 (by kernel_rfl)
    (of_decide_eq_true (by kernel_rfl)) (by unfold Func.isWrapper; first | (rw [if_pos (by decide +kernel)]; kernel_rfl) | (rw [if_neg (by decide +kernel)]; exact ⟨rfl, rfl⟩))
    (fun os started H enc _ F => by rw [OpenClaim.pre_eq_preRow]; exact lifted os started H enc F)
theorem plain (f : FuncId) (fn : Func) (hf : Tryz.pinned.checked.prog.funcNamed "mosaic/mosaiclaw15.SegmentRead" = some f) (hfn : Tryz.pinned.checked.prog.funcs[f]? = some fn) :
    true = Tryz.pinned.checked.prog.looks [] ∧ ∀ (j : Nat) t, fn.params[j]? = some t → Tryz.pinned.checked.prog.wantsStandIn t = false := by
  obtain rfl : f = 3 := Option.some.inj ((show Tryz.prog.funcNamed "mosaic/mosaiclaw15.SegmentRead" = some 3 by kernel_rfl).symm.trans hf) |>.symm
  obtain rfl : fn = Tryz.f3 := (Option.some.inj (Tryz.func3.symm.trans hfn)).symm
  refine ⟨by kernel_rfl, fun j t ht => ?_⟩
  rw [Tryz.params3] at ht
  have hm : t ∈ [9, 3, 3] := by simpa using Array.mem_of_getElem? ht
  have hall : ([9, 3, 3].all fun u => !Tryz.prog.wantsStandIn u) = true := by kernel_rfl
  exact (show Tryz.prog.wantsStandIn t = false by simpa using List.all_eq_true.1 hall t hm)
theorem proved : Rows.SegmentReadUptoCardSaid :=
  Claim7.holds_tied_plain_at .later [] _ _ _ _ said (fun _ h => by cases h) (by kernel_rfl) (fun _ h => by cases h) segmentReadUpto_row_tie rfl ⟨rfl, rfl⟩ (by kernel_rfl) rfl plain (by kernel_rfl)
end Go.Proofs.YtjfgfoeenajneaaGreatDoor.ReadP
