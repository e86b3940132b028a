/- SegmentBack: what is written of a segment is read as the same one, whatever stands ahead and behind; cut off anywhere it ends with the file: where the arguments hold together at most 1048576 values and letters, the law returns true. -/
import Derived.Test.YtjfgfoeenajneaaDoorGD1
import Derived.ChangeMaps5
import Derived.Test.YtjfgfoeenajneaaDoorGD4
namespace Go.Proofs.YtjfgfoeenajneaaDoor.BackP
open Go.ChangeShapes Go.WideShapes Go.ChangeAt Go.RowKit

set_option maxRecDepth 100000 in
theorem walk (W : World) (args : Array Value) (H : Type) (enc : TypeId × Value → H) (ds : List (DataW H)) (p : List MemPlace) (hg : Lift.Given Tryd.prog Tryd.f4 W args H enc ds p) (hb : Rows.uptoBulkAll ds ≤ 1048576) (hev : Sg.ErrT W) :
    Calls Tryd.prog 4 args W fun e W' => e = .returned (.bool true) ∧ Below W.heap.size W W' := by
  obtain ⟨⟨base, hval⟩, hA, _, hwt⟩ := hg
  rw [Tryd.params4] at hA hval hwt
  obtain ⟨v0, vs0, d0, ds0, p0, q0, hargs, rfl, rfl, h0, r0⟩ := trodAll_cons hA
  obtain ⟨v1, vs1, d1, ds1, p1, q1, rfl, rfl, rfl, h1, r1⟩ := trodAll_cons r0
  obtain ⟨v2, vs2, d2, ds2, p2, q2, rfl, rfl, rfl, h2, r2⟩ := trodAll_cons r1
  obtain ⟨v3, vs3, d3, ds3, p3, q3, rfl, rfl, rfl, h3, r3⟩ := trodAll_cons r2
  obtain ⟨rfl, rfl, rfl⟩ := trodAll_nil r3
  obtain rfl : args = #[v0, v1, v2, v3] := by cases args; simp_all
  obtain ⟨s1, rfl, rfl, rfl, _⟩ := Go.ChangeMaps.open_string Tryd.underlying9 (hval 1 9 v1 rfl rfl) h1
  have b1 : s1.data.toList.length + 1 ≤ 1048576 := by simp only [Rows.uptoBulkAll, Rows.uptoBulk] at hb; omega
  rw [← Sg.Bs_data s1]
  obtain ⟨s2, rfl, rfl, rfl, _⟩ := Go.ChangeMaps.open_string Tryd.underlying9 (hval 2 9 v2 rfl rfl) h2
  have b2 : s2.data.toList.length + 1 ≤ 1048576 := by simp only [Rows.uptoBulkAll, Rows.uptoBulk] at hb; omega
  rw [← Sg.Bs_data s2]
  obtain ⟨n3, rfl, rfl, rfl, wn3⟩ := open_int Tryd.underlying3 (hval 3 3 v3 rfl rfl) h3
  obtain ⟨cs, rfl, _⟩ := okWide_struct Tryd.underlying30 (hval 0 30 v0 rfl rfl)
  obtain ⟨fuel, hf⟩ := h0
  obtain ⟨m, vq, vh, vc, vp, vi, e, hat, hok, h1, h2, hdl⟩ := Sg.open_seg (N := 1048576) hf (by simp only [Rows.uptoBulkAll] at hb; show Rows.uptoBulk d0 ≤ _; omega) (Nat.le_refl _)
  obtain rfl : cs = Sg.segC m vq vh vc vp vi := Array.toList_inj.1 e
  exact Sg.segBack_law m vq vh vc vp vi s1.data.toList s2.data.toList n3 W hev hat hok (fun h hh => by have := h1 h hh; omega) (by omega) (by omega) (Sg.wf_i64 wn3).1 (Sg.wf_i64 wn3).2

set_option maxRecDepth 100000 in
theorem reads (os : Os) {H : Type} (enc : TypeId × Value → H) : ∃ places, DataW.whole enc Tryd.prog ((LiftL.laidWorld os).forCall (fun _ _ => 0) ⟨#[], #[.agg #[.int .u8 0, .int .i64 0, .int .i64 0, .slice none 0 0, .slice none 0 0, .int .u8 0, .int .i64 0, .int .i64 0, .slice none 0 0, .slice none 0 0, .slice none 0 0, .int .i64 0, .string (ByteArray.mk #[])], .string (ByteArray.mk #[]), .string (ByteArray.mk #[]), .int .i64 0], []⟩).memory Tryd.f4.params.toList Rows.segmentBackSpec.vars false (#[.agg #[.int .u8 0, .int .i64 0, .int .i64 0, .slice none 0 0, .slice none 0 0, .int .u8 0, .int .i64 0, .int .i64 0, .slice none 0 0, .slice none 0 0, .slice none 0 0, .int .i64 0, .string (ByteArray.mk #[])], .string (ByteArray.mk #[]), .string (ByteArray.mk #[]), .int .i64 0] : Array Value).toList 8 = some ([.agg [.lit (.int .u8 0), .lit (.int .i64 0), .lit (.int .i64 0), .nil, .nil, .agg [.lit (.int .u8 0), .lit (.int .i64 0), .lit (.int .i64 0), .nil], .nil, .nil, .lit (.int .i64 0), .lit (.string [])], .lit (.string []), .lit (.string []), .lit (.int .i64 0)], [], places) :=
  ⟨[], by kernel_rfl⟩
set_option maxRecDepth 100000 in
theorem lifted (os : Os) (started : os.Started) (H : Type) (enc : TypeId × Value → H) (F : Stop.Interp) :
    ReturnsInHanded {} Tryd.checked os 4 .any ((Rows.OpenSpec.upto Rows.segmentBackSpec).preRow enc Tryd.prog Tryd.f4 Rows.segmentBackUptoRow.domain false Rows.segmentBackUptoRow.laid) (((Rows.OpenSpec.upto Rows.segmentBackSpec).at F).post enc Tryd.prog Tryd.f4 false true false false) := by
  obtain ⟨places, hx⟩ := reads os enc
  exact LiftL.lift (s := Rows.segmentBackSpec) started (by kernel_rfl) Tryd.func4 rfl (by kernel_rfl) Tryd.underlying4 LiftL.laidOut (by kernel_rfl) (fun H ds h => by match ds, h with | [d1, d2, d3, d4], _ => rfl)
    (witness_row_at (enc := enc) (C := Tryd.checked) false (LiftL.laidWorld os) #[.agg #[.int .u8 0, .int .i64 0, .int .i64 0, .slice none 0 0, .slice none 0 0, .int .u8 0, .int .i64 0, .int .i64 0, .slice none 0 0, .slice none 0 0, .slice none 0 0, .int .i64 0, .string (ByteArray.mk #[])], .string (ByteArray.mk #[]), .string (ByteArray.mk #[]), .int .i64 0] rfl (by kernel_rfl) (by kernel_rfl) (by kernel_rfl)
      (OpenSpec.preRow_of_cond 8 hx (by kernel_rfl) (fun k hk => by cases hk; kernel_rfl) (by kernel_rfl) (LiftL.laidWorld_met os _)))
    (fun W args ds p hg hb hev => walk W args H enc ds p hg hb hev)
theorem said : Rows.SegmentBackUptoSaid :=
  OpenClaim.holds_of_cond 4 Tryd.f4 rfl rfl rfl rfl rfl rfl rfl ⟨rfl, rfl, rfl, rfl, rfl⟩ rfl rfl rfl rfl rfl (by kernel_rfl) Tryd.func4 (by kernel_rfl)
    (of_decide_eq_true (by kernel_rfl)) (by unfold Func.isWrapper; first | (rw [if_pos (by decide +kernel)]; kernel_rfl) | (rw [if_neg (by decide +kernel)]; exact ⟨rfl, rfl⟩))
    (fun os started H enc _ F => by rw [OpenClaim.pre_eq_preRow]; exact lifted os started H enc F)
theorem plain (f : FuncId) (fn : Func) (hf : Tryd.pinned.checked.prog.funcNamed "mosaic/mosaiclaw15.SegmentBack" = some f) (hfn : Tryd.pinned.checked.prog.funcs[f]? = some fn) :
    true = Tryd.pinned.checked.prog.looks [] ∧ ∀ (j : Nat) t, fn.params[j]? = some t → Tryd.pinned.checked.prog.wantsStandIn t = false := by
  obtain rfl : f = 4 := Option.some.inj ((show Tryd.prog.funcNamed "mosaic/mosaiclaw15.SegmentBack" = some 4 by kernel_rfl).symm.trans hf) |>.symm
  obtain rfl : fn = Tryd.f4 := (Option.some.inj (Tryd.func4.symm.trans hfn)).symm
  refine ⟨by kernel_rfl, fun j t ht => ?_⟩
  rw [Tryd.params4] at ht
  have hm : t ∈ [30, 9, 9, 3] := by simpa using Array.mem_of_getElem? ht
  have hall : ([30, 9, 9, 3].all fun u => !Tryd.prog.wantsStandIn u) = true := by kernel_rfl
  exact (show Tryd.prog.wantsStandIn t = false by simpa using List.all_eq_true.1 hall t hm)
theorem proved : Rows.SegmentBackUptoCardSaid :=
  Claim7.holds_tied_plain_at .later [] _ _ _ _ said (fun _ h => by cases h) (by kernel_rfl) (fun _ h => by cases h) segmentBackUpto_row_tie rfl ⟨rfl, rfl⟩ (by kernel_rfl) rfl plain (by kernel_rfl)
end Go.Proofs.YtjfgfoeenajneaaDoor.BackP
