/- SegmentSpoilt: nine right segments, each of their first forty bytes turned into each number: both readers say the same: the law, which has no arguments, returns true. -/
import Derived.Test.YtjfgfoeenajneaaDoorGD1
import Derived.ChangeMaps5
import Derived.Test.YtjfgfoeenajneaaDoorGE5
import Derived.JoinedOf
namespace Go.Proofs.YtjfgfoeenajneaaDoor.SpoiltP
open Go.ChangeShapes Go.WideShapes Go.ChangeAt Go.RowKit

set_option maxRecDepth 100000 in
theorem liftFull {H : Type} {enc : TypeId × Value → H} {os : Os} {f : FuncId} {fn : Func} {s : ChangeSpec} {tb : TypeId} {F : Stop.Interp}
    (started : os.Started) (noInit : Tryd.checked.prog.inits.idxOf? f = none) (hfn : Tryd.checked.prog.funcs[f]? = some fn)
    (hvars : s.vars = []) (hrt : fn.resultTypes = #[tb]) (htb : Tryd.checked.prog.underlying tb = some .bool) (hl : laidOutB Tryd.checked.prog = true)
    (hread : (fn.params.toList.all fun t => Tryd.checked.prog.readableRec t && decide (t < Tryd.checked.prog.types.size)) = true) (hspec : Lift.Says s fn.params.size)
    (witness : ∃ (w : World) (tape : Tape) (i : Input), w.os = os ∧ (w.forCall tape i).Shaped Tryd.checked.prog ∧ i.vars = [] ∧ Input.okWide Tryd.checked.prog (w.forCall tape i) .any w.heap.size f i ∧
      (Go.OpenSpec.ofChange s).preRow enc Tryd.checked.prog fn [] false LiftL.LD (w.forCall tape i).memory i.args ∧ ({} : Assume).holds Tryd.checked.prog (lone (Frame.enter Tryd.checked.prog f i.args .normal) [] (w.forCall tape i)))
    (walk : ∀ (W : World) (args : Array Value) (ds : List (DataW H)) (p : List MemPlace), Lift.Given Tryd.checked.prog fn W args H enc ds p → Sg.ErrT W →
      Calls Tryd.checked.prog f args W fun e W' => e = .returned (.bool true) ∧ Below W.heap.size W W') :
    ReturnsInHanded {} Tryd.checked os f .any ((Go.OpenSpec.ofChange s).preRow enc Tryd.checked.prog fn [] false LiftL.LD) (((Go.OpenSpec.ofChange s).at F).post enc Tryd.checked.prog fn false true false false) := by
  refine returnsInHanded_of_row (C := Tryd.checked) (s := Go.OpenSpec.ofChange s) LiftL.own started noInit hfn witness ?_
  intro W base args ds gs before hval hW _ _ hwt hL _ _
  have hW' := hW
  obtain ⟨p, q, hA, hV, rfl, hfz, hnd⟩ := hW
  have hV' := hV
  rw [show (Go.OpenSpec.ofChange s).vars = [] from hvars] at hV'
  obtain ⟨rfl, rfl⟩ := trodVars_none hV'
  have ht : (Go.OpenSpec.ofChange s).bare.plain.varTypes Tryd.checked.prog = [] := by
    have : (Go.OpenSpec.ofChange s).bare.plain.vars = [] := hvars
    simp [DataSpec.varTypes, this]
  rw [ht] at hwt
  simp only [List.append_nil] at hwt hfz hW'
  refine (walk W args ds p ⟨⟨base, hval⟩, hA, hfz, hwt⟩ (LiftL.handle_of_laid hL)).mono fun e W' ⟨he, hb⟩ => ?_
  exact ⟨_, he, Lift.post_true (s := s) hvars hrt htb hl hread hspec hW' hb⟩

set_option maxRecDepth 100000 in
theorem walk (W : World) (args : Array Value) (H : Type) (enc : TypeId × Value → H) (ds : List (DataW H)) (p : List MemPlace) (hg : Lift.Given Tryd.prog Tryd.f6 W args H enc ds p) (hev : Sg.ErrT W) :
    Calls Tryd.prog 6 args W fun e W' => e = .returned (.bool true) ∧ Below W.heap.size W W' := by
  obtain ⟨⟨base, hval⟩, hA, _, hwt⟩ := hg
  rw [Tryd.params6] at hA hval hwt
  obtain ⟨hargs, rfl, rfl⟩ := trodAll_nil hA
  obtain rfl : args = #[] := by cases args; simp_all
  exact Sg.segSpoilt_law W hev

set_option maxRecDepth 100000 in
theorem reads (os : Os) {H : Type} (enc : TypeId × Value → H) : ∃ places, DataW.whole enc Tryd.prog ((LiftL.laidWorld os).forCall (fun _ _ => 0) ⟨#[], #[], []⟩).memory Tryd.f6.params.toList Rows.segmentSpoiltSpec.vars false (#[] : Array Value).toList 8 = some ([], [], places) :=
  ⟨[], by kernel_rfl⟩
set_option maxRecDepth 100000 in
theorem lifted (os : Os) (started : os.Started) (H : Type) (enc : TypeId × Value → H) (F : Stop.Interp) :
    ReturnsInHanded {} Tryd.checked os 6 .any ((Go.OpenSpec.ofChange Rows.segmentSpoiltSpec).preRow enc Tryd.prog Tryd.f6 Rows.segmentSpoiltRow.domain false Rows.segmentSpoiltRow.laid) (((Go.OpenSpec.ofChange Rows.segmentSpoiltSpec).at F).post enc Tryd.prog Tryd.f6 false true false false) := by
  obtain ⟨places, hx⟩ := reads os enc
  exact liftFull (s := Rows.segmentSpoiltSpec) started (by kernel_rfl) Tryd.func6 rfl (by kernel_rfl) Tryd.underlying4 LiftL.laidOut (by kernel_rfl) (fun H ds h => by match ds, h with | [], _ => rfl)
    (witness_row_at (enc := enc) (C := Tryd.checked) false (LiftL.laidWorld os) #[] rfl (by kernel_rfl) (by kernel_rfl) (by kernel_rfl)
      (OpenSpec.preRow_of_cond 8 hx (by kernel_rfl) (fun k hk => by cases hk) (by kernel_rfl) (LiftL.laidWorld_met os _)))
    (fun W args ds p hg hev => walk W args H enc ds p hg hev)
theorem said : Rows.SegmentSpoiltSaid :=
  OpenClaim.holds_of_cond 6 Tryd.f6 rfl rfl rfl rfl rfl rfl rfl ⟨rfl, rfl, rfl, rfl, rfl⟩ rfl rfl rfl rfl rfl (by kernel_rfl) Tryd.func6 (by kernel_rfl)
    (of_decide_eq_true (by kernel_rfl)) (by unfold Func.isWrapper; first | (rw [if_pos (by decide +kernel)]; kernel_rfl) | (rw [if_neg (by decide +kernel)]; exact ⟨rfl, rfl⟩))
    (fun os started H enc _ F => by rw [OpenClaim.pre_eq_preRow]; exact lifted os started H enc F)
theorem plain (f : FuncId) (fn : Func) (hf : Tryd.pinned.checked.prog.funcNamed "mosaic/mosaiclaw15.SegmentSpoilt" = some f) (hfn : Tryd.pinned.checked.prog.funcs[f]? = some fn) :
    true = Tryd.pinned.checked.prog.looks [] ∧ ∀ (j : Nat) t, fn.params[j]? = some t → Tryd.pinned.checked.prog.wantsStandIn t = false := by
  obtain rfl : f = 6 := Option.some.inj ((show Tryd.prog.funcNamed "mosaic/mosaiclaw15.SegmentSpoilt" = some 6 by kernel_rfl).symm.trans hf) |>.symm
  obtain rfl : fn = Tryd.f6 := (Option.some.inj (Tryd.func6.symm.trans hfn)).symm
  refine ⟨by kernel_rfl, fun j t ht => ?_⟩
  rw [Tryd.params6] at ht
  simp at ht
theorem proved : Rows.SegmentSpoiltCardSaid :=
  Claim7.holds_tied_plain_at .later [] _ _ _ _ said (fun _ h => by cases h) (by kernel_rfl) (fun _ h => by cases h) segmentSpoilt_row_tie rfl ⟨rfl, rfl⟩ (by kernel_rfl) rfl plain (by kernel_rfl)
end Go.Proofs.YtjfgfoeenajneaaDoor.SpoiltP
