/-
  NARROWER THAN 'FOR EVERY INPUT', by the rows' own cells (each row's printed sentence says how): SegmentText: laid · SegmentBack: laid · SegmentAgain: laid · SegmentSpoilt: laid · SegmentFresh: laid · SegmentRow: laid.
  DERIVED. THE GIVEN ROWS OF THIS SEAT. 6 by the template 'for every input the law returns true; each argument reads behind the call as it read before'; 0 by the template 'total and deterministic' (their statements: YtjfgfoeenajneaaDoorTotals.lean).
  GIVEN WITH THE SEED: the statements are not yours to turn. If you find one false, say at which input.
  Laid BY PROGRAM, IN A SANDBOX (cutbox-rows.mjs): the forced cells as the released guide's own fill.sh prints them over the translation 928cec6a7ef2a893… (all of the seat's roots in one cut). By AI agents, Wed Nov 11 2026. No macro, syntax, notation, axiom, sorry.
-/
import Derived.Test.YtjfgfoeenajneaaDoorChecked
import GoSem.Claim
import GoSem.ClaimJoined
import GoSem.ClaimMapViews
import Derived.JoinedTies
import Derived.KernelRfl
namespace Go.Proofs.YtjfgfoeenajneaaDoor
/- THE CELL 'sum', in the pinned program and in every row, IS THE sha256 OF THE DUMP (.gsa) THAT YtjfgfoeenajneaaDoorProg.lean LOADS. Nothing in Lean hashes anything: it is a label: what it is worth is what the hold of that sum in a sandbox is worth. -/
noncomputable def Tryd.pinned : Pinned := { name := "ytjfgfoeenajneaadoor", sum := "928cec6a7ef2a8939fd700a6961468eef53d7343f6101f964ee046064d5e0049", checked := Tryd.checked }
namespace Rows
def none {H : Type} : Left H := { results := [], args := [] }

/- WHAT THE LISTED PACKAGE-LEVEL VARIABLES READ AS WHEN THE CALL BEGINS. Each datum BY PROGRAM (the guide's laid-datum.mjs) off the statement by which the dump's own 'gosem.cut.vars' lays the variable. In a bare row this is a premise. The card (YtjfgfoeenajneaaDoorCards.lean) ties it to the program's text. -/
def laid_errors_errorType {H : Type} : DataW H := .iface "internal/reflectlite.rtype" (.agg [.ptr (.lit (.string [101, 114, 114, 111, 114]))])

/-- 'mosaiclaw15.SegmentText': WHATEVER THE INPUT: true; the input reads as it did. -/
def segmentTextSpec : ChangeSpec := { name := "segmentText", fn := fun _ => fun
  | [d] => { results := [.lit (.bool true)], args := [d] }
  | _ => none }
def segmentTextRow : OpenClaim := { program := "ytjfgfoeenajneaadoor", sum := "928cec6a7ef2a8939fd700a6961468eef53d7343f6101f964ee046064d5e0049", func := "mosaic/mosaiclaw15.SegmentText", spec := "segmentText", inPlace := ["internal/reflectlite.ValueOf", "(internal/reflectlite.Value).Type", "(internal/reflectlite.Value).IsNil", "internal/reflectlite.TypeOf", "(internal/reflectlite.Value).Elem", "(internal/reflectlite.Value).Set"], unfollowed := true, recurses := true, named := ["errors.errorType"], apart := false, laid := [("errors.errorType", laid_errors_errorType)] }
def SegmentTextSaid : Prop := segmentTextRow.holds Tryd.pinned (OpenSpec.ofChange segmentTextSpec)

/-- ITS FALSE NEIGHBOUR: 'it returns false'. Refute it at one input. -/
def segmentTextWrong : ChangeSpec := { name := "segmentText", fn := fun _ => fun
  | [d] => { results := [.lit (.bool false)], args := [d] }
  | _ => none }
def SegmentTextWrongFalsely : Prop := segmentTextRow.holds Tryd.pinned (OpenSpec.ofChange segmentTextWrong)

/-- 'mosaiclaw15.SegmentBack': WHATEVER THE INPUT: true; the input reads as it did. -/
def segmentBackSpec : ChangeSpec := { name := "segmentBack", fn := fun _ => fun
  | [d1, d2, d3, d4] => { results := [.lit (.bool true)], args := [d1, d2, d3, d4] }
  | _ => none }
def segmentBackRow : OpenClaim := { program := "ytjfgfoeenajneaadoor", sum := "928cec6a7ef2a8939fd700a6961468eef53d7343f6101f964ee046064d5e0049", func := "mosaic/mosaiclaw15.SegmentBack", spec := "segmentBack", inPlace := ["internal/reflectlite.ValueOf", "(internal/reflectlite.Value).Type", "(internal/reflectlite.Value).IsNil", "internal/reflectlite.TypeOf", "(internal/reflectlite.Value).Elem", "(internal/reflectlite.Value).Set"], unfollowed := true, recurses := true, named := ["errors.errorType"], apart := false, laid := [("errors.errorType", laid_errors_errorType)] }
def SegmentBackSaid : Prop := segmentBackRow.holds Tryd.pinned (OpenSpec.ofChange segmentBackSpec)

/-- ITS FALSE NEIGHBOUR: 'it returns false'. Refute it at one input. -/
def segmentBackWrong : ChangeSpec := { name := "segmentBack", fn := fun _ => fun
  | [d1, d2, d3, d4] => { results := [.lit (.bool false)], args := [d1, d2, d3, d4] }
  | _ => none }
def SegmentBackWrongFalsely : Prop := segmentBackRow.holds Tryd.pinned (OpenSpec.ofChange segmentBackWrong)

/-- 'mosaiclaw15.SegmentAgain': WHATEVER THE INPUT: true; the input reads as it did. -/
def segmentAgainSpec : ChangeSpec := { name := "segmentAgain", fn := fun _ => fun
  | [d1, d2] => { results := [.lit (.bool true)], args := [d1, d2] }
  | _ => none }
def segmentAgainRow : OpenClaim := { program := "ytjfgfoeenajneaadoor", sum := "928cec6a7ef2a8939fd700a6961468eef53d7343f6101f964ee046064d5e0049", func := "mosaic/mosaiclaw15.SegmentAgain", spec := "segmentAgain", inPlace := ["internal/reflectlite.ValueOf", "(internal/reflectlite.Value).Type", "(internal/reflectlite.Value).IsNil", "internal/reflectlite.TypeOf", "(internal/reflectlite.Value).Elem", "(internal/reflectlite.Value).Set"], unfollowed := true, recurses := true, named := ["errors.errorType"], apart := false, laid := [("errors.errorType", laid_errors_errorType)] }
def SegmentAgainSaid : Prop := segmentAgainRow.holds Tryd.pinned (OpenSpec.ofChange segmentAgainSpec)

/-- ITS FALSE NEIGHBOUR: 'it returns false'. Refute it at one input. -/
def segmentAgainWrong : ChangeSpec := { name := "segmentAgain", fn := fun _ => fun
  | [d1, d2] => { results := [.lit (.bool false)], args := [d1, d2] }
  | _ => none }
def SegmentAgainWrongFalsely : Prop := segmentAgainRow.holds Tryd.pinned (OpenSpec.ofChange segmentAgainWrong)

/-- 'mosaiclaw15.SegmentSpoilt': WHATEVER THE INPUT: true; the input reads as it did. -/
def segmentSpoiltSpec : ChangeSpec := { name := "segmentSpoilt", fn := fun _ => fun
  | [] => { results := [.lit (.bool true)], args := [] }
  | _ => none }
def segmentSpoiltRow : OpenClaim := { program := "ytjfgfoeenajneaadoor", sum := "928cec6a7ef2a8939fd700a6961468eef53d7343f6101f964ee046064d5e0049", func := "mosaic/mosaiclaw15.SegmentSpoilt", spec := "segmentSpoilt", inPlace := ["internal/reflectlite.ValueOf", "(internal/reflectlite.Value).Type", "(internal/reflectlite.Value).IsNil", "internal/reflectlite.TypeOf", "(internal/reflectlite.Value).Elem", "(internal/reflectlite.Value).Set"], unfollowed := true, recurses := true, named := ["errors.errorType"], apart := false, laid := [("errors.errorType", laid_errors_errorType)] }
def SegmentSpoiltSaid : Prop := segmentSpoiltRow.holds Tryd.pinned (OpenSpec.ofChange segmentSpoiltSpec)

/-- ITS FALSE NEIGHBOUR: 'it returns false'. Refute it at one input. -/
def segmentSpoiltWrong : ChangeSpec := { name := "segmentSpoilt", fn := fun _ => fun
  | [] => { results := [.lit (.bool false)], args := [] }
  | _ => none }
def SegmentSpoiltWrongFalsely : Prop := segmentSpoiltRow.holds Tryd.pinned (OpenSpec.ofChange segmentSpoiltWrong)

/-- 'mosaiclaw15.SegmentFresh': WHATEVER THE INPUT: true; the input reads as it did. -/
def segmentFreshSpec : ChangeSpec := { name := "segmentFresh", fn := fun _ => fun
  | [d] => { results := [.lit (.bool true)], args := [d] }
  | _ => none }
def segmentFreshRow : OpenClaim := { program := "ytjfgfoeenajneaadoor", sum := "928cec6a7ef2a8939fd700a6961468eef53d7343f6101f964ee046064d5e0049", func := "mosaic/mosaiclaw15.SegmentFresh", spec := "segmentFresh", inPlace := ["internal/reflectlite.ValueOf", "(internal/reflectlite.Value).Type", "(internal/reflectlite.Value).IsNil", "internal/reflectlite.TypeOf", "(internal/reflectlite.Value).Elem", "(internal/reflectlite.Value).Set"], unfollowed := true, recurses := true, named := ["errors.errorType"], apart := false, laid := [("errors.errorType", laid_errors_errorType)] }
def SegmentFreshSaid : Prop := segmentFreshRow.holds Tryd.pinned (OpenSpec.ofChange segmentFreshSpec)

/-- ITS FALSE NEIGHBOUR: 'it returns false'. Refute it at one input. -/
def segmentFreshWrong : ChangeSpec := { name := "segmentFresh", fn := fun _ => fun
  | [d] => { results := [.lit (.bool false)], args := [d] }
  | _ => none }
def SegmentFreshWrongFalsely : Prop := segmentFreshRow.holds Tryd.pinned (OpenSpec.ofChange segmentFreshWrong)

/-- 'mosaiclaw15.SegmentRow': WHATEVER THE INPUT: true; the input reads as it did. -/
def segmentRowSpec : ChangeSpec := { name := "segmentRow", fn := fun _ => fun
  | [d] => { results := [.lit (.bool true)], args := [d] }
  | _ => none }
def segmentRowRow : OpenClaim := { program := "ytjfgfoeenajneaadoor", sum := "928cec6a7ef2a8939fd700a6961468eef53d7343f6101f964ee046064d5e0049", func := "mosaic/mosaiclaw15.SegmentRow", spec := "segmentRow", inPlace := ["internal/reflectlite.ValueOf", "(internal/reflectlite.Value).Type", "(internal/reflectlite.Value).IsNil", "internal/reflectlite.TypeOf", "(internal/reflectlite.Value).Elem", "(internal/reflectlite.Value).Set"], unfollowed := true, recurses := true, named := ["errors.errorType"], apart := false, laid := [("errors.errorType", laid_errors_errorType)] }
def SegmentRowSaid : Prop := segmentRowRow.holds Tryd.pinned (OpenSpec.ofChange segmentRowSpec)

/-- ITS FALSE NEIGHBOUR: 'it returns false'. Refute it at one input. -/
def segmentRowWrong : ChangeSpec := { name := "segmentRow", fn := fun _ => fun
  | [d] => { results := [.lit (.bool false)], args := [d] }
  | _ => none }
def SegmentRowWrongFalsely : Prop := segmentRowRow.holds Tryd.pinned (OpenSpec.ofChange segmentRowWrong)

/- THE SECOND FORM. 'bulk': how many values and letters a reading holds, each counted each time it is reached (what is shared counts as often as it is met; a slice's spare places count too). A statement '..UptoSaid' is the law's where the arguments, and the package variables that the reading takes, are together of bulk at most 1048576: NARROWER than '..Said'. Prove '..Said' where nothing that the law and all that it calls make is longer than what came in: it says more and counts as full. Else prove '..UptoSaid'. A law counts once. -/
mutual
def uptoBulk {H : Type} : DataW H → Nat
  | .lit (.string bytes) => bytes.length + 1
  | .lit _ => 1
  | .nil => 1
  | .ptr d => uptoBulk d + 1
  | .slice elems spare => uptoBulkAll elems + uptoBulkAll spare + 1
  | .agg parts => uptoBulkAll parts + 1
  | .iface _ d => uptoBulk d + 1
  | .map entries => uptoBulkEntries entries + 1
  | .held _ => 1
def uptoBulkAll {H : Type} : List (DataW H) → Nat
  | [] => 0
  | d :: r => uptoBulk d + uptoBulkAll r
def uptoBulkEntries {H : Type} : List (Lit × DataW H) → Nat
  | [] => 0
  | x :: r => uptoBulkEntry x + uptoBulkEntries r
def uptoBulkEntry {H : Type} : Lit × DataW H → Nat
  | (.string bytes, d) => bytes.length + uptoBulk d + 1
  | (_, d) => uptoBulk d + 1
 end
def uptoSmall : (H : Type) → List (DataW H) → Bool := fun _ ds => decide (uptoBulkAll ds ≤ 1048576)
def OpenSpec.upto (s : _root_.Go.ChangeSpec) : _root_.Go.OpenSpec := { _root_.Go.OpenSpec.ofChange s with cond := some uptoSmall }

/-- 'mosaiclaw15.SegmentText', WHERE WHAT IT READS IS OF BULK AT MOST 1048576: true; the input reads as it did. -/
def segmentTextUptoRow : OpenClaim := { program := "ytjfgfoeenajneaadoor", sum := "928cec6a7ef2a8939fd700a6961468eef53d7343f6101f964ee046064d5e0049", func := "mosaic/mosaiclaw15.SegmentText", spec := "segmentText", inPlace := ["internal/reflectlite.ValueOf", "(internal/reflectlite.Value).Type", "(internal/reflectlite.Value).IsNil", "internal/reflectlite.TypeOf", "(internal/reflectlite.Value).Elem", "(internal/reflectlite.Value).Set"], unfollowed := true, recurses := true, named := ["errors.errorType"], apart := false, laid := [("errors.errorType", laid_errors_errorType)], narrowed := true }
def SegmentTextUptoSaid : Prop := segmentTextUptoRow.holds Tryd.pinned (OpenSpec.upto segmentTextSpec)

/-- 'mosaiclaw15.SegmentBack', WHERE WHAT IT READS IS OF BULK AT MOST 1048576: true; the input reads as it did. -/
def segmentBackUptoRow : OpenClaim := { program := "ytjfgfoeenajneaadoor", sum := "928cec6a7ef2a8939fd700a6961468eef53d7343f6101f964ee046064d5e0049", func := "mosaic/mosaiclaw15.SegmentBack", spec := "segmentBack", inPlace := ["internal/reflectlite.ValueOf", "(internal/reflectlite.Value).Type", "(internal/reflectlite.Value).IsNil", "internal/reflectlite.TypeOf", "(internal/reflectlite.Value).Elem", "(internal/reflectlite.Value).Set"], unfollowed := true, recurses := true, named := ["errors.errorType"], apart := false, laid := [("errors.errorType", laid_errors_errorType)], narrowed := true }
def SegmentBackUptoSaid : Prop := segmentBackUptoRow.holds Tryd.pinned (OpenSpec.upto segmentBackSpec)

/-- 'mosaiclaw15.SegmentAgain', WHERE WHAT IT READS IS OF BULK AT MOST 1048576: true; the input reads as it did. -/
def segmentAgainUptoRow : OpenClaim := { program := "ytjfgfoeenajneaadoor", sum := "928cec6a7ef2a8939fd700a6961468eef53d7343f6101f964ee046064d5e0049", func := "mosaic/mosaiclaw15.SegmentAgain", spec := "segmentAgain", inPlace := ["internal/reflectlite.ValueOf", "(internal/reflectlite.Value).Type", "(internal/reflectlite.Value).IsNil", "internal/reflectlite.TypeOf", "(internal/reflectlite.Value).Elem", "(internal/reflectlite.Value).Set"], unfollowed := true, recurses := true, named := ["errors.errorType"], apart := false, laid := [("errors.errorType", laid_errors_errorType)], narrowed := true }
def SegmentAgainUptoSaid : Prop := segmentAgainUptoRow.holds Tryd.pinned (OpenSpec.upto segmentAgainSpec)

/-- 'mosaiclaw15.SegmentSpoilt', WHERE WHAT IT READS IS OF BULK AT MOST 1048576: true; the input reads as it did. -/
def segmentSpoiltUptoRow : OpenClaim := { program := "ytjfgfoeenajneaadoor", sum := "928cec6a7ef2a8939fd700a6961468eef53d7343f6101f964ee046064d5e0049", func := "mosaic/mosaiclaw15.SegmentSpoilt", spec := "segmentSpoilt", inPlace := ["internal/reflectlite.ValueOf", "(internal/reflectlite.Value).Type", "(internal/reflectlite.Value).IsNil", "internal/reflectlite.TypeOf", "(internal/reflectlite.Value).Elem", "(internal/reflectlite.Value).Set"], unfollowed := true, recurses := true, named := ["errors.errorType"], apart := false, laid := [("errors.errorType", laid_errors_errorType)], narrowed := true }
def SegmentSpoiltUptoSaid : Prop := segmentSpoiltUptoRow.holds Tryd.pinned (OpenSpec.upto segmentSpoiltSpec)

/-- 'mosaiclaw15.SegmentFresh', WHERE WHAT IT READS IS OF BULK AT MOST 1048576: true; the input reads as it did. -/
def segmentFreshUptoRow : OpenClaim := { program := "ytjfgfoeenajneaadoor", sum := "928cec6a7ef2a8939fd700a6961468eef53d7343f6101f964ee046064d5e0049", func := "mosaic/mosaiclaw15.SegmentFresh", spec := "segmentFresh", inPlace := ["internal/reflectlite.ValueOf", "(internal/reflectlite.Value).Type", "(internal/reflectlite.Value).IsNil", "internal/reflectlite.TypeOf", "(internal/reflectlite.Value).Elem", "(internal/reflectlite.Value).Set"], unfollowed := true, recurses := true, named := ["errors.errorType"], apart := false, laid := [("errors.errorType", laid_errors_errorType)], narrowed := true }
def SegmentFreshUptoSaid : Prop := segmentFreshUptoRow.holds Tryd.pinned (OpenSpec.upto segmentFreshSpec)

/-- 'mosaiclaw15.SegmentRow', WHERE WHAT IT READS IS OF BULK AT MOST 1048576: true; the input reads as it did. -/
def segmentRowUptoRow : OpenClaim := { program := "ytjfgfoeenajneaadoor", sum := "928cec6a7ef2a8939fd700a6961468eef53d7343f6101f964ee046064d5e0049", func := "mosaic/mosaiclaw15.SegmentRow", spec := "segmentRow", inPlace := ["internal/reflectlite.ValueOf", "(internal/reflectlite.Value).Type", "(internal/reflectlite.Value).IsNil", "internal/reflectlite.TypeOf", "(internal/reflectlite.Value).Elem", "(internal/reflectlite.Value).Set"], unfollowed := true, recurses := true, named := ["errors.errorType"], apart := false, laid := [("errors.errorType", laid_errors_errorType)], narrowed := true }
def SegmentRowUptoSaid : Prop := segmentRowUptoRow.holds Tryd.pinned (OpenSpec.upto segmentRowSpec)

end Rows
end Go.Proofs.YtjfgfoeenajneaaDoor
