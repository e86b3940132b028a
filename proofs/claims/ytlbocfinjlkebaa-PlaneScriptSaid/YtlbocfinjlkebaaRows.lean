/-
  No cell of these rows narrows 'for every input' (looked for: loops, veiled, ifaces, maps, wideKeys, modest, calm, conditions, laid).
  DERIVED. THE GIVEN ROWS OF THIS SEAT. 13 by the template 'for every input the law returns true; each argument reads behind the call as it read before'; 0 by the template 'total and deterministic' (their statements: YtlbocfinjlkebaaTotals.lean).
  GIVEN WITH THE SEED: the statements are not yours to turn. If you find one false, say at which input.
  Laid BY PROGRAM, IN A SANDBOX (cutbox-rows.mjs): the forced cells as the released guide's own fill.sh prints them over the translation a1cfd2fd800d3476… (all of the seat's roots in one cut). By AI agents, Wed Nov 11 2026. No macro, syntax, notation, axiom, sorry.
-/
import Derived.Test.YtlbocfinjlkebaaChecked
import GoSem.Claim
import GoSem.ClaimJoined
import GoSem.ClaimMapViews
import Derived.JoinedTies
import Derived.KernelRfl
namespace Go.Proofs.Ytlbocfinjlkebaa
/- THE CELL 'sum', in the pinned program and in every row, IS THE sha256 OF THE DUMP (.gsa) THAT YtlbocfinjlkebaaProg.lean LOADS. Nothing in Lean hashes anything: it is a label: what it is worth is what the hold of that sum in a sandbox is worth. -/
noncomputable def Try.pinned : Pinned := { name := "ytlbocfinjlkebaa", sum := "a1cfd2fd800d3476616a42abbe7111cd143dafdc9c4779f303c2b40f684fdc1c", checked := Try.checked }
namespace Rows
def none {H : Type} : Left H := { results := [], args := [] }

/-- 'mosaiclaw25.EncodeCheck': WHATEVER THE INPUT: true; the input reads as it did. -/
def encodeCheckSpec : ChangeSpec := { name := "encodeCheck", fn := fun _ => fun
  | [d] => { results := [.lit (.bool true)], args := [d] }
  | _ => none }
def encodeCheckRow : OpenClaim := { program := "ytlbocfinjlkebaa", sum := "a1cfd2fd800d3476616a42abbe7111cd143dafdc9c4779f303c2b40f684fdc1c", func := "mosaic/mosaiclaw25.EncodeCheck", spec := "encodeCheck", apart := false }
def EncodeCheckSaid : Prop := encodeCheckRow.holds Try.pinned (OpenSpec.ofChange encodeCheckSpec)

/-- ITS FALSE NEIGHBOUR: 'it returns false'. Refute it at one input. -/
def encodeCheckWrong : ChangeSpec := { name := "encodeCheck", fn := fun _ => fun
  | [d] => { results := [.lit (.bool false)], args := [d] }
  | _ => none }
def EncodeCheckWrongFalsely : Prop := encodeCheckRow.holds Try.pinned (OpenSpec.ofChange encodeCheckWrong)

/-- 'mosaiclaw13.SamplingDown': WHATEVER THE INPUT: true; the input reads as it did. -/
def samplingDownSpec : ChangeSpec := { name := "samplingDown", fn := fun _ => fun
  | [d1, d2, d3] => { results := [.lit (.bool true)], args := [d1, d2, d3] }
  | _ => none }
def samplingDownRow : OpenClaim := { program := "ytlbocfinjlkebaa", sum := "a1cfd2fd800d3476616a42abbe7111cd143dafdc9c4779f303c2b40f684fdc1c", func := "mosaic/mosaiclaw13.SamplingDown", spec := "samplingDown", apart := false }
def SamplingDownSaid : Prop := samplingDownRow.holds Try.pinned (OpenSpec.ofChange samplingDownSpec)

/-- ITS FALSE NEIGHBOUR: 'it returns false'. Refute it at one input. -/
def samplingDownWrong : ChangeSpec := { name := "samplingDown", fn := fun _ => fun
  | [d1, d2, d3] => { results := [.lit (.bool false)], args := [d1, d2, d3] }
  | _ => none }
def SamplingDownWrongFalsely : Prop := samplingDownRow.holds Try.pinned (OpenSpec.ofChange samplingDownWrong)

/-- 'mosaiclaw12.PlaneFull': WHATEVER THE INPUT: true; the input reads as it did. -/
def planeFullSpec : ChangeSpec := { name := "planeFull", fn := fun _ => fun
  | [] => { results := [.lit (.bool true)], args := [] }
  | _ => none }
def planeFullRow : OpenClaim := { program := "ytlbocfinjlkebaa", sum := "a1cfd2fd800d3476616a42abbe7111cd143dafdc9c4779f303c2b40f684fdc1c", func := "mosaic/mosaiclaw12.PlaneFull", spec := "planeFull", apart := false }
def PlaneFullSaid : Prop := planeFullRow.holds Try.pinned (OpenSpec.ofChange planeFullSpec)

/-- ITS FALSE NEIGHBOUR: 'it returns false'. Refute it at one input. -/
def planeFullWrong : ChangeSpec := { name := "planeFull", fn := fun _ => fun
  | [] => { results := [.lit (.bool false)], args := [] }
  | _ => none }
def PlaneFullWrongFalsely : Prop := planeFullRow.holds Try.pinned (OpenSpec.ofChange planeFullWrong)

/-- 'mosaiclaw12.PlanePieces': WHATEVER THE INPUT: true; the input reads as it did. -/
def planePiecesSpec : ChangeSpec := { name := "planePieces", fn := fun _ => fun
  | [d1, d2, d3, d4, d5] => { results := [.lit (.bool true)], args := [d1, d2, d3, d4, d5] }
  | _ => none }
def planePiecesRow : OpenClaim := { program := "ytlbocfinjlkebaa", sum := "a1cfd2fd800d3476616a42abbe7111cd143dafdc9c4779f303c2b40f684fdc1c", func := "mosaic/mosaiclaw12.PlanePieces", spec := "planePieces", apart := false }
def PlanePiecesSaid : Prop := planePiecesRow.holds Try.pinned (OpenSpec.ofChange planePiecesSpec)

/-- ITS FALSE NEIGHBOUR: 'it returns false'. Refute it at one input. -/
def planePiecesWrong : ChangeSpec := { name := "planePieces", fn := fun _ => fun
  | [d1, d2, d3, d4, d5] => { results := [.lit (.bool false)], args := [d1, d2, d3, d4, d5] }
  | _ => none }
def PlanePiecesWrongFalsely : Prop := planePiecesRow.holds Try.pinned (OpenSpec.ofChange planePiecesWrong)

/-- 'mosaiclaw13.SamplingUp': WHATEVER THE INPUT: true; the input reads as it did. -/
def samplingUpSpec : ChangeSpec := { name := "samplingUp", fn := fun _ => fun
  | [d1, d2, d3, d4, d5] => { results := [.lit (.bool true)], args := [d1, d2, d3, d4, d5] }
  | _ => none }
def samplingUpRow : OpenClaim := { program := "ytlbocfinjlkebaa", sum := "a1cfd2fd800d3476616a42abbe7111cd143dafdc9c4779f303c2b40f684fdc1c", func := "mosaic/mosaiclaw13.SamplingUp", spec := "samplingUp", apart := false }
def SamplingUpSaid : Prop := samplingUpRow.holds Try.pinned (OpenSpec.ofChange samplingUpSpec)

/-- ITS FALSE NEIGHBOUR: 'it returns false'. Refute it at one input. -/
def samplingUpWrong : ChangeSpec := { name := "samplingUp", fn := fun _ => fun
  | [d1, d2, d3, d4, d5] => { results := [.lit (.bool false)], args := [d1, d2, d3, d4, d5] }
  | _ => none }
def SamplingUpWrongFalsely : Prop := samplingUpRow.holds Try.pinned (OpenSpec.ofChange samplingUpWrong)

/-- 'mosaiclaw13.SamplingSmooth': WHATEVER THE INPUT: true; the input reads as it did. -/
def samplingSmoothSpec : ChangeSpec := { name := "samplingSmooth", fn := fun _ => fun
  | [d1, d2, d3, d4, d5] => { results := [.lit (.bool true)], args := [d1, d2, d3, d4, d5] }
  | _ => none }
def samplingSmoothRow : OpenClaim := { program := "ytlbocfinjlkebaa", sum := "a1cfd2fd800d3476616a42abbe7111cd143dafdc9c4779f303c2b40f684fdc1c", func := "mosaic/mosaiclaw13.SamplingSmooth", spec := "samplingSmooth", apart := false }
def SamplingSmoothSaid : Prop := samplingSmoothRow.holds Try.pinned (OpenSpec.ofChange samplingSmoothSpec)

/-- ITS FALSE NEIGHBOUR: 'it returns false'. Refute it at one input. -/
def samplingSmoothWrong : ChangeSpec := { name := "samplingSmooth", fn := fun _ => fun
  | [d1, d2, d3, d4, d5] => { results := [.lit (.bool false)], args := [d1, d2, d3, d4, d5] }
  | _ => none }
def SamplingSmoothWrongFalsely : Prop := samplingSmoothRow.holds Try.pinned (OpenSpec.ofChange samplingSmoothWrong)

/-- 'mosaiclaw12.PlaneFloats': WHATEVER THE INPUT: true; the input reads as it did. -/
def planeFloatsSpec : ChangeSpec := { name := "planeFloats", fn := fun _ => fun
  | [d] => { results := [.lit (.bool true)], args := [d] }
  | _ => none }
def planeFloatsRow : OpenClaim := { program := "ytlbocfinjlkebaa", sum := "a1cfd2fd800d3476616a42abbe7111cd143dafdc9c4779f303c2b40f684fdc1c", func := "mosaic/mosaiclaw12.PlaneFloats", spec := "planeFloats", apart := false }
def PlaneFloatsSaid : Prop := planeFloatsRow.holds Try.pinned (OpenSpec.ofChange planeFloatsSpec)

/-- ITS FALSE NEIGHBOUR: 'it returns false'. Refute it at one input. -/
def planeFloatsWrong : ChangeSpec := { name := "planeFloats", fn := fun _ => fun
  | [d] => { results := [.lit (.bool false)], args := [d] }
  | _ => none }
def PlaneFloatsWrongFalsely : Prop := planeFloatsRow.holds Try.pinned (OpenSpec.ofChange planeFloatsWrong)

/-- 'mosaiclaw12.PlaneBytes': WHATEVER THE INPUT: true; the input reads as it did. -/
def planeBytesSpec : ChangeSpec := { name := "planeBytes", fn := fun _ => fun
  | [d1, d2, d3, d4, d5, d6] => { results := [.lit (.bool true)], args := [d1, d2, d3, d4, d5, d6] }
  | _ => none }
def planeBytesRow : OpenClaim := { program := "ytlbocfinjlkebaa", sum := "a1cfd2fd800d3476616a42abbe7111cd143dafdc9c4779f303c2b40f684fdc1c", func := "mosaic/mosaiclaw12.PlaneBytes", spec := "planeBytes", unfollowed := true, recurses := true, apart := false }
def PlaneBytesSaid : Prop := planeBytesRow.holds Try.pinned (OpenSpec.ofChange planeBytesSpec)

/-- ITS FALSE NEIGHBOUR: 'it returns false'. Refute it at one input. -/
def planeBytesWrong : ChangeSpec := { name := "planeBytes", fn := fun _ => fun
  | [d1, d2, d3, d4, d5, d6] => { results := [.lit (.bool false)], args := [d1, d2, d3, d4, d5, d6] }
  | _ => none }
def PlaneBytesWrongFalsely : Prop := planeBytesRow.holds Try.pinned (OpenSpec.ofChange planeBytesWrong)

/-- 'mosaiclaw13.SamplingNames': WHATEVER THE INPUT: true; the input reads as it did. -/
def samplingNamesSpec : ChangeSpec := { name := "samplingNames", fn := fun _ => fun
  | [] => { results := [.lit (.bool true)], args := [] }
  | _ => none }
def samplingNamesRow : OpenClaim := { program := "ytlbocfinjlkebaa", sum := "a1cfd2fd800d3476616a42abbe7111cd143dafdc9c4779f303c2b40f684fdc1c", func := "mosaic/mosaiclaw13.SamplingNames", spec := "samplingNames", apart := false }
def SamplingNamesSaid : Prop := samplingNamesRow.holds Try.pinned (OpenSpec.ofChange samplingNamesSpec)

/-- ITS FALSE NEIGHBOUR: 'it returns false'. Refute it at one input. -/
def samplingNamesWrong : ChangeSpec := { name := "samplingNames", fn := fun _ => fun
  | [] => { results := [.lit (.bool false)], args := [] }
  | _ => none }
def SamplingNamesWrongFalsely : Prop := samplingNamesRow.holds Try.pinned (OpenSpec.ofChange samplingNamesWrong)

/-- 'mosaiclaw13.SamplingBetween': WHATEVER THE INPUT: true; the input reads as it did. -/
def samplingBetweenSpec : ChangeSpec := { name := "samplingBetween", fn := fun _ => fun
  | [d1, d2, d3] => { results := [.lit (.bool true)], args := [d1, d2, d3] }
  | _ => none }
def samplingBetweenRow : OpenClaim := { program := "ytlbocfinjlkebaa", sum := "a1cfd2fd800d3476616a42abbe7111cd143dafdc9c4779f303c2b40f684fdc1c", func := "mosaic/mosaiclaw13.SamplingBetween", spec := "samplingBetween", apart := false }
def SamplingBetweenSaid : Prop := samplingBetweenRow.holds Try.pinned (OpenSpec.ofChange samplingBetweenSpec)

/-- ITS FALSE NEIGHBOUR: 'it returns false'. Refute it at one input. -/
def samplingBetweenWrong : ChangeSpec := { name := "samplingBetween", fn := fun _ => fun
  | [d1, d2, d3] => { results := [.lit (.bool false)], args := [d1, d2, d3] }
  | _ => none }
def SamplingBetweenWrongFalsely : Prop := samplingBetweenRow.holds Try.pinned (OpenSpec.ofChange samplingBetweenWrong)

/-- 'mosaiclaw12.PlaneScript': WHATEVER THE INPUT: true; the input reads as it did. -/
def planeScriptSpec : ChangeSpec := { name := "planeScript", fn := fun _ => fun
  | [d] => { results := [.lit (.bool true)], args := [d] }
  | _ => none }
def planeScriptRow : OpenClaim := { program := "ytlbocfinjlkebaa", sum := "a1cfd2fd800d3476616a42abbe7111cd143dafdc9c4779f303c2b40f684fdc1c", func := "mosaic/mosaiclaw12.PlaneScript", spec := "planeScript", unfollowed := true, recurses := true, apart := false }
def PlaneScriptSaid : Prop := planeScriptRow.holds Try.pinned (OpenSpec.ofChange planeScriptSpec)

/-- ITS FALSE NEIGHBOUR: 'it returns false'. Refute it at one input. -/
def planeScriptWrong : ChangeSpec := { name := "planeScript", fn := fun _ => fun
  | [d] => { results := [.lit (.bool false)], args := [d] }
  | _ => none }
def PlaneScriptWrongFalsely : Prop := planeScriptRow.holds Try.pinned (OpenSpec.ofChange planeScriptWrong)

/-- 'mosaiclaw13.SamplingBack': WHATEVER THE INPUT: true; the input reads as it did. -/
def samplingBackSpec : ChangeSpec := { name := "samplingBack", fn := fun _ => fun
  | [d1, d2, d3] => { results := [.lit (.bool true)], args := [d1, d2, d3] }
  | _ => none }
def samplingBackRow : OpenClaim := { program := "ytlbocfinjlkebaa", sum := "a1cfd2fd800d3476616a42abbe7111cd143dafdc9c4779f303c2b40f684fdc1c", func := "mosaic/mosaiclaw13.SamplingBack", spec := "samplingBack", apart := false }
def SamplingBackSaid : Prop := samplingBackRow.holds Try.pinned (OpenSpec.ofChange samplingBackSpec)

/-- ITS FALSE NEIGHBOUR: 'it returns false'. Refute it at one input. -/
def samplingBackWrong : ChangeSpec := { name := "samplingBack", fn := fun _ => fun
  | [d1, d2, d3] => { results := [.lit (.bool false)], args := [d1, d2, d3] }
  | _ => none }
def SamplingBackWrongFalsely : Prop := samplingBackRow.holds Try.pinned (OpenSpec.ofChange samplingBackWrong)

/-- 'mosaiclaw13.SamplingPlain': WHATEVER THE INPUT: true; the input reads as it did. -/
def samplingPlainSpec : ChangeSpec := { name := "samplingPlain", fn := fun _ => fun
  | [d1, d2, d3] => { results := [.lit (.bool true)], args := [d1, d2, d3] }
  | _ => none }
def samplingPlainRow : OpenClaim := { program := "ytlbocfinjlkebaa", sum := "a1cfd2fd800d3476616a42abbe7111cd143dafdc9c4779f303c2b40f684fdc1c", func := "mosaic/mosaiclaw13.SamplingPlain", spec := "samplingPlain", apart := false }
def SamplingPlainSaid : Prop := samplingPlainRow.holds Try.pinned (OpenSpec.ofChange samplingPlainSpec)

/-- ITS FALSE NEIGHBOUR: 'it returns false'. Refute it at one input. -/
def samplingPlainWrong : ChangeSpec := { name := "samplingPlain", fn := fun _ => fun
  | [d1, d2, d3] => { results := [.lit (.bool false)], args := [d1, d2, d3] }
  | _ => none }
def SamplingPlainWrongFalsely : Prop := samplingPlainRow.holds Try.pinned (OpenSpec.ofChange samplingPlainWrong)

/- THE SECOND FORM. 'bulk': how many values and letters a reading holds, each counted each time it is reached (what is shared counts as often as it is met; a slice's spare places count too). A statement '..UptoSaid' is the law's where the arguments, and the package variables that the reading takes, are together of bulk at most 1048576: NARROWER than '..Said'. Prove '..Said' where nothing that the law and all that it calls make is longer than what came in: it says more and counts as full. Else prove '..UptoSaid'. A law counts once. -/
mutual
def uptoBulk {H : Type} : DataW H → Nat
  | .lit (.string bytes) => bytes.length + 1
  | .lit _ => 1
  | .nil => 1
  | .ptr d => uptoBulk d + 1
  | .slice elems spare => uptoBulkAll elems + uptoBulkAll spare + 1
  | .agg parts => uptoBulkAll parts + 1
  | .iface _ d => uptoBulk d + 1
  | .map entries => uptoBulkEntries entries + 1
  | .held _ => 1
def uptoBulkAll {H : Type} : List (DataW H) → Nat
  | [] => 0
  | d :: r => uptoBulk d + uptoBulkAll r
def uptoBulkEntries {H : Type} : List (Lit × DataW H) → Nat
  | [] => 0
  | x :: r => uptoBulkEntry x + uptoBulkEntries r
def uptoBulkEntry {H : Type} : Lit × DataW H → Nat
  | (.string bytes, d) => bytes.length + uptoBulk d + 1
  | (_, d) => uptoBulk d + 1
 end
def uptoSmall : (H : Type) → List (DataW H) → Bool := fun _ ds => decide (uptoBulkAll ds ≤ 1048576)
def OpenSpec.upto (s : _root_.Go.ChangeSpec) : _root_.Go.OpenSpec := { _root_.Go.OpenSpec.ofChange s with cond := some uptoSmall }

/-- 'mosaiclaw25.EncodeCheck', WHERE WHAT IT READS IS OF BULK AT MOST 1048576: true; the input reads as it did. -/
def encodeCheckUptoRow : OpenClaim := { program := "ytlbocfinjlkebaa", sum := "a1cfd2fd800d3476616a42abbe7111cd143dafdc9c4779f303c2b40f684fdc1c", func := "mosaic/mosaiclaw25.EncodeCheck", spec := "encodeCheck", apart := false, narrowed := true }
def EncodeCheckUptoSaid : Prop := encodeCheckUptoRow.holds Try.pinned (OpenSpec.upto encodeCheckSpec)

/-- 'mosaiclaw13.SamplingDown', WHERE WHAT IT READS IS OF BULK AT MOST 1048576: true; the input reads as it did. -/
def samplingDownUptoRow : OpenClaim := { program := "ytlbocfinjlkebaa", sum := "a1cfd2fd800d3476616a42abbe7111cd143dafdc9c4779f303c2b40f684fdc1c", func := "mosaic/mosaiclaw13.SamplingDown", spec := "samplingDown", apart := false, narrowed := true }
def SamplingDownUptoSaid : Prop := samplingDownUptoRow.holds Try.pinned (OpenSpec.upto samplingDownSpec)

/-- 'mosaiclaw12.PlaneFull', WHERE WHAT IT READS IS OF BULK AT MOST 1048576: true; the input reads as it did. -/
def planeFullUptoRow : OpenClaim := { program := "ytlbocfinjlkebaa", sum := "a1cfd2fd800d3476616a42abbe7111cd143dafdc9c4779f303c2b40f684fdc1c", func := "mosaic/mosaiclaw12.PlaneFull", spec := "planeFull", apart := false, narrowed := true }
def PlaneFullUptoSaid : Prop := planeFullUptoRow.holds Try.pinned (OpenSpec.upto planeFullSpec)

/-- 'mosaiclaw12.PlanePieces', WHERE WHAT IT READS IS OF BULK AT MOST 1048576: true; the input reads as it did. -/
def planePiecesUptoRow : OpenClaim := { program := "ytlbocfinjlkebaa", sum := "a1cfd2fd800d3476616a42abbe7111cd143dafdc9c4779f303c2b40f684fdc1c", func := "mosaic/mosaiclaw12.PlanePieces", spec := "planePieces", apart := false, narrowed := true }
def PlanePiecesUptoSaid : Prop := planePiecesUptoRow.holds Try.pinned (OpenSpec.upto planePiecesSpec)

/-- 'mosaiclaw13.SamplingUp', WHERE WHAT IT READS IS OF BULK AT MOST 1048576: true; the input reads as it did. -/
def samplingUpUptoRow : OpenClaim := { program := "ytlbocfinjlkebaa", sum := "a1cfd2fd800d3476616a42abbe7111cd143dafdc9c4779f303c2b40f684fdc1c", func := "mosaic/mosaiclaw13.SamplingUp", spec := "samplingUp", apart := false, narrowed := true }
def SamplingUpUptoSaid : Prop := samplingUpUptoRow.holds Try.pinned (OpenSpec.upto samplingUpSpec)

/-- 'mosaiclaw13.SamplingSmooth', WHERE WHAT IT READS IS OF BULK AT MOST 1048576: true; the input reads as it did. -/
def samplingSmoothUptoRow : OpenClaim := { program := "ytlbocfinjlkebaa", sum := "a1cfd2fd800d3476616a42abbe7111cd143dafdc9c4779f303c2b40f684fdc1c", func := "mosaic/mosaiclaw13.SamplingSmooth", spec := "samplingSmooth", apart := false, narrowed := true }
def SamplingSmoothUptoSaid : Prop := samplingSmoothUptoRow.holds Try.pinned (OpenSpec.upto samplingSmoothSpec)

/-- 'mosaiclaw12.PlaneFloats', WHERE WHAT IT READS IS OF BULK AT MOST 1048576: true; the input reads as it did. -/
def planeFloatsUptoRow : OpenClaim := { program := "ytlbocfinjlkebaa", sum := "a1cfd2fd800d3476616a42abbe7111cd143dafdc9c4779f303c2b40f684fdc1c", func := "mosaic/mosaiclaw12.PlaneFloats", spec := "planeFloats", apart := false, narrowed := true }
def PlaneFloatsUptoSaid : Prop := planeFloatsUptoRow.holds Try.pinned (OpenSpec.upto planeFloatsSpec)

/-- 'mosaiclaw12.PlaneBytes', WHERE WHAT IT READS IS OF BULK AT MOST 1048576: true; the input reads as it did. -/
def planeBytesUptoRow : OpenClaim := { program := "ytlbocfinjlkebaa", sum := "a1cfd2fd800d3476616a42abbe7111cd143dafdc9c4779f303c2b40f684fdc1c", func := "mosaic/mosaiclaw12.PlaneBytes", spec := "planeBytes", unfollowed := true, recurses := true, apart := false, narrowed := true }
def PlaneBytesUptoSaid : Prop := planeBytesUptoRow.holds Try.pinned (OpenSpec.upto planeBytesSpec)

/-- 'mosaiclaw13.SamplingNames', WHERE WHAT IT READS IS OF BULK AT MOST 1048576: true; the input reads as it did. -/
def samplingNamesUptoRow : OpenClaim := { program := "ytlbocfinjlkebaa", sum := "a1cfd2fd800d3476616a42abbe7111cd143dafdc9c4779f303c2b40f684fdc1c", func := "mosaic/mosaiclaw13.SamplingNames", spec := "samplingNames", apart := false, narrowed := true }
def SamplingNamesUptoSaid : Prop := samplingNamesUptoRow.holds Try.pinned (OpenSpec.upto samplingNamesSpec)

/-- 'mosaiclaw13.SamplingBetween', WHERE WHAT IT READS IS OF BULK AT MOST 1048576: true; the input reads as it did. -/
def samplingBetweenUptoRow : OpenClaim := { program := "ytlbocfinjlkebaa", sum := "a1cfd2fd800d3476616a42abbe7111cd143dafdc9c4779f303c2b40f684fdc1c", func := "mosaic/mosaiclaw13.SamplingBetween", spec := "samplingBetween", apart := false, narrowed := true }
def SamplingBetweenUptoSaid : Prop := samplingBetweenUptoRow.holds Try.pinned (OpenSpec.upto samplingBetweenSpec)

/-- 'mosaiclaw12.PlaneScript', WHERE WHAT IT READS IS OF BULK AT MOST 1048576: true; the input reads as it did. -/
def planeScriptUptoRow : OpenClaim := { program := "ytlbocfinjlkebaa", sum := "a1cfd2fd800d3476616a42abbe7111cd143dafdc9c4779f303c2b40f684fdc1c", func := "mosaic/mosaiclaw12.PlaneScript", spec := "planeScript", unfollowed := true, recurses := true, apart := false, narrowed := true }
def PlaneScriptUptoSaid : Prop := planeScriptUptoRow.holds Try.pinned (OpenSpec.upto planeScriptSpec)

/-- 'mosaiclaw13.SamplingBack', WHERE WHAT IT READS IS OF BULK AT MOST 1048576: true; the input reads as it did. -/
def samplingBackUptoRow : OpenClaim := { program := "ytlbocfinjlkebaa", sum := "a1cfd2fd800d3476616a42abbe7111cd143dafdc9c4779f303c2b40f684fdc1c", func := "mosaic/mosaiclaw13.SamplingBack", spec := "samplingBack", apart := false, narrowed := true }
def SamplingBackUptoSaid : Prop := samplingBackUptoRow.holds Try.pinned (OpenSpec.upto samplingBackSpec)

/-- 'mosaiclaw13.SamplingPlain', WHERE WHAT IT READS IS OF BULK AT MOST 1048576: true; the input reads as it did. -/
def samplingPlainUptoRow : OpenClaim := { program := "ytlbocfinjlkebaa", sum := "a1cfd2fd800d3476616a42abbe7111cd143dafdc9c4779f303c2b40f684fdc1c", func := "mosaic/mosaiclaw13.SamplingPlain", spec := "samplingPlain", apart := false, narrowed := true }
def SamplingPlainUptoSaid : Prop := samplingPlainUptoRow.holds Try.pinned (OpenSpec.upto samplingPlainSpec)

end Rows
end Go.Proofs.Ytlbocfinjlkebaa
