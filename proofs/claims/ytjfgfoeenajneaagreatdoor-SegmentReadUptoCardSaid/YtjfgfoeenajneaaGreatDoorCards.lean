/-
  DERIVED. GIVEN WITH THE SEED: THE CARDS: each row of YtjfgfoeenajneaaGreatDoorRows.lean that lists a variable, with what it lists TIED to the program's text (the seventh form; the later family's looks); each row that meets fmt, with fmt's text TOLD by the authors' own Lean function (tested against real Go, not proved from fmt's source: count such statements apart). THE CARD IS WHAT COUNTS. Prove the row's statement (the work); the ties are given (YtjfgfoeenajneaaGreatDoorTie.lean); close each card by the builder's one call (the guide's Derived/Test/ToyasCard.lean, 'card_holds'). Laid BY PROGRAM, IN A SANDBOX (cutbox-door.mjs). By AI agents, Wed Nov 11 2026. No macro, syntax, notation, axiom, sorry.
-/
import Derived.Test.YtjfgfoeenajneaaGreatDoorRows
import GoSem.ClaimSeven
namespace Go.Proofs.YtjfgfoeenajneaaGreatDoor
namespace Rows

/-- THE TIED CARD OF 'mosaiclaw15.SegmentRead'. -/
def segmentReadCard : Claim7 := { stood := { row := segmentReadRow, standIns := [], harness := (true, "53ba9bd8f88d73f987c07e26d11b19f619e3bbe6fcd33e401fb91b7a4d590201"), looks := true }, kinds := [], alts := [], laidByText := true, laidKinds := [.handle], laidTests := true, laidLooks := .later }
def SegmentReadCardSaid : Prop := Claim7.holds Tryz.pinned (.plain (OpenSpec.ofChange segmentReadSpec)) segmentReadCard

/-- THE TIED CARD OF 'mosaiclaw15.SegmentState'. -/
def segmentStateCard : Claim7 := { stood := { row := segmentStateRow, standIns := [], harness := (true, "53ba9bd8f88d73f987c07e26d11b19f619e3bbe6fcd33e401fb91b7a4d590201"), looks := true }, kinds := [], alts := [], laidByText := true, laidKinds := [.handle], laidTests := true, laidLooks := .later }
def SegmentStateCardSaid : Prop := Claim7.holds Tryz.pinned (.plain (OpenSpec.ofChange segmentStateSpec)) segmentStateCard

/-- THE SECOND FORM's CARD OF 'mosaiclaw15.SegmentRead'. -/
def segmentReadUptoCard : Claim7 := { stood := { row := segmentReadUptoRow, standIns := [], harness := (true, "53ba9bd8f88d73f987c07e26d11b19f619e3bbe6fcd33e401fb91b7a4d590201"), looks := true }, kinds := [], alts := [], laidByText := true, laidKinds := [.handle], laidTests := true, laidLooks := .later }
def SegmentReadUptoCardSaid : Prop := Claim7.holds Tryz.pinned (.plain (OpenSpec.upto segmentReadSpec)) segmentReadUptoCard

/-- THE SECOND FORM's CARD OF 'mosaiclaw15.SegmentState'. -/
def segmentStateUptoCard : Claim7 := { stood := { row := segmentStateUptoRow, standIns := [], harness := (true, "53ba9bd8f88d73f987c07e26d11b19f619e3bbe6fcd33e401fb91b7a4d590201"), looks := true }, kinds := [], alts := [], laidByText := true, laidKinds := [.handle], laidTests := true, laidLooks := .later }
def SegmentStateUptoCardSaid : Prop := Claim7.holds Tryz.pinned (.plain (OpenSpec.upto segmentStateSpec)) segmentStateUptoCard
end Rows
end Go.Proofs.YtjfgfoeenajneaaGreatDoor
