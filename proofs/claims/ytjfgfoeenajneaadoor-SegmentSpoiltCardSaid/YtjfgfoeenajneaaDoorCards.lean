/-
  DERIVED. GIVEN WITH THE SEED: THE CARDS: each row of YtjfgfoeenajneaaDoorRows.lean that lists a variable, with what it lists TIED to the program's text (the seventh form; the later family's looks); each row that meets fmt, with fmt's text TOLD by the authors' own Lean function (tested against real Go, not proved from fmt's source: count such statements apart). THE CARD IS WHAT COUNTS. Prove the row's statement (the work); the ties are given (YtjfgfoeenajneaaDoorTie.lean); close each card by the builder's one call (the guide's Derived/Test/ToyasCard.lean, 'card_holds'). Laid BY PROGRAM, IN A SANDBOX (cutbox-door.mjs). By AI agents, Wed Nov 11 2026. No macro, syntax, notation, axiom, sorry.
-/
import Derived.Test.YtjfgfoeenajneaaDoorRows
import GoSem.ClaimSeven
namespace Go.Proofs.YtjfgfoeenajneaaDoor
namespace Rows

/-- THE TIED CARD OF 'mosaiclaw15.SegmentText'. -/
def segmentTextCard : Claim7 := { stood := { row := segmentTextRow, standIns := [], harness := (true, "1239fe198614d283f0cb6ea1961a4815ffc714838064f76553796bd2d8fd868b"), looks := true }, kinds := [], alts := [], laidByText := true, laidKinds := [.handle], laidTests := true, laidLooks := .later }
def SegmentTextCardSaid : Prop := Claim7.holds Tryd.pinned (.plain (OpenSpec.ofChange segmentTextSpec)) segmentTextCard

/-- THE TIED CARD OF 'mosaiclaw15.SegmentBack'. -/
def segmentBackCard : Claim7 := { stood := { row := segmentBackRow, standIns := [], harness := (true, "1239fe198614d283f0cb6ea1961a4815ffc714838064f76553796bd2d8fd868b"), looks := true }, kinds := [], alts := [], laidByText := true, laidKinds := [.handle], laidTests := true, laidLooks := .later }
def SegmentBackCardSaid : Prop := Claim7.holds Tryd.pinned (.plain (OpenSpec.ofChange segmentBackSpec)) segmentBackCard

/-- THE TIED CARD OF 'mosaiclaw15.SegmentAgain'. -/
def segmentAgainCard : Claim7 := { stood := { row := segmentAgainRow, standIns := [], harness := (true, "1239fe198614d283f0cb6ea1961a4815ffc714838064f76553796bd2d8fd868b"), looks := true }, kinds := [], alts := [], laidByText := true, laidKinds := [.handle], laidTests := true, laidLooks := .later }
def SegmentAgainCardSaid : Prop := Claim7.holds Tryd.pinned (.plain (OpenSpec.ofChange segmentAgainSpec)) segmentAgainCard

/-- THE TIED CARD OF 'mosaiclaw15.SegmentSpoilt'. -/
def segmentSpoiltCard : Claim7 := { stood := { row := segmentSpoiltRow, standIns := [], harness := (true, "1239fe198614d283f0cb6ea1961a4815ffc714838064f76553796bd2d8fd868b"), looks := true }, kinds := [], alts := [], laidByText := true, laidKinds := [.handle], laidTests := true, laidLooks := .later }
def SegmentSpoiltCardSaid : Prop := Claim7.holds Tryd.pinned (.plain (OpenSpec.ofChange segmentSpoiltSpec)) segmentSpoiltCard

/-- THE TIED CARD OF 'mosaiclaw15.SegmentFresh'. -/
def segmentFreshCard : Claim7 := { stood := { row := segmentFreshRow, standIns := [], harness := (true, "1239fe198614d283f0cb6ea1961a4815ffc714838064f76553796bd2d8fd868b"), looks := true }, kinds := [], alts := [], laidByText := true, laidKinds := [.handle], laidTests := true, laidLooks := .later }
def SegmentFreshCardSaid : Prop := Claim7.holds Tryd.pinned (.plain (OpenSpec.ofChange segmentFreshSpec)) segmentFreshCard

/-- THE TIED CARD OF 'mosaiclaw15.SegmentRow'. -/
def segmentRowCard : Claim7 := { stood := { row := segmentRowRow, standIns := [], harness := (true, "1239fe198614d283f0cb6ea1961a4815ffc714838064f76553796bd2d8fd868b"), looks := true }, kinds := [], alts := [], laidByText := true, laidKinds := [.handle], laidTests := true, laidLooks := .later }
def SegmentRowCardSaid : Prop := Claim7.holds Tryd.pinned (.plain (OpenSpec.ofChange segmentRowSpec)) segmentRowCard

/-- THE SECOND FORM's CARD OF 'mosaiclaw15.SegmentText'. -/
def segmentTextUptoCard : Claim7 := { stood := { row := segmentTextUptoRow, standIns := [], harness := (true, "1239fe198614d283f0cb6ea1961a4815ffc714838064f76553796bd2d8fd868b"), looks := true }, kinds := [], alts := [], laidByText := true, laidKinds := [.handle], laidTests := true, laidLooks := .later }
def SegmentTextUptoCardSaid : Prop := Claim7.holds Tryd.pinned (.plain (OpenSpec.upto segmentTextSpec)) segmentTextUptoCard

/-- THE SECOND FORM's CARD OF 'mosaiclaw15.SegmentBack'. -/
def segmentBackUptoCard : Claim7 := { stood := { row := segmentBackUptoRow, standIns := [], harness := (true, "1239fe198614d283f0cb6ea1961a4815ffc714838064f76553796bd2d8fd868b"), looks := true }, kinds := [], alts := [], laidByText := true, laidKinds := [.handle], laidTests := true, laidLooks := .later }
def SegmentBackUptoCardSaid : Prop := Claim7.holds Tryd.pinned (.plain (OpenSpec.upto segmentBackSpec)) segmentBackUptoCard

/-- THE SECOND FORM's CARD OF 'mosaiclaw15.SegmentAgain'. -/
def segmentAgainUptoCard : Claim7 := { stood := { row := segmentAgainUptoRow, standIns := [], harness := (true, "1239fe198614d283f0cb6ea1961a4815ffc714838064f76553796bd2d8fd868b"), looks := true }, kinds := [], alts := [], laidByText := true, laidKinds := [.handle], laidTests := true, laidLooks := .later }
def SegmentAgainUptoCardSaid : Prop := Claim7.holds Tryd.pinned (.plain (OpenSpec.upto segmentAgainSpec)) segmentAgainUptoCard

/-- THE SECOND FORM's CARD OF 'mosaiclaw15.SegmentSpoilt'. -/
def segmentSpoiltUptoCard : Claim7 := { stood := { row := segmentSpoiltUptoRow, standIns := [], harness := (true, "1239fe198614d283f0cb6ea1961a4815ffc714838064f76553796bd2d8fd868b"), looks := true }, kinds := [], alts := [], laidByText := true, laidKinds := [.handle], laidTests := true, laidLooks := .later }
def SegmentSpoiltUptoCardSaid : Prop := Claim7.holds Tryd.pinned (.plain (OpenSpec.upto segmentSpoiltSpec)) segmentSpoiltUptoCard

/-- THE SECOND FORM's CARD OF 'mosaiclaw15.SegmentFresh'. -/
def segmentFreshUptoCard : Claim7 := { stood := { row := segmentFreshUptoRow, standIns := [], harness := (true, "1239fe198614d283f0cb6ea1961a4815ffc714838064f76553796bd2d8fd868b"), looks := true }, kinds := [], alts := [], laidByText := true, laidKinds := [.handle], laidTests := true, laidLooks := .later }
def SegmentFreshUptoCardSaid : Prop := Claim7.holds Tryd.pinned (.plain (OpenSpec.upto segmentFreshSpec)) segmentFreshUptoCard

/-- THE SECOND FORM's CARD OF 'mosaiclaw15.SegmentRow'. -/
def segmentRowUptoCard : Claim7 := { stood := { row := segmentRowUptoRow, standIns := [], harness := (true, "1239fe198614d283f0cb6ea1961a4815ffc714838064f76553796bd2d8fd868b"), looks := true }, kinds := [], alts := [], laidByText := true, laidKinds := [.handle], laidTests := true, laidLooks := .later }
def SegmentRowUptoCardSaid : Prop := Claim7.holds Tryd.pinned (.plain (OpenSpec.upto segmentRowSpec)) segmentRowUptoCard
end Rows
end Go.Proofs.YtjfgfoeenajneaaDoor
