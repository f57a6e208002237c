/-
  DERIVED. GIVEN WITH THE SEED: THE CARDS: each row of YtoegobjnjljegaaGreatDoorRows.lean that lists a variable, with what it lists TIED to the program's text (the seventh form; the later family's looks); each row that meets fmt, with fmt's text TOLD by the authors' own Lean function (tested against real Go, not proved from fmt's source: count such statements apart). THE CARD IS WHAT COUNTS. Prove the row's statement (the work); the ties are given (YtoegobjnjljegaaGreatDoorTie.lean); close each card by the builder's one call (the guide's Derived/Test/ToyasCard.lean, 'card_holds'). Laid BY PROGRAM, IN A SANDBOX (cutbox-door.mjs). By AI agents, Wed Nov 11 2026. No macro, syntax, notation, axiom, sorry.
-/
import Derived.Test.YtoegobjnjljegaaGreatDoorRows
import GoSem.ClaimSeven
namespace Go.Proofs.YtoegobjnjljegaaGreatDoor
namespace Rows

/-- THE TIED CARD OF 'gavelkindlaw39.FeedParts'. -/
def feedPartsCard : Claim7 := { stood := { row := feedPartsRow, standIns := [], harness := (true, "e941f8b9d921cc7c32c648760c680ac1967cfa6d9c8e5142f4e6a1039b8091b2"), looks := false }, kinds := [], alts := [], laidByText := true, laidKinds := [.data, .data], laidTests := true, laidLooks := .later }
def FeedPartsCardSaid : Prop := Claim7.holds Tryz.pinned (.plain (OpenSpec.ofChange feedPartsSpec)) feedPartsCard

/-- THE TIED CARD OF 'gavelkindlaw39.FeedUnder'. -/
def feedUnderCard : Claim7 := { stood := { row := feedUnderRow, standIns := [], harness := (true, "e941f8b9d921cc7c32c648760c680ac1967cfa6d9c8e5142f4e6a1039b8091b2"), looks := false }, kinds := [], alts := [], laidByText := true, laidKinds := [.data, .data], laidTests := true, laidLooks := .later }
def FeedUnderCardSaid : Prop := Claim7.holds Tryz.pinned (.plain (OpenSpec.ofChange feedUnderSpec)) feedUnderCard

/-- THE TIED CARD OF 'gavelkindlaw41.ReportTrial'. -/
def reportTrialCard : Claim7 := { stood := { row := reportTrialRow, standIns := [], harness := (true, "e941f8b9d921cc7c32c648760c680ac1967cfa6d9c8e5142f4e6a1039b8091b2"), looks := false }, kinds := [], alts := [], laidByText := true, laidKinds := [.data, .data], laidTests := true, laidLooks := .later }
def ReportTrialCardSaid : Prop := Claim7.holds Tryz.pinned (.plain (OpenSpec.ofChange reportTrialSpec)) reportTrialCard

/-- THE TIED CARD OF 'gavelkindlaw41.ReportParts'. -/
def reportPartsCard : Claim7 := { stood := { row := reportPartsRow, standIns := [], harness := (true, "e941f8b9d921cc7c32c648760c680ac1967cfa6d9c8e5142f4e6a1039b8091b2"), looks := false }, kinds := [], alts := [], laidByText := true, laidKinds := [.data, .data], laidTests := true, laidLooks := .later }
def ReportPartsCardSaid : Prop := Claim7.holds Tryz.pinned (.plain (OpenSpec.ofChange reportPartsSpec)) reportPartsCard

/-- THE TIED CARD OF 'gavelkindlaw41.ReportGaps'. -/
def reportGapsCard : Claim7 := { stood := { row := reportGapsRow, standIns := [], harness := (true, "e941f8b9d921cc7c32c648760c680ac1967cfa6d9c8e5142f4e6a1039b8091b2"), looks := false }, kinds := [], alts := [], laidByText := true, laidKinds := [.data, .data], laidTests := true, laidLooks := .later }
def ReportGapsCardSaid : Prop := Claim7.holds Tryz.pinned (.plain (OpenSpec.ofChange reportGapsSpec)) reportGapsCard

/-- THE TIED CARD OF 'gavelkindlaw41.ReportRated'. -/
def reportRatedCard : Claim7 := { stood := { row := reportRatedRow, standIns := [], harness := (true, "e941f8b9d921cc7c32c648760c680ac1967cfa6d9c8e5142f4e6a1039b8091b2"), looks := false }, kinds := [], alts := [], laidByText := true, laidKinds := [.data, .data], laidTests := true, laidLooks := .later }
def ReportRatedCardSaid : Prop := Claim7.holds Tryz.pinned (.plain (OpenSpec.ofChange reportRatedSpec)) reportRatedCard

/-- THE TIED CARD OF 'gavelkindlaw38.ConsolGaps'. -/
def consolGapsCard : Claim7 := { stood := { row := consolGapsRow, standIns := [], harness := (true, "e941f8b9d921cc7c32c648760c680ac1967cfa6d9c8e5142f4e6a1039b8091b2"), looks := false }, kinds := [], alts := [], laidByText := true, laidKinds := [.data, .data], laidTests := true, laidLooks := .later }
def ConsolGapsCardSaid : Prop := Claim7.holds Tryz.pinned (.plain (OpenSpec.ofChange consolGapsSpec)) consolGapsCard

/-- THE TIED CARD OF 'gavelkindlaw39.FeedMisses'. -/
def feedMissesCard : Claim7 := { stood := { row := feedMissesRow, standIns := [], harness := (true, "e941f8b9d921cc7c32c648760c680ac1967cfa6d9c8e5142f4e6a1039b8091b2"), looks := false }, kinds := [], alts := [], laidByText := true, laidKinds := [.data, .data], laidTests := true, laidLooks := .later }
def FeedMissesCardSaid : Prop := Claim7.holds Tryz.pinned (.plain (OpenSpec.ofChange feedMissesSpec)) feedMissesCard

/-- THE SECOND FORM's CARD OF 'gavelkindlaw39.FeedParts'. -/
def feedPartsUptoCard : Claim7 := { stood := { row := feedPartsUptoRow, standIns := [], harness := (true, "e941f8b9d921cc7c32c648760c680ac1967cfa6d9c8e5142f4e6a1039b8091b2"), looks := false }, kinds := [], alts := [], laidByText := true, laidKinds := [.data, .data], laidTests := true, laidLooks := .later }
def FeedPartsUptoCardSaid : Prop := Claim7.holds Tryz.pinned (.plain (OpenSpec.upto feedPartsSpec)) feedPartsUptoCard

/-- THE SECOND FORM's CARD OF 'gavelkindlaw39.FeedUnder'. -/
def feedUnderUptoCard : Claim7 := { stood := { row := feedUnderUptoRow, standIns := [], harness := (true, "e941f8b9d921cc7c32c648760c680ac1967cfa6d9c8e5142f4e6a1039b8091b2"), looks := false }, kinds := [], alts := [], laidByText := true, laidKinds := [.data, .data], laidTests := true, laidLooks := .later }
def FeedUnderUptoCardSaid : Prop := Claim7.holds Tryz.pinned (.plain (OpenSpec.upto feedUnderSpec)) feedUnderUptoCard

/-- THE SECOND FORM's CARD OF 'gavelkindlaw41.ReportTrial'. -/
def reportTrialUptoCard : Claim7 := { stood := { row := reportTrialUptoRow, standIns := [], harness := (true, "e941f8b9d921cc7c32c648760c680ac1967cfa6d9c8e5142f4e6a1039b8091b2"), looks := false }, kinds := [], alts := [], laidByText := true, laidKinds := [.data, .data], laidTests := true, laidLooks := .later }
def ReportTrialUptoCardSaid : Prop := Claim7.holds Tryz.pinned (.plain (OpenSpec.upto reportTrialSpec)) reportTrialUptoCard

/-- THE SECOND FORM's CARD OF 'gavelkindlaw41.ReportParts'. -/
def reportPartsUptoCard : Claim7 := { stood := { row := reportPartsUptoRow, standIns := [], harness := (true, "e941f8b9d921cc7c32c648760c680ac1967cfa6d9c8e5142f4e6a1039b8091b2"), looks := false }, kinds := [], alts := [], laidByText := true, laidKinds := [.data, .data], laidTests := true, laidLooks := .later }
def ReportPartsUptoCardSaid : Prop := Claim7.holds Tryz.pinned (.plain (OpenSpec.upto reportPartsSpec)) reportPartsUptoCard

/-- THE SECOND FORM's CARD OF 'gavelkindlaw41.ReportGaps'. -/
def reportGapsUptoCard : Claim7 := { stood := { row := reportGapsUptoRow, standIns := [], harness := (true, "e941f8b9d921cc7c32c648760c680ac1967cfa6d9c8e5142f4e6a1039b8091b2"), looks := false }, kinds := [], alts := [], laidByText := true, laidKinds := [.data, .data], laidTests := true, laidLooks := .later }
def ReportGapsUptoCardSaid : Prop := Claim7.holds Tryz.pinned (.plain (OpenSpec.upto reportGapsSpec)) reportGapsUptoCard

/-- THE SECOND FORM's CARD OF 'gavelkindlaw41.ReportRated'. -/
def reportRatedUptoCard : Claim7 := { stood := { row := reportRatedUptoRow, standIns := [], harness := (true, "e941f8b9d921cc7c32c648760c680ac1967cfa6d9c8e5142f4e6a1039b8091b2"), looks := false }, kinds := [], alts := [], laidByText := true, laidKinds := [.data, .data], laidTests := true, laidLooks := .later }
def ReportRatedUptoCardSaid : Prop := Claim7.holds Tryz.pinned (.plain (OpenSpec.upto reportRatedSpec)) reportRatedUptoCard

/-- THE SECOND FORM's CARD OF 'gavelkindlaw38.ConsolGaps'. -/
def consolGapsUptoCard : Claim7 := { stood := { row := consolGapsUptoRow, standIns := [], harness := (true, "e941f8b9d921cc7c32c648760c680ac1967cfa6d9c8e5142f4e6a1039b8091b2"), looks := false }, kinds := [], alts := [], laidByText := true, laidKinds := [.data, .data], laidTests := true, laidLooks := .later }
def ConsolGapsUptoCardSaid : Prop := Claim7.holds Tryz.pinned (.plain (OpenSpec.upto consolGapsSpec)) consolGapsUptoCard

/-- THE SECOND FORM's CARD OF 'gavelkindlaw39.FeedMisses'. -/
def feedMissesUptoCard : Claim7 := { stood := { row := feedMissesUptoRow, standIns := [], harness := (true, "e941f8b9d921cc7c32c648760c680ac1967cfa6d9c8e5142f4e6a1039b8091b2"), looks := false }, kinds := [], alts := [], laidByText := true, laidKinds := [.data, .data], laidTests := true, laidLooks := .later }
def FeedMissesUptoCardSaid : Prop := Claim7.holds Tryz.pinned (.plain (OpenSpec.upto feedMissesSpec)) feedMissesUptoCard
end Rows
end Go.Proofs.YtoegobjnjljegaaGreatDoor
