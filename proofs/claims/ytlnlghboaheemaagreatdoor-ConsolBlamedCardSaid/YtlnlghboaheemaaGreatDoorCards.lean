/-
  DERIVED. GIVEN WITH THE SEED: THE CARDS: each row of YtlnlghboaheemaaGreatDoorRows.lean that lists a variable, with what it lists TIED to the program's text (the seventh form; the later family's looks); each row that meets fmt, with fmt's text TOLD by the authors' own Lean function (tested against real Go, not proved from fmt's source: count such statements apart). THE CARD IS WHAT COUNTS. Prove the row's statement (the work); the ties are given (YtlnlghboaheemaaGreatDoorTie.lean); close each card by the builder's one call (the guide's Derived/Test/ToyasCard.lean, 'card_holds'). Laid BY PROGRAM, IN A SANDBOX (cutbox-door.mjs). By AI agents, Wed Nov 11 2026. No macro, syntax, notation, axiom, sorry.
-/
import Derived.Test.YtlnlghboaheemaaGreatDoorRows
import GoSem.ClaimSeven
namespace Go.Proofs.YtlnlghboaheemaaGreatDoor
namespace Rows

/-- THE TIED CARD OF 'gavelkindlaw38.ConsolFixed'. -/
def consolFixedCard : Claim7 := { stood := { row := consolFixedRow, standIns := [], harness := (true, "f3fc79fd6d04c53c87b6289798fd637daa00fe722fb3fa04259f333240e5ac7e"), looks := false }, kinds := [], alts := [], laidByText := true, laidKinds := [.data, .data], laidTests := true, laidLooks := .later }
def ConsolFixedCardSaid : Prop := Claim7.holds Tryz.pinned (.plain (OpenSpec.ofChange consolFixedSpec)) consolFixedCard

/-- THE TIED CARD OF 'gavelkindlaw38.ConsolTrial'. -/
def consolTrialCard : Claim7 := { stood := { row := consolTrialRow, standIns := [], harness := (true, "f3fc79fd6d04c53c87b6289798fd637daa00fe722fb3fa04259f333240e5ac7e"), looks := false }, kinds := [], alts := [], laidByText := true, laidKinds := [.data, .data], laidTests := true, laidLooks := .later }
def ConsolTrialCardSaid : Prop := Claim7.holds Tryz.pinned (.plain (OpenSpec.ofChange consolTrialSpec)) consolTrialCard

/-- THE TIED CARD OF 'gavelkindlaw38.ConsolBlamed'. -/
def consolBlamedCard : Claim7 := { stood := { row := consolBlamedRow, standIns := [], harness := (true, "f3fc79fd6d04c53c87b6289798fd637daa00fe722fb3fa04259f333240e5ac7e"), looks := false }, kinds := [], alts := [], laidByText := true, laidKinds := [.data, .data], laidTests := true, laidLooks := .later }
def ConsolBlamedCardSaid : Prop := Claim7.holds Tryz.pinned (.plain (OpenSpec.ofChange consolBlamedSpec)) consolBlamedCard

/-- THE TIED CARD OF 'gavelkindlaw38.ConsolGaps'. -/
def consolGapsCard : Claim7 := { stood := { row := consolGapsRow, standIns := [], harness := (true, "f3fc79fd6d04c53c87b6289798fd637daa00fe722fb3fa04259f333240e5ac7e"), looks := false }, kinds := [], alts := [], laidByText := true, laidKinds := [.data, .data], laidTests := true, laidLooks := .later }
def ConsolGapsCardSaid : Prop := Claim7.holds Tryz.pinned (.plain (OpenSpec.ofChange consolGapsSpec)) consolGapsCard

/-- THE SECOND FORM's CARD OF 'gavelkindlaw38.ConsolFixed'. -/
def consolFixedUptoCard : Claim7 := { stood := { row := consolFixedUptoRow, standIns := [], harness := (true, "f3fc79fd6d04c53c87b6289798fd637daa00fe722fb3fa04259f333240e5ac7e"), looks := false }, kinds := [], alts := [], laidByText := true, laidKinds := [.data, .data], laidTests := true, laidLooks := .later }
def ConsolFixedUptoCardSaid : Prop := Claim7.holds Tryz.pinned (.plain (OpenSpec.upto consolFixedSpec)) consolFixedUptoCard

/-- THE SECOND FORM's CARD OF 'gavelkindlaw38.ConsolTrial'. -/
def consolTrialUptoCard : Claim7 := { stood := { row := consolTrialUptoRow, standIns := [], harness := (true, "f3fc79fd6d04c53c87b6289798fd637daa00fe722fb3fa04259f333240e5ac7e"), looks := false }, kinds := [], alts := [], laidByText := true, laidKinds := [.data, .data], laidTests := true, laidLooks := .later }
def ConsolTrialUptoCardSaid : Prop := Claim7.holds Tryz.pinned (.plain (OpenSpec.upto consolTrialSpec)) consolTrialUptoCard

/-- THE SECOND FORM's CARD OF 'gavelkindlaw38.ConsolBlamed'. -/
def consolBlamedUptoCard : Claim7 := { stood := { row := consolBlamedUptoRow, standIns := [], harness := (true, "f3fc79fd6d04c53c87b6289798fd637daa00fe722fb3fa04259f333240e5ac7e"), looks := false }, kinds := [], alts := [], laidByText := true, laidKinds := [.data, .data], laidTests := true, laidLooks := .later }
def ConsolBlamedUptoCardSaid : Prop := Claim7.holds Tryz.pinned (.plain (OpenSpec.upto consolBlamedSpec)) consolBlamedUptoCard

/-- THE SECOND FORM's CARD OF 'gavelkindlaw38.ConsolGaps'. -/
def consolGapsUptoCard : Claim7 := { stood := { row := consolGapsUptoRow, standIns := [], harness := (true, "f3fc79fd6d04c53c87b6289798fd637daa00fe722fb3fa04259f333240e5ac7e"), looks := false }, kinds := [], alts := [], laidByText := true, laidKinds := [.data, .data], laidTests := true, laidLooks := .later }
def ConsolGapsUptoCardSaid : Prop := Claim7.holds Tryz.pinned (.plain (OpenSpec.upto consolGapsSpec)) consolGapsUptoCard
end Rows
end Go.Proofs.YtlnlghboaheemaaGreatDoor
