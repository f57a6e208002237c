/-
  DERIVED. GIVEN WITH THE SEED: THE CARDS: each row of YtpgapicogdickaaGreatDoorRows.lean that lists a variable, with what it lists TIED to the program's text (the seventh form; the later family's looks); each row that meets fmt, with fmt's text TOLD by the authors' own Lean function (tested against real Go, not proved from fmt's source: count such statements apart). THE CARD IS WHAT COUNTS. Prove the row's statement (the work); the ties are given (YtpgapicogdickaaGreatDoorTie.lean); close each card by the builder's one call (the guide's Derived/Test/ToyasCard.lean, 'card_holds'). Laid BY PROGRAM, IN A SANDBOX (cutbox-door.mjs). By AI agents, Wed Nov 11 2026. No macro, syntax, notation, axiom, sorry.
-/
import Derived.Test.YtpgapicogdickaaGreatDoorRows
import GoSem.ClaimSeven
namespace Go.Proofs.YtpgapicogdickaaGreatDoor
namespace Rows

/-- THE TIED CARD OF 'gavelkindlaw32.TransTells'. -/
def transTellsCard : Claim7 := { stood := { row := transTellsRow, standIns := [], harness := (true, "6ae0d413af0368875f676834580a89fd660e395648ec6fff9cb26d8f6eac1e6d"), looks := false }, kinds := [], alts := [], laidByText := true, laidKinds := [.data, .data], laidTests := true, laidLooks := .later }
def TransTellsCardSaid : Prop := Claim7.holds Tryz.pinned (.plain (OpenSpec.ofChange transTellsSpec)) transTellsCard

/-- THE TIED CARD OF 'gavelkindlaw32.TransKinds'. -/
def transKindsCard : Claim7 := { stood := { row := transKindsRow, standIns := [], harness := (true, "6ae0d413af0368875f676834580a89fd660e395648ec6fff9cb26d8f6eac1e6d"), looks := false }, kinds := [], alts := [], laidByText := true, laidKinds := [.data, .data], laidTests := true, laidLooks := .later }
def TransKindsCardSaid : Prop := Claim7.holds Tryz.pinned (.plain (OpenSpec.ofChange transKindsSpec)) transKindsCard

/-- THE TIED CARD OF 'gavelkindlaw32.TransPlug'. -/
def transPlugCard : Claim7 := { stood := { row := transPlugRow, standIns := [], harness := (true, "6ae0d413af0368875f676834580a89fd660e395648ec6fff9cb26d8f6eac1e6d"), looks := false }, kinds := [], alts := [], laidByText := true, laidKinds := [.data, .data], laidTests := true, laidLooks := .later }
def TransPlugCardSaid : Prop := Claim7.holds Tryz.pinned (.plain (OpenSpec.ofChange transPlugSpec)) transPlugCard

/-- THE TIED CARD OF 'gavelkindlaw32.TransSame'. -/
def transSameCard : Claim7 := { stood := { row := transSameRow, standIns := [], harness := (true, "6ae0d413af0368875f676834580a89fd660e395648ec6fff9cb26d8f6eac1e6d"), looks := false }, kinds := [], alts := [], laidByText := true, laidKinds := [.data, .data], laidTests := true, laidLooks := .later }
def TransSameCardSaid : Prop := Claim7.holds Tryz.pinned (.plain (OpenSpec.ofChange transSameSpec)) transSameCard

/-- THE SECOND FORM's CARD OF 'gavelkindlaw32.TransTells'. -/
def transTellsUptoCard : Claim7 := { stood := { row := transTellsUptoRow, standIns := [], harness := (true, "6ae0d413af0368875f676834580a89fd660e395648ec6fff9cb26d8f6eac1e6d"), looks := false }, kinds := [], alts := [], laidByText := true, laidKinds := [.data, .data], laidTests := true, laidLooks := .later }
def TransTellsUptoCardSaid : Prop := Claim7.holds Tryz.pinned (.plain (OpenSpec.upto transTellsSpec)) transTellsUptoCard

/-- THE SECOND FORM's CARD OF 'gavelkindlaw32.TransKinds'. -/
def transKindsUptoCard : Claim7 := { stood := { row := transKindsUptoRow, standIns := [], harness := (true, "6ae0d413af0368875f676834580a89fd660e395648ec6fff9cb26d8f6eac1e6d"), looks := false }, kinds := [], alts := [], laidByText := true, laidKinds := [.data, .data], laidTests := true, laidLooks := .later }
def TransKindsUptoCardSaid : Prop := Claim7.holds Tryz.pinned (.plain (OpenSpec.upto transKindsSpec)) transKindsUptoCard

/-- THE SECOND FORM's CARD OF 'gavelkindlaw32.TransPlug'. -/
def transPlugUptoCard : Claim7 := { stood := { row := transPlugUptoRow, standIns := [], harness := (true, "6ae0d413af0368875f676834580a89fd660e395648ec6fff9cb26d8f6eac1e6d"), looks := false }, kinds := [], alts := [], laidByText := true, laidKinds := [.data, .data], laidTests := true, laidLooks := .later }
def TransPlugUptoCardSaid : Prop := Claim7.holds Tryz.pinned (.plain (OpenSpec.upto transPlugSpec)) transPlugUptoCard

/-- THE SECOND FORM's CARD OF 'gavelkindlaw32.TransSame'. -/
def transSameUptoCard : Claim7 := { stood := { row := transSameUptoRow, standIns := [], harness := (true, "6ae0d413af0368875f676834580a89fd660e395648ec6fff9cb26d8f6eac1e6d"), looks := false }, kinds := [], alts := [], laidByText := true, laidKinds := [.data, .data], laidTests := true, laidLooks := .later }
def TransSameUptoCardSaid : Prop := Claim7.holds Tryz.pinned (.plain (OpenSpec.upto transSameSpec)) transSameUptoCard
end Rows
end Go.Proofs.YtpgapicogdickaaGreatDoor
