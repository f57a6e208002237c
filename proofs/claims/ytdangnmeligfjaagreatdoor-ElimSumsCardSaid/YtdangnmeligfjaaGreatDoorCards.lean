/-
  DERIVED. GIVEN WITH THE SEED: THE CARDS: each row of YtdangnmeligfjaaGreatDoorRows.lean that lists a variable, with what it lists TIED to the program's text (the seventh form; the later family's looks); each row that meets fmt, with fmt's text TOLD by the authors' own Lean function (tested against real Go, not proved from fmt's source: count such statements apart). THE CARD IS WHAT COUNTS. Prove the row's statement (the work); the ties are given (YtdangnmeligfjaaGreatDoorTie.lean); close each card by the builder's one call (the guide's Derived/Test/ToyasCard.lean, 'card_holds'). Laid BY PROGRAM, IN A SANDBOX (cutbox-door.mjs). By AI agents, Wed Nov 11 2026. No macro, syntax, notation, axiom, sorry.
-/
import Derived.Test.YtdangnmeligfjaaGreatDoorRows
import GoSem.ClaimSeven
namespace Go.Proofs.YtdangnmeligfjaaGreatDoor
namespace Rows

/-- THE TIED CARD OF 'gavelkindlaw34.ElimTells'. -/
def elimTellsCard : Claim7 := { stood := { row := elimTellsRow, standIns := [], harness := (true, "a952cae907513703aef730fa9b54ca0359125e163101c4b6ae03963e291172b9"), looks := false }, kinds := [], alts := [], laidByText := true, laidKinds := [.data, .data], laidTests := true, laidLooks := .later }
def ElimTellsCardSaid : Prop := Claim7.holds Tryz.pinned (.plain (OpenSpec.ofChange elimTellsSpec)) elimTellsCard

/-- THE TIED CARD OF 'gavelkindlaw34.ElimSums'. -/
def elimSumsCard : Claim7 := { stood := { row := elimSumsRow, standIns := [], harness := (true, "a952cae907513703aef730fa9b54ca0359125e163101c4b6ae03963e291172b9"), looks := false }, kinds := [], alts := [], laidByText := true, laidKinds := [.data, .data], laidTests := true, laidLooks := .later }
def ElimSumsCardSaid : Prop := Claim7.holds Tryz.pinned (.plain (OpenSpec.ofChange elimSumsSpec)) elimSumsCard

/-- THE TIED CARD OF 'gavelkindlaw34.ElimPairs'. -/
def elimPairsCard : Claim7 := { stood := { row := elimPairsRow, standIns := [], harness := (true, "a952cae907513703aef730fa9b54ca0359125e163101c4b6ae03963e291172b9"), looks := false }, kinds := [], alts := [], laidByText := true, laidKinds := [.data, .data], laidTests := true, laidLooks := .later }
def ElimPairsCardSaid : Prop := Claim7.holds Tryz.pinned (.plain (OpenSpec.ofChange elimPairsSpec)) elimPairsCard

/-- THE SECOND FORM's CARD OF 'gavelkindlaw34.ElimTells'. -/
def elimTellsUptoCard : Claim7 := { stood := { row := elimTellsUptoRow, standIns := [], harness := (true, "a952cae907513703aef730fa9b54ca0359125e163101c4b6ae03963e291172b9"), looks := false }, kinds := [], alts := [], laidByText := true, laidKinds := [.data, .data], laidTests := true, laidLooks := .later }
def ElimTellsUptoCardSaid : Prop := Claim7.holds Tryz.pinned (.plain (OpenSpec.upto elimTellsSpec)) elimTellsUptoCard

/-- THE SECOND FORM's CARD OF 'gavelkindlaw34.ElimSums'. -/
def elimSumsUptoCard : Claim7 := { stood := { row := elimSumsUptoRow, standIns := [], harness := (true, "a952cae907513703aef730fa9b54ca0359125e163101c4b6ae03963e291172b9"), looks := false }, kinds := [], alts := [], laidByText := true, laidKinds := [.data, .data], laidTests := true, laidLooks := .later }
def ElimSumsUptoCardSaid : Prop := Claim7.holds Tryz.pinned (.plain (OpenSpec.upto elimSumsSpec)) elimSumsUptoCard

/-- THE SECOND FORM's CARD OF 'gavelkindlaw34.ElimPairs'. -/
def elimPairsUptoCard : Claim7 := { stood := { row := elimPairsUptoRow, standIns := [], harness := (true, "a952cae907513703aef730fa9b54ca0359125e163101c4b6ae03963e291172b9"), looks := false }, kinds := [], alts := [], laidByText := true, laidKinds := [.data, .data], laidTests := true, laidLooks := .later }
def ElimPairsUptoCardSaid : Prop := Claim7.holds Tryz.pinned (.plain (OpenSpec.upto elimPairsSpec)) elimPairsUptoCard
end Rows
end Go.Proofs.YtdangnmeligfjaaGreatDoor
