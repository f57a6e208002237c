/-
  DERIVED. GIVEN WITH THE SEED: THE CARDS: each row of YtblenmelciaigaaGreatDoorRows.lean that lists a variable, with what it lists TIED to the program's text (the seventh form; the later family's looks); each row that meets fmt, with fmt's text TOLD by the authors' own Lean function (tested against real Go, not proved from fmt's source: count such statements apart). THE CARD IS WHAT COUNTS. Prove the row's statement (the work); the ties are given (YtblenmelciaigaaGreatDoorTie.lean); close each card by the builder's one call (the guide's Derived/Test/ToyasCard.lean, 'card_holds'). Laid BY PROGRAM, IN A SANDBOX (cutbox-door.mjs). By AI agents, Wed Nov 11 2026. No macro, syntax, notation, axiom, sorry.
-/
import Derived.Test.YtblenmelciaigaaGreatDoorRows
import GoSem.ClaimSeven
namespace Go.Proofs.YtblenmelciaigaaGreatDoor
namespace Rows

/-- THE TIED CARD OF 'gavelkindlaw32.TransTells'. -/
def transTellsCard : Claim7 := { stood := { row := transTellsRow, standIns := [], harness := (true, "537da8a0a24b51c1bdd813f8ad82827d9441d1e30f1a425965c6fd719e47bba4"), looks := false }, kinds := [], alts := [], laidByText := true, laidKinds := [.data, .data], laidTests := true, laidLooks := .later }
def TransTellsCardSaid : Prop := Claim7.holds Tryz.pinned (.plain (OpenSpec.ofChange transTellsSpec)) transTellsCard

/-- THE TIED CARD OF 'gavelkindlaw32.TransPlug'. -/
def transPlugCard : Claim7 := { stood := { row := transPlugRow, standIns := [], harness := (true, "537da8a0a24b51c1bdd813f8ad82827d9441d1e30f1a425965c6fd719e47bba4"), looks := false }, kinds := [], alts := [], laidByText := true, laidKinds := [.data, .data], laidTests := true, laidLooks := .later }
def TransPlugCardSaid : Prop := Claim7.holds Tryz.pinned (.plain (OpenSpec.ofChange transPlugSpec)) transPlugCard

/-- THE TIED CARD OF 'gavelkindlaw32.TransSame'. -/
def transSameCard : Claim7 := { stood := { row := transSameRow, standIns := [], harness := (true, "537da8a0a24b51c1bdd813f8ad82827d9441d1e30f1a425965c6fd719e47bba4"), looks := false }, kinds := [], alts := [], laidByText := true, laidKinds := [.data, .data], laidTests := true, laidLooks := .later }
def TransSameCardSaid : Prop := Claim7.holds Tryz.pinned (.plain (OpenSpec.ofChange transSameSpec)) transSameCard

/-- THE SECOND FORM's CARD OF 'gavelkindlaw32.TransTells'. -/
def transTellsUptoCard : Claim7 := { stood := { row := transTellsUptoRow, standIns := [], harness := (true, "537da8a0a24b51c1bdd813f8ad82827d9441d1e30f1a425965c6fd719e47bba4"), looks := false }, kinds := [], alts := [], laidByText := true, laidKinds := [.data, .data], laidTests := true, laidLooks := .later }
def TransTellsUptoCardSaid : Prop := Claim7.holds Tryz.pinned (.plain (OpenSpec.upto transTellsSpec)) transTellsUptoCard

/-- THE SECOND FORM's CARD OF 'gavelkindlaw32.TransPlug'. -/
def transPlugUptoCard : Claim7 := { stood := { row := transPlugUptoRow, standIns := [], harness := (true, "537da8a0a24b51c1bdd813f8ad82827d9441d1e30f1a425965c6fd719e47bba4"), looks := false }, kinds := [], alts := [], laidByText := true, laidKinds := [.data, .data], laidTests := true, laidLooks := .later }
def TransPlugUptoCardSaid : Prop := Claim7.holds Tryz.pinned (.plain (OpenSpec.upto transPlugSpec)) transPlugUptoCard

/-- THE SECOND FORM's CARD OF 'gavelkindlaw32.TransSame'. -/
def transSameUptoCard : Claim7 := { stood := { row := transSameUptoRow, standIns := [], harness := (true, "537da8a0a24b51c1bdd813f8ad82827d9441d1e30f1a425965c6fd719e47bba4"), looks := false }, kinds := [], alts := [], laidByText := true, laidKinds := [.data, .data], laidTests := true, laidLooks := .later }
def TransSameUptoCardSaid : Prop := Claim7.holds Tryz.pinned (.plain (OpenSpec.upto transSameSpec)) transSameUptoCard
end Rows
end Go.Proofs.YtblenmelciaigaaGreatDoor
