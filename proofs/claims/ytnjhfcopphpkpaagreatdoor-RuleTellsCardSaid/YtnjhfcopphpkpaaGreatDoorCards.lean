/-
  DERIVED. GIVEN WITH THE SEED: THE CARDS: each row of YtnjhfcopphpkpaaGreatDoorRows.lean that lists a variable, with what it lists TIED to the program's text (the seventh form; the later family's looks); each row that meets fmt, with fmt's text TOLD by the authors' own Lean function (tested against real Go, not proved from fmt's source: count such statements apart). THE CARD IS WHAT COUNTS. Prove the row's statement (the work); the ties are given (YtnjhfcopphpkpaaGreatDoorTie.lean); close each card by the builder's one call (the guide's Derived/Test/ToyasCard.lean, 'card_holds'). Laid BY PROGRAM, IN A SANDBOX (cutbox-door.mjs). By AI agents, Wed Nov 11 2026. No macro, syntax, notation, axiom, sorry.
-/
import Derived.Test.YtnjhfcopphpkpaaGreatDoorRows
import GoSem.ClaimSeven
namespace Go.Proofs.YtnjhfcopphpkpaaGreatDoor
namespace Rows

/-- THE TIED CARD OF 'gavelkindlaw37.RuleTells'. -/
def ruleTellsCard : Claim7 := { stood := { row := ruleTellsRow, standIns := [], harness := (true, "923492866de07697f329228ff09294518a91fc08b6db5f3f56089fe3a0622818"), looks := false }, kinds := [], alts := [], laidByText := true, laidKinds := [.data, .data], laidTests := true, laidLooks := .later }
def RuleTellsCardSaid : Prop := Claim7.holds Tryz.pinned (.plain (OpenSpec.ofChange ruleTellsSpec)) ruleTellsCard

/-- THE TIED CARD OF 'gavelkindlaw37.RuleRolls'. -/
def ruleRollsCard : Claim7 := { stood := { row := ruleRollsRow, standIns := [], harness := (true, "923492866de07697f329228ff09294518a91fc08b6db5f3f56089fe3a0622818"), looks := false }, kinds := [], alts := [], laidByText := true, laidKinds := [.data, .data], laidTests := true, laidLooks := .later }
def RuleRollsCardSaid : Prop := Claim7.holds Tryz.pinned (.plain (OpenSpec.ofChange ruleRollsSpec)) ruleRollsCard

/-- THE TIED CARD OF 'gavelkindlaw37.RuleEnds'. -/
def ruleEndsCard : Claim7 := { stood := { row := ruleEndsRow, standIns := [], harness := (true, "923492866de07697f329228ff09294518a91fc08b6db5f3f56089fe3a0622818"), looks := false }, kinds := [], alts := [], laidByText := true, laidKinds := [.data, .data], laidTests := true, laidLooks := .later }
def RuleEndsCardSaid : Prop := Claim7.holds Tryz.pinned (.plain (OpenSpec.ofChange ruleEndsSpec)) ruleEndsCard

/-- THE SECOND FORM's CARD OF 'gavelkindlaw37.RuleTells'. -/
def ruleTellsUptoCard : Claim7 := { stood := { row := ruleTellsUptoRow, standIns := [], harness := (true, "923492866de07697f329228ff09294518a91fc08b6db5f3f56089fe3a0622818"), looks := false }, kinds := [], alts := [], laidByText := true, laidKinds := [.data, .data], laidTests := true, laidLooks := .later }
def RuleTellsUptoCardSaid : Prop := Claim7.holds Tryz.pinned (.plain (OpenSpec.upto ruleTellsSpec)) ruleTellsUptoCard

/-- THE SECOND FORM's CARD OF 'gavelkindlaw37.RuleRolls'. -/
def ruleRollsUptoCard : Claim7 := { stood := { row := ruleRollsUptoRow, standIns := [], harness := (true, "923492866de07697f329228ff09294518a91fc08b6db5f3f56089fe3a0622818"), looks := false }, kinds := [], alts := [], laidByText := true, laidKinds := [.data, .data], laidTests := true, laidLooks := .later }
def RuleRollsUptoCardSaid : Prop := Claim7.holds Tryz.pinned (.plain (OpenSpec.upto ruleRollsSpec)) ruleRollsUptoCard

/-- THE SECOND FORM's CARD OF 'gavelkindlaw37.RuleEnds'. -/
def ruleEndsUptoCard : Claim7 := { stood := { row := ruleEndsUptoRow, standIns := [], harness := (true, "923492866de07697f329228ff09294518a91fc08b6db5f3f56089fe3a0622818"), looks := false }, kinds := [], alts := [], laidByText := true, laidKinds := [.data, .data], laidTests := true, laidLooks := .later }
def RuleEndsUptoCardSaid : Prop := Claim7.holds Tryz.pinned (.plain (OpenSpec.upto ruleEndsSpec)) ruleEndsUptoCard
end Rows
end Go.Proofs.YtnjhfcopphpkpaaGreatDoor
