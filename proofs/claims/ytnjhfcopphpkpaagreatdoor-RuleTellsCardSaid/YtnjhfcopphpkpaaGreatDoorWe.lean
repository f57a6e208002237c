/-
  A closed fact of the card RuleTells.
-/
import Derived.Test.YtnjhfcopphpkpaaGreatDoorZ1
import Derived.LaidMore
import Derived.Stop.LaidErr
import Derived.SevenTiedAt
namespace Go.Proofs.YtnjhfcopphpkpaaGreatDoor.ruleTells
theorem goes:false=Rows.ruleTellsRow.goesBy Tryz.pinned.checked.prog:=by kernel_rfl
