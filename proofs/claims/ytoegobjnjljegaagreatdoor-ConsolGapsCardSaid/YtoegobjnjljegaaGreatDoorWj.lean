/-
  A closed fact of the card ConsolGaps.
-/
import Derived.Test.YtoegobjnjljegaaGreatDoorZ1
import Derived.LaidMore
import Derived.Stop.LaidErr
import Derived.SevenTiedAt
namespace Go.Proofs.YtoegobjnjljegaaGreatDoor.consolGaps
theorem goes:false=Rows.consolGapsRow.goesBy Tryz.pinned.checked.prog:=by kernel_rfl
