/-
  A closed fact of the card ReportParts.
-/
import Derived.Test.YtoegobjnjljegaaGreatDoorZ1
import Derived.LaidMore
import Derived.Stop.LaidErr
import Derived.SevenTiedAt
namespace Go.Proofs.YtoegobjnjljegaaGreatDoor.reportParts
theorem goes:false=Rows.reportPartsRow.goesBy Tryz.pinned.checked.prog:=by kernel_rfl
