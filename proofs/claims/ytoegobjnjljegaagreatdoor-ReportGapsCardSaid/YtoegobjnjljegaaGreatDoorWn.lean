/-
  A closed fact of the card ReportGaps.
-/
import Derived.Test.YtoegobjnjljegaaGreatDoorZ1
import Derived.LaidMore
import Derived.Stop.LaidErr
import Derived.SevenTiedAt
namespace Go.Proofs.YtoegobjnjljegaaGreatDoor.reportGaps
theorem goes:false=Rows.reportGapsRow.goesBy Tryz.pinned.checked.prog:=by kernel_rfl
