/-
  A closed fact of the card ReportRated.
-/
import Derived.Test.YtoegobjnjljegaaGreatDoorZ1
import Derived.LaidMore
import Derived.Stop.LaidErr
import Derived.SevenTiedAt
namespace Go.Proofs.YtoegobjnjljegaaGreatDoor.reportRated
theorem goes:false=Rows.reportRatedRow.goesBy Tryz.pinned.checked.prog:=by kernel_rfl
