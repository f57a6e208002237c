/-
  A closed fact of the card ReportTrial.
-/
import Derived.Test.YtoegobjnjljegaaGreatDoorZ1
import Derived.LaidMore
import Derived.Stop.LaidErr
import Derived.SevenTiedAt
namespace Go.Proofs.YtoegobjnjljegaaGreatDoor.reportTrial
theorem goes:false=Rows.reportTrialRow.goesBy Tryz.pinned.checked.prog:=by kernel_rfl
