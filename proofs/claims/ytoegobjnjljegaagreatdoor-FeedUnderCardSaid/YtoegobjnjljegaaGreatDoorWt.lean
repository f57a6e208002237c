/-
  A closed fact of the card FeedUnder.
-/
import Derived.Test.YtoegobjnjljegaaGreatDoorZ1
import Derived.LaidMore
import Derived.Stop.LaidErr
import Derived.SevenTiedAt
namespace Go.Proofs.YtoegobjnjljegaaGreatDoor.feedUnder
theorem goes:false=Rows.feedUnderRow.goesBy Tryz.pinned.checked.prog:=by kernel_rfl
