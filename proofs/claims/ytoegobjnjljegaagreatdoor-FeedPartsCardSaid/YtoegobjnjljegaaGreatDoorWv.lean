/-
  A closed fact of the card FeedParts.
-/
import Derived.Test.YtoegobjnjljegaaGreatDoorZ1
import Derived.LaidMore
import Derived.Stop.LaidErr
import Derived.SevenTiedAt
namespace Go.Proofs.YtoegobjnjljegaaGreatDoor.feedParts
theorem goes:false=Rows.feedPartsRow.goesBy Tryz.pinned.checked.prog:=by kernel_rfl
