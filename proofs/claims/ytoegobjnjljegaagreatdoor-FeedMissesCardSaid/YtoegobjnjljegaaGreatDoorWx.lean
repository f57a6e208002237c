/-
  A closed fact of the card FeedMisses.
-/
import Derived.Test.YtoegobjnjljegaaGreatDoorZ1
import Derived.LaidMore
import Derived.Stop.LaidErr
import Derived.SevenTiedAt
namespace Go.Proofs.YtoegobjnjljegaaGreatDoor.feedMisses
theorem goes:false=Rows.feedMissesRow.goesBy Tryz.pinned.checked.prog:=by kernel_rfl
