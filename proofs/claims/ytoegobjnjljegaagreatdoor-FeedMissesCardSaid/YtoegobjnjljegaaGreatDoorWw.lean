/-
  The closed facts of the row FeedMisses, one by one.
-/
import Derived.Test.YtoegobjnjljegaaGreatDoorZ1
import Derived.LaidMore
import Derived.Stop.LaidErr
namespace Go.Proofs.YtoegobjnjljegaaGreatDoor.feedMisses
theorem zif {a b:Bool} (h1:a=true) (h2:b=true):(a&&b)=true:=by rw[h1,h2];rfl
theorem c1:laidOutB Tryz.pinned.checked.prog=true:=by kernel_rfl
theorem c2:mapsRowed Tryz.pinned.checked.prog=true:=by kernel_rfl
theorem c3:(Rows.feedMissesRow.inPlace==Tryz.pinned.checked.prog.inPlace 10)=true:=by kernel_rfl
theorem c4:(Rows.feedMissesRow.unfollowed==Tryz.pinned.checked.prog.unfollowed 10)=true:=by kernel_rfl
theorem c5:(Rows.feedMissesRow.recurses==Tryz.pinned.checked.prog.recurses 10)=true:=by kernel_rfl
theorem c6:(Rows.feedMissesRow.named==Tryz.pinned.checked.prog.varsNamed 10)=true:=by kernel_rfl
theorem c8:Tryz.pinned.checked.prog.mayEnter=true:=by kernel_rfl
theorem c7:Tryz.pinned.checked.prog.stopsHeard=true:=by kernel_rfl
theorem closed:joinedFacts Tryz.pinned.checked.prog 10 Tryz.f10 Rows.feedMissesSpec Rows.feedMissesRow=true:=
 (zif (zif (zif (zif (zif (zif (zif (zif (zif (zif (zif (zif (zif (zif (zif (zif (zif (zif (zif (zif (zif (zif (zif (zif (zif (zif (zif (zif (zif (zif (zif (by kernel_rfl) c1) c2) (by kernel_rfl)) (by kernel_rfl)) (by kernel_rfl)) (by kernel_rfl)) (by kernel_rfl)) (by kernel_rfl)) c3) c4) c5) c6) (by kernel_rfl)) (by kernel_rfl)) (by kernel_rfl)) (by kernel_rfl)) (by kernel_rfl)) (by kernel_rfl)) (by kernel_rfl)) (by kernel_rfl)) (by kernel_rfl)) (by kernel_rfl)) (by kernel_rfl)) c7) c8) (by kernel_rfl)) (by kernel_rfl)) (by kernel_rfl)) (by kernel_rfl)) (by kernel_rfl)) (by kernel_rfl))
