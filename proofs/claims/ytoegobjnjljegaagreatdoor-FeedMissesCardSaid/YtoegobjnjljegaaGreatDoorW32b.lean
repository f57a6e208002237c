/-
  The row FeedMisses: over.
-/
import Derived.Test.YtoegobjnjljegaaGreatDoorW32a
import Derived.Test.YtoegobjnjljegaaGreatDoorWw
namespace Go.Proofs.YtoegobjnjljegaaGreatDoor.feedMisses
open Go.ChangeShapes Go.WideShapes Go.ChangeAt Go.RowKit Go.Gk
theorem over:Rows.feedMissesRow.holds Tryz.pinned (OpenSpec.ofChange Rows.feedMissesSpec):=
 OpenClaim.holds_of_wide 10 Tryz.f10 rfl rfl rfl rfl rfl rfl rfl ⟨rfl,rfl,rfl,rfl,rfl⟩ rfl rfl rfl rfl rfl (by kernel_rfl) Tryz.func10 closed
  (of_decide_eq_true (by kernel_rfl)) (by unfold Func.isWrapper;first|(rw[if_pos (by decide+kernel)];kernel_rfl)|(rw[if_neg (by decide+kernel)];exact⟨rfl,rfl⟩))
  (fun os started H enc _=>lifted os started H enc)
