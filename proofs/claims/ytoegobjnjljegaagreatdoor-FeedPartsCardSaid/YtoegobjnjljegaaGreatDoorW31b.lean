/-
  The row FeedParts: over.
-/
import Derived.Test.YtoegobjnjljegaaGreatDoorW31a
import Derived.Test.YtoegobjnjljegaaGreatDoorWu
namespace Go.Proofs.YtoegobjnjljegaaGreatDoor.feedParts
open Go.ChangeShapes Go.WideShapes Go.ChangeAt Go.RowKit Go.Gk
theorem over:Rows.feedPartsRow.holds Tryz.pinned (OpenSpec.ofChange Rows.feedPartsSpec):=
 OpenClaim.holds_of_wide 3 Tryz.f3 rfl rfl rfl rfl rfl rfl rfl ⟨rfl,rfl,rfl,rfl,rfl⟩ rfl rfl rfl rfl rfl (by kernel_rfl) Tryz.func3 closed
  (of_decide_eq_true (by kernel_rfl)) (by unfold Func.isWrapper;first|(rw[if_pos (by decide+kernel)];kernel_rfl)|(rw[if_neg (by decide+kernel)];exact⟨rfl,rfl⟩))
  (fun os started H enc _=>lifted os started H enc)
