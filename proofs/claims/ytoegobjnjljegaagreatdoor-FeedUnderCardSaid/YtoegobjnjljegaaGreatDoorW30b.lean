/-
  The row FeedUnder: over.
-/
import Derived.Test.YtoegobjnjljegaaGreatDoorW30a
import Derived.Test.YtoegobjnjljegaaGreatDoorWs
namespace Go.Proofs.YtoegobjnjljegaaGreatDoor.feedUnder
open Go.ChangeShapes Go.WideShapes Go.ChangeAt Go.RowKit Go.Gk
theorem over:Rows.feedUnderRow.holds Tryz.pinned (OpenSpec.ofChange Rows.feedUnderSpec):=
 OpenClaim.holds_of_wide 4 Tryz.f4 rfl rfl rfl rfl rfl rfl rfl ⟨rfl,rfl,rfl,rfl,rfl⟩ rfl rfl rfl rfl rfl (by kernel_rfl) Tryz.func4 closed
  (of_decide_eq_true (by kernel_rfl)) (by unfold Func.isWrapper;first|(rw[if_pos (by decide+kernel)];kernel_rfl)|(rw[if_neg (by decide+kernel)];exact⟨rfl,rfl⟩))
  (fun os started H enc _=>lifted os started H enc)
