/-
  The row ReportRated: over.
-/
import Derived.Test.YtoegobjnjljegaaGreatDoorW28a
import Derived.Test.YtoegobjnjljegaaGreatDoorWo
namespace Go.Proofs.YtoegobjnjljegaaGreatDoor.reportRated
open Go.ChangeShapes Go.WideShapes Go.ChangeAt Go.RowKit Go.Gk
theorem over:Rows.reportRatedRow.holds Tryz.pinned (OpenSpec.ofChange Rows.reportRatedSpec):=
 OpenClaim.holds_of_wide 8 Tryz.f8 rfl rfl rfl rfl rfl rfl rfl ⟨rfl,rfl,rfl,rfl,rfl⟩ rfl rfl rfl rfl rfl (by kernel_rfl) Tryz.func8 closed
  (of_decide_eq_true (by kernel_rfl)) (by unfold Func.isWrapper;first|(rw[if_pos (by decide+kernel)];kernel_rfl)|(rw[if_neg (by decide+kernel)];exact⟨rfl,rfl⟩))
  (fun os started H enc _=>lifted os started H enc)
