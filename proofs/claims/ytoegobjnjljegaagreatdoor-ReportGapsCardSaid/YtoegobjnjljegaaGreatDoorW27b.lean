/-
  The row ReportGaps: over.
-/
import Derived.Test.YtoegobjnjljegaaGreatDoorW27a
import Derived.Test.YtoegobjnjljegaaGreatDoorWm
namespace Go.Proofs.YtoegobjnjljegaaGreatDoor.reportGaps
open Go.ChangeShapes Go.WideShapes Go.ChangeAt Go.RowKit Go.Gk
theorem over:Rows.reportGapsRow.holds Tryz.pinned (OpenSpec.ofChange Rows.reportGapsSpec):=
 OpenClaim.holds_of_wide 7 Tryz.f7 rfl rfl rfl rfl rfl rfl rfl ⟨rfl,rfl,rfl,rfl,rfl⟩ rfl rfl rfl rfl rfl (by kernel_rfl) Tryz.func7 closed
  (of_decide_eq_true (by kernel_rfl)) (by unfold Func.isWrapper;first|(rw[if_pos (by decide+kernel)];kernel_rfl)|(rw[if_neg (by decide+kernel)];exact⟨rfl,rfl⟩))
  (fun os started H enc _=>lifted os started H enc)
