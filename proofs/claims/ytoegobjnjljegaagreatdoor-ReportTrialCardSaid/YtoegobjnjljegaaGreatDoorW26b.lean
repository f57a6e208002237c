/-
  The row ReportTrial: over.
-/
import Derived.Test.YtoegobjnjljegaaGreatDoorW26a
import Derived.Test.YtoegobjnjljegaaGreatDoorWk
namespace Go.Proofs.YtoegobjnjljegaaGreatDoor.reportTrial
open Go.ChangeShapes Go.WideShapes Go.ChangeAt Go.RowKit Go.Gk
theorem over:Rows.reportTrialRow.holds Tryz.pinned (OpenSpec.ofChange Rows.reportTrialSpec):=
 OpenClaim.holds_of_wide 5 Tryz.f5 rfl rfl rfl rfl rfl rfl rfl ⟨rfl,rfl,rfl,rfl,rfl⟩ rfl rfl rfl rfl rfl (by kernel_rfl) Tryz.func5 closed
  (of_decide_eq_true (by kernel_rfl)) (by unfold Func.isWrapper;first|(rw[if_pos (by decide+kernel)];kernel_rfl)|(rw[if_neg (by decide+kernel)];exact⟨rfl,rfl⟩))
  (fun os started H enc _=>lifted os started H enc)
