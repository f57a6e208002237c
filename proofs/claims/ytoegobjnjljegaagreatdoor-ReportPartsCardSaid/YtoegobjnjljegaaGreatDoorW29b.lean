/-
  The row ReportParts: over.
-/
import Derived.Test.YtoegobjnjljegaaGreatDoorW29a
import Derived.Test.YtoegobjnjljegaaGreatDoorWq
namespace Go.Proofs.YtoegobjnjljegaaGreatDoor.reportParts
open Go.ChangeShapes Go.WideShapes Go.ChangeAt Go.RowKit Go.Gk
theorem over:Rows.reportPartsRow.holds Tryz.pinned (OpenSpec.ofChange Rows.reportPartsSpec):=
 OpenClaim.holds_of_wide 6 Tryz.f6 rfl rfl rfl rfl rfl rfl rfl ⟨rfl,rfl,rfl,rfl,rfl⟩ rfl rfl rfl rfl rfl (by kernel_rfl) Tryz.func6 closed
  (of_decide_eq_true (by kernel_rfl)) (by unfold Func.isWrapper;first|(rw[if_pos (by decide+kernel)];kernel_rfl)|(rw[if_neg (by decide+kernel)];exact⟨rfl,rfl⟩))
  (fun os started H enc _=>lifted os started H enc)
