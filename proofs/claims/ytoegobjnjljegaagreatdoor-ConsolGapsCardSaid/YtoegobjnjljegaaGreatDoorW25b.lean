/-
  The row ConsolGaps: over.
-/
import Derived.Test.YtoegobjnjljegaaGreatDoorW25a
import Derived.Test.YtoegobjnjljegaaGreatDoorWi
namespace Go.Proofs.YtoegobjnjljegaaGreatDoor.consolGaps
open Go.ChangeShapes Go.WideShapes Go.ChangeAt Go.RowKit Go.Gk
theorem over:Rows.consolGapsRow.holds Tryz.pinned (OpenSpec.ofChange Rows.consolGapsSpec):=
 OpenClaim.holds_of_wide 9 Tryz.f9 rfl rfl rfl rfl rfl rfl rfl ⟨rfl,rfl,rfl,rfl,rfl⟩ rfl rfl rfl rfl rfl (by kernel_rfl) Tryz.func9 closed
  (of_decide_eq_true (by kernel_rfl)) (by unfold Func.isWrapper;first|(rw[if_pos (by decide+kernel)];kernel_rfl)|(rw[if_neg (by decide+kernel)];exact⟨rfl,rfl⟩))
  (fun os started H enc _=>lifted os started H enc)
