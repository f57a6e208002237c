/-
  The row RuleTells: over.
-/
import Derived.Test.YtnjhfcopphpkpaaGreatDoorW21a
import Derived.Test.YtnjhfcopphpkpaaGreatDoorWd
namespace Go.Proofs.YtnjhfcopphpkpaaGreatDoor.ruleTells
open Go.ChangeShapes Go.WideShapes Go.ChangeAt Go.RowKit Go.Gk
theorem over:Rows.ruleTellsRow.holds Tryz.pinned (OpenSpec.ofChange Rows.ruleTellsSpec):=
 OpenClaim.holds_of_wide 3 Tryz.f3 rfl rfl rfl rfl rfl rfl rfl ⟨rfl,rfl,rfl,rfl,rfl⟩ rfl rfl rfl rfl rfl (by kernel_rfl) Tryz.func3 closed
  (of_decide_eq_true (by kernel_rfl)) (by unfold Func.isWrapper;first|(rw[if_pos (by decide+kernel)];kernel_rfl)|(rw[if_neg (by decide+kernel)];exact⟨rfl,rfl⟩))
  (fun os started H enc _=>lifted os started H enc)
