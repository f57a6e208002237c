/-
  ElimPairs: the walk.
-/
import Derived.Test.YtdangnmeligfjaaGreatDoorZ66
import Derived.Test.YtdangnmeligfjaaGreatDoorZ24
import Derived.Test.YtdangnmeligfjaaGreatDoorZ61
import Derived.Test.YtdangnmeligfjaaGreatDoorZ46
namespace Go.Gk.V33
open Go.RowKit
theorem three_ptn {b : Bks} (h : booksOK b = true) : accPtn b 3 = false := by
  unfold booksOK at h
  simp only [Bool.and_eq_true] at h
  obtain ⟨⟨⟨⟨⟨_, h⟩, _⟩, _⟩, _⟩, _⟩ := h
  unfold accsOK at h
  simp only [Bool.and_eq_true, decide_eq_true_eq] at h
  have h3 := h.1.1.2.2
  have h4 : (b.accs.take 3)[2]? = ownAccs[2]? := by rw [h3]
  rw [List.getElem?_take] at h4
  have h5 : b.accs[2]? = some (0, 1, false, false) := by simpa [ownAccs] using h4
  unfold accPtn
  rw [show ((3 : Int) - 1).toNat = 2 by decide, h5]
  rfl
theorem elim_bad {b : Bks} {c : Rt6} (h : mayOf b c 6 6 ≠ 0) : elimOf b c = (Rcp.none, mayOf b c 6 6) := by
  unfold elimOf
  rw [if_neg h]
end Go.Gk.V33
namespace Go.Proofs.YtdangnmeligfjaaGreatDoor
open Go.RowKit Go.Gk Go.Gk.V33

end Go.Proofs.YtdangnmeligfjaaGreatDoor
