/-
  Plain: what a node has: the parts that are added.
-/
import Derived.Test.YtdangnmeligfjaaGreatDoorZ28
import Derived.Test.YtdangnmeligfjaaGreatDoorZ12
import Derived.Test.YtdangnmeligfjaaGreatDoorZ10
namespace Go.Gk
theorem accIds_succ (j : Nat) : accIds (j + 1) = accIds j ++ [(j : Int) + 1] := by
 unfold accIds
 rw [List.range_succ, List.map_append]
 rfl
theorem accIds_len (j : Nat) : (accIds j).length = j := by unfold accIds; simp
theorem filter_snoc {α : Type} (F : α → Bool) (l : List α) (x : α) : (l ++ [x]).filter F = l.filter F ++ (if F x then [x] else []) := by
 rw [List.filter_append]
 congr 1
 by_cases h : F x = true <;> simp [h]
end Go.Gk
namespace Go.Proofs.YtdangnmeligfjaaGreatDoor
open Go.RowKit Go.Gk
section
variable {w : World} {g n : Nat} {l : List Stk4} {p : Int}
end
end Go.Proofs.YtdangnmeligfjaaGreatDoor
