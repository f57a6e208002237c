/-
  Plain: what a node has, counted: a part of each that it holds, once.
-/
import Derived.Test.YtdangnmeligfjaaGreatDoorZ31
import Derived.Test.YtdangnmeligfjaaGreatDoorZ27
import Derived.Test.YtdangnmeligfjaaGreatDoorZ49
namespace Go.Gk
theorem stkAt_snoc (l : List Stk4) (s : Stk4) (e p : Int) : stkAt (l ++ [s]) e p = stkStep e p (stkAt l e p) s := by
 unfold stkAt; rw [List.foldl_append]; rfl
end Go.Gk
