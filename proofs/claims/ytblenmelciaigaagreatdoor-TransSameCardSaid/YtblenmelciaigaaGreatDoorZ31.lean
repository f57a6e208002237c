/-
  Plain: what a node has: the parts that are added.
-/
import Derived.Test.YtblenmelciaigaaGreatDoorZ28
namespace Go.Gk
theorem accIds_len (j : Nat) : (accIds j).length = j := by unfold accIds; simp
end Go.Gk
