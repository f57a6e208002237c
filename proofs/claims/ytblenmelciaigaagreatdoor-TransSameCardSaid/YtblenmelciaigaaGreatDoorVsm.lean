/-
  An account of a view, or none.
-/
import Derived.Test.YtblenmelciaigaaGreatDoorZ28
namespace Go.Proofs.YtblenmelciaigaaGreatDoor
open Go.RowKit Go.Gk

section
variable {w : World} {bv bi B t mr mp : Nat} {e a s r l n lv : Value} {fs : List Value} {b : Bks} {us : List (Ent × Value)}

end
end Go.Proofs.YtblenmelciaigaaGreatDoor
