/-
  What parents and others have: keys that may be, shares.
-/
import Derived.Test.YtblenmelciaigaaGreatZ28
import Derived.Test.YtblenmelciaigaaGreatZ20
import Derived.Test.YtblenmelciaigaaGreatZ53
import Derived.Test.YtblenmelciaigaaGreatZ12
namespace Go.Proofs.YtblenmelciaigaaGreat
open Go.RowKit Go.Gk

section
variable {w : World} {bv bi B t mr mp : Nat} {e a s r l n lv : Value} {fs : List Value} {b : Bks} {us : List (Ent × Value)}

end

end Go.Proofs.YtblenmelciaigaaGreat

/-
  What parents and others have: recipes, made.
-/
namespace Go.Proofs.YtblenmelciaigaaGreat
open Go.RowKit Go.Gk

section
variable {w : World} {bv bi B t mr mp : Nat} {e a s r l n lv : Value} {fs : List Value} {b : Bks} {us : List (Ent × Value)}

def SplitOk (b : Bks) (c : Rt6) (w : World) (x : Ending) (w' : World) : Prop := ∃ v, x = .returned (.tuple #[v, .int .i64 (splitOf b c).2]) ∧ RcpIs w' v (splitOf b c).1 ∧ Tch (fun _ => False) w w'

end
end Go.Proofs.YtblenmelciaigaaGreat
