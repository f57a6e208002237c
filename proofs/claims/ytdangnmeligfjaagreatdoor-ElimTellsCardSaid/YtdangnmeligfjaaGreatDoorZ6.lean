/-
  The document's whole numbers, digit by digit: fewer, digits.
-/
import Derived.Test.YtdangnmeligfjaaGreatDoorZ4
import Derived.Laws.Rows
namespace Go.Proofs.YtdangnmeligfjaaGreatDoor
open Go.RowKit Go.Gk

end Go.Proofs.YtdangnmeligfjaaGreatDoor

/-
  The document's whole numbers: of a number; added.
-/
namespace Go.Proofs.YtdangnmeligfjaaGreatDoor
open Go.RowKit Go.Gk

/-- A whole number. -/
def BigIs (B : Nat → Prop) (w : World) (v : Value) (x : Int) : Prop := ∃ dv, v = .agg #[.bool (decide (x < 0)), dv] ∧ DRow B w dv (dg x.natAbs)
theorem BigIs.keep {B : Nat → Prop} {w w' : World} {v : Value} {x : Int} (h : BigIs B w v x) (t : Tch (fun _ => False) w w') : BigIs B w' v x := let ⟨dv, e, h⟩ := h; ⟨dv, e, h.keep t⟩

end Go.Proofs.YtdangnmeligfjaaGreatDoor
