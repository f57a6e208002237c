/-
  Plain: ratios in lowest terms, rates found in books, recipes of translations. No program in sight.
-/
import Derived.Test.YtdangnmeligfjaaGreatDoorZ49
import Derived.Test.YtdangnmeligfjaaGreatDoorZ9
import Derived.Test.YtdangnmeligfjaaGreatDoorZ4
import Derived.Test.YtdangnmeligfjaaGreatDoorGc
namespace Go.Gk
open Go.RowKit

/-! ### Ratios -/
/-- A rate's lowest terms. -/
def nrm (r : Int × Int) : Int × Int := if ratOK r = true then (r.1 / (Nat.gcd r.1.toNat r.2.toNat : Nat), r.2 / (Nat.gcd r.1.toNat r.2.toNat : Nat)) else (0, 0)
def invOf (r : Int × Int) : (Int × Int) × Int := if ratOK r = true then (nrm (r.2, r.1), 0) else ((0, 0), 11)
def crs (a b : Int × Int) : Int × Int := ((nrm ((nrm a).1, (nrm b).2)).1 * (nrm ((nrm b).1, (nrm a).2)).1, (nrm ((nrm a).1, (nrm b).2)).2 * (nrm ((nrm b).1, (nrm a).2)).2)
def timesOf (a b : Int × Int) : (Int × Int) × Int := if ratOK a = true ∧ ratOK b = true then (if (crs a b).1 ≤ 1000000000000 ∧ (crs a b).2 ≤ 1000000000000 then (crs a b, 0) else ((0, 0), 10)) else ((0, 0), 11)
/-! ### Rates -/
abbrev Rk4 := Int × Int × Int × Int
def rkey (r : Rt6) : Rk4 := (r.1, r.2.1, r.2.2.1, r.2.2.2.1)
/-- The last rate of a key. -/
def lastRat (l : List Rt6) (k : Rk4) : Option (Int × Int) := l.foldl (fun o r => if rkey r = k then some r.2.2.2.2 else o) none
def findOf (l : List Rt6) (k : Rk4) : (Int × Int) × Bool := match lastRat l k with | some r => (r, true) | none => ((0, 0), false)
/-- A rate from a currency to another one, straight or turned round. -/
def legOf (l : List Rt6) (kd p f t : Int) : (Int × Int) × Bool :=
  if (findOf l (f, t, kd, p)).2 = true then ((findOf l (f, t, kd, p)).1, true)
  else ((invOf (findOf l (t, f, kd, p)).1).1, (findOf l (t, f, kd, p)).2 && decide ((invOf (findOf l (t, f, kd, p)).1).2 = 0))
/-- By one of some third currencies, the first that will do. -/
def thirdOf (l : List Rt6) (kd p f t : Int) : List Int → (Int × Int) × Bool
  | [] => ((0, 0), false)
  | c :: r => if (c ≠ f ∧ c ≠ t) ∧ ((legOf l kd p f c).2 = true ∧ (legOf l kd p c t).2 = true) ∧ (timesOf (legOf l kd p f c).1 (legOf l kd p c t).1).2 = 0 then ((timesOf (legOf l kd p f c).1 (legOf l kd p c t).1).1, true) else thirdOf l kd p f t r
def crossOf (l : List Rt6) (f t kd p : Int) : (Int × Int) × Bool := if (legOf l kd p f t).2 = true then ((legOf l kd p f t).1, true) else thirdOf l kd p f t [1, 2, 3, 4, 5, 6, 7, 8]
def rateOf (l : List Rt6) (f t kd p : Int) : (Int × Int) × Bool := if f = t ∧ 1 ≤ f ∧ f ≤ 8 then ((1, 1), true) else crossOf l f t kd p
/-! ### Translations -/
def curOf (b : Bks) (x : Int) : Int := if 1 ≤ x ∧ x ≤ b.ents.length then (b.ents[(x - 1).toNat]?).getD 0 else 0
def kindOf (b : Bks) (a : Int) : Int := ((b.accs[(a - 1).toNat]?).map (·.2.1)).getD 0
def transRcp (b : Bks) (c : Rt6) : Rcp :=
  if c.2.2.1 = 1 then (if c.2.2.2.2.2 ≠ 0 then Rcp.none else { Rcp.none with minus := ((accLeaves b.accs).filter fun a => decide (a ≠ 1)).map fun a => (c.1, c.2.1, a, c.2.2.2) })
  else if curOf b c.2.1 = c.2.2.2.2.1 then { Rcp.none with plus := [(2, c.2.1, c.2.2.1, c.2.2.2.1, 0, c.2.2.2.2.2)] }
  else { Rcp.none with
    plus := if kindOf b c.2.2.1 ≠ 1 ∧ 0 < c.2.2.2.1 then [(c.1, c.2.1, c.2.2.1, c.2.2.2.1 - 1, c.2.2.2.2.1, c.2.2.2.2.2)] else []
    scaled := (if kindOf b c.2.2.1 = 1 then 2 else 1, c.2.1, c.2.2.1, c.2.2.2.1, 0, c.2.2.2.2.2)
    rated := true
    ratio := (rateOf b.rates (curOf b c.2.1) c.2.2.2.2.1 (kindOf b c.2.2.1) c.2.2.2.1).1
    has := (rateOf b.rates (curOf b c.2.1) c.2.2.2.2.1 (kindOf b c.2.2.1) c.2.2.2.1).2 }
def transOf (b : Bks) (c : Rt6) : Rcp × Int := if mayOf b c 3 3 = 0 then (transRcp b c, 0) else (Rcp.none, mayOf b c 3 3)
end Go.Gk
