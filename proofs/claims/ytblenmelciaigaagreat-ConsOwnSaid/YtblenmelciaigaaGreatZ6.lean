/-
  The document's whole numbers, digit by digit: fewer, digits.
-/
import Derived.Test.YtblenmelciaigaaGreatZ4
import Derived.Laws.Rows
namespace Go.Proofs.YtblenmelciaigaaGreat
open Go.RowKit Go.Gk

end Go.Proofs.YtblenmelciaigaaGreat

/-
  The document's whole numbers: of a number; added.
-/
namespace Go.Proofs.YtblenmelciaigaaGreat
open Go.RowKit Go.Gk

/-- A whole number. -/
def BigIs (B : Nat → Prop) (w : World) (v : Value) (x : Int) : Prop := ∃ dv, v = .agg #[.bool (decide (x < 0)), dv] ∧ DRow B w dv (dg x.natAbs)
theorem BigIs.keep {B : Nat → Prop} {w w' : World} {v : Value} {x : Int} (h : BigIs B w v x) (t : Tch (fun _ => False) w w') : BigIs B w' v x := let ⟨dv, e, h⟩ := h; ⟨dv, e, h.keep t⟩

theorem tmod_neg (m : Nat) : (-(m : Int)).tmod 10 = -((m % 10 : Nat) : Int) := by rw [Int.neg_tmod]; rfl
theorem tdiv_neg (m : Nat) : (-(m : Int)).tdiv 10 = -((m / 10 : Nat) : Int) := by rw [Int.neg_tdiv]; rfl

theorem dg_len64 {n : Nat} (h : n < 2 ^ 64) : (dg n).length ≤ 64 := by
  have key : ∀ (k m : Nat), m < 2 ^ k → (dg m).length ≤ k := fun k => by
    induction k with
    | zero =>
      intro m hm
      have e : m = 0 := by simpa using hm
      rw [e, dg_zero]; exact Nat.le_refl _
    | succ k ih =>
      intro m hm
      rcases Nat.eq_zero_or_pos m with e | e
      · subst e; rw [dg_zero]; exact Nat.zero_le _
      · rw [dg_pos e, List.length_cons]
        have := ih (m / 10) (by rw [Nat.pow_succ] at hm; omega)
        omega
  exact key 64 n h

end Go.Proofs.YtblenmelciaigaaGreat
