/-
  The document's: what keys may be.
-/
import Derived.Test.YtblenmelciaigaaGreatZ13
import Derived.Test.YtblenmelciaigaaGreatZ9
import Derived.Test.YtblenmelciaigaaGreatZ10
import Derived.Test.YtblenmelciaigaaGreatZ20
namespace Go.Gk
theorem cellOK_iff (r e a p u q : Int) : cellOK (r, e, a, p, u, q) = true ↔ (1 ≤ r ∧ r ≤ 7 ∧ 1 ≤ e ∧ e ≤ 40 ∧ 1 ≤ a ∧ a ≤ 60 ∧ 0 ≤ p ∧ p ≤ 23 ∧ (r ≤ 2 → u = 0) ∧ (2 < r → 1 ≤ u ∧ u ≤ 8) ∧ (3 < r → q = 0) ∧ 0 ≤ q ∧ q ≤ 40 ∧ q ≠ e) := by
  unfold cellOK
  simp only [Bool.and_eq_true, wi, decide_eq_true_eq, Bool.not_eq_true', beq_eq_false_iff_ne]
  by_cases h1 : r = 1 ∨ r = 2
  · simp only [h1, if_true]
    by_cases h3 : r ≤ 3
    · simp only [h3, if_true]; omega
    · omega
  · simp only [h1, if_false]
    by_cases h3 : r ≤ 3
    · simp only [h3, if_true]; omega
    · simp only [h3, if_false]; omega
end Go.Gk
namespace Go.Proofs.YtblenmelciaigaaGreat
open Go.RowKit Go.Gk

end Go.Proofs.YtblenmelciaigaaGreat

/-
  The document's: leaves; what keys may be.
-/
namespace Go.Gk
open Go.RowKit
/-- The children of an account among the first ones. -/
def kidsF (a : Int) : Nat → List Acc → List Int
  | _, [] => []
  | i, x :: r => (if x.1 = a then [(i : Int) + 1] else []) ++ kidsF a (i + 1) r
theorem kidsF_snoc (a : Int) (x : Acc) : ∀ (l : List Acc) (i : Nat), kidsF a i (l ++ [x]) = kidsF a i l ++ (if x.1 = a then [((i + l.length : Nat) : Int) + 1] else [])
  | [], i => by simp [kidsF]
  | y :: r, i => by
    simp only [List.cons_append, kidsF, kidsF_snoc a x r (i + 1), List.length_cons, List.append_assoc]
    rw [show i + 1 + r.length = i + (r.length + 1) by omega]
theorem kids_take (a : Int) {l : List Acc} {j : Nat} (h : j < l.length) : kidsF a 0 (l.take (j + 1)) = kidsF a 0 (l.take j) ++ (if l[j].1 = a then [(j : Int) + 1] else []) := by
  rw [List.take_succ_eq_append_getElem h, kidsF_snoc, List.length_take, Nat.min_eq_left (Nat.le_of_lt h), Nat.zero_add]
theorem kidsF_len (a : Int) : ∀ (l : List Acc) (i : Nat), (kidsF a i l).length ≤ l.length
  | [], _ => by simp [kidsF]
  | x :: r, i => by
    have := kidsF_len a r (i + 1)
    simp only [kidsF, List.length_append, List.length_cons]
    split <;> simp <;> omega
theorem kidsF_none (a : Int) : ∀ (l : List Acc) (i : Nat), (kidsF a i l).length = 0 ↔ accKid l a = false
  | [], _ => by simp [kidsF, accKid]
  | x :: r, i => by
    have := kidsF_none a r (i + 1)
    unfold accKid at this ⊢
    by_cases h : x.1 = a
    · simp [kidsF, h]
    · have h2 : (x.1 == a) = false := by simpa using h
      simp only [kidsF, h, if_false, List.nil_append, List.any_cons, h2, Bool.false_or]
      exact this
end Go.Gk
namespace Go.Proofs.YtblenmelciaigaaGreat
open Go.RowKit Go.Gk

end Go.Proofs.YtblenmelciaigaaGreat
