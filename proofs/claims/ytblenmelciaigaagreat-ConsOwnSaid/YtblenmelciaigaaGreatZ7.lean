/-
  The document's whole numbers: added, taken off, held against each other.
-/
import Derived.Test.YtblenmelciaigaaGreatZ6
import Derived.Deep.RegionHeld3
namespace Go.Proofs.YtblenmelciaigaaGreat
open Go.RowKit Go.Gk

theorem dg_len_pos {n : Nat} (h : 0 < n) : 0 < (dg n).length := by rw [dg_pos h]; simp
theorem dg_len_zero {n : Nat} (h : (dg n).length = 0) : n = 0 := by
  rcases Nat.eq_zero_or_pos n with e | e
  · exact e
  · have := dg_len_pos e; omega
theorem Tch.two (w : World) (z : Nat) (u v : Value) : Tch (fun g => g = z) w ((w.setCell ⟨z, 0, none⟩ u).setCell ⟨z, 1, none⟩ v) :=
  (Tch.setCell (F := fun g => g = z) w (p := ⟨z, 0, none⟩) (.inl rfl) u).trans (Tch.setCell (F := fun g => g = z) _ (p := ⟨z, 1, none⟩) (.inl rfl) v)

/-- BEGIN PLUS -/
theorem Blk.new3 (w : World) (o o' : Obj) (t : TypeId) (cs : Array Value) : Blk (((w.alloc o).alloc o').alloc (.cells cs t)) (w.heap.size + 2) t cs := by
  simpa using Blk.new ((w.alloc o).alloc o') t cs

/-- BEGIN DIFF -/
theorem diffs : True := trivial

theorem dg_dec {n : Nat} : decide (0 < (dg n).length) = decide (0 < n) := by
  by_cases h : 0 < n
  · rw [decide_eq_true (dg_len_pos h), decide_eq_true h]
  · obtain rfl : n = 0 := by omega
    rw [dg_zero]; rfl

end Go.Proofs.YtblenmelciaigaaGreat

/-
  The document's whole numbers: taken off, held against each other.
-/
namespace Go.Proofs.YtblenmelciaigaaGreat
open Go.RowKit Go.Gk

theorem BigIs.keepTo {B B' F : Nat → Prop} {w w' : World} {v : Value} {x : Int} (h : BigIs B w v x) (t : Tch F w w') (hP : ∀ g, g < w.heap.size → B g → ¬ F g ∧ B' g) : BigIs B' w' v x := let ⟨dv, e, h⟩ := h; ⟨dv, e, h.keepTo t hP⟩

end Go.Proofs.YtblenmelciaigaaGreat

/-
  The document's whole numbers: many of them added.
-/
namespace Go.Gk
theorem dg_lenk : ∀ (k : Nat) {n : Nat}, n < 2 ^ k → (dg n).length ≤ k := fun k => by
  induction k with
  | zero =>
    intro m hm
    have e : m = 0 := by simpa using hm
    rw [e, dg_zero]; exact Nat.le_refl _
  | succ k ih =>
    intro m hm
    rcases Nat.eq_zero_or_pos m with e | e
    · subst e; rw [dg_zero]; exact Nat.zero_le _
    · rw [dg_pos e, List.length_cons]
      have := ih (n := m / 10) (by rw [Nat.pow_succ] at hm; omega)
      omega
/-- Numbers of 64 bits. -/
def I64s (l : List Int) : Prop := ∀ x ∈ l, -9223372036854775808 ≤ x ∧ x ≤ 9223372036854775807
theorem sum_take {l : List Int} {j : Nat} (h : j < l.length) : (l.take (j + 1)).sum = (l.take j).sum + l[j] := by
  rw [List.take_succ_eq_append_getElem h, List.sum_append]; simp
theorem sum_bound {l : List Int} (h : I64s l) : ∀ j, j ≤ l.length → (l.take j).sum.natAbs ≤ j * 9223372036854775808
  | 0, _ => by simp
  | j + 1, hj => by
    have ih := sum_bound h j (by omega)
    have hx := h l[j] (List.getElem_mem _)
    rw [sum_take (by omega)]
    omega
end Go.Gk
namespace Go.Proofs.YtblenmelciaigaaGreat
open Go.RowKit Go.Gk

end Go.Proofs.YtblenmelciaigaaGreat
