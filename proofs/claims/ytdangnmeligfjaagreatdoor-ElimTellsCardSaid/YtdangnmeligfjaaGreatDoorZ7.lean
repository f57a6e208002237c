/-
  The document's whole numbers: added, taken off, held against each other.
-/
import Derived.Test.YtdangnmeligfjaaGreatDoorZ6
import Derived.Deep.RegionHeld3
namespace Go.Proofs.YtdangnmeligfjaaGreatDoor
open Go.RowKit Go.Gk

theorem Tch.two (w : World) (z : Nat) (u v : Value) : Tch (fun g => g = z) w ((w.setCell ⟨z, 0, none⟩ u).setCell ⟨z, 1, none⟩ v) :=
  (Tch.setCell (F := fun g => g = z) w (p := ⟨z, 0, none⟩) (.inl rfl) u).trans (Tch.setCell (F := fun g => g = z) _ (p := ⟨z, 1, none⟩) (.inl rfl) v)

/-- BEGIN PLUS -/
theorem Blk.new3 (w : World) (o o' : Obj) (t : TypeId) (cs : Array Value) : Blk (((w.alloc o).alloc o').alloc (.cells cs t)) (w.heap.size + 2) t cs := by
  simpa using Blk.new ((w.alloc o).alloc o') t cs

/-- What stands in memory once the three boxes are laid. -/
structure PlusIs (W : World) (z : Nat) (sx sy : Bool) (u v : Value) : Prop where
  a : Blk W z 58 #[.bool sx, u]
  b : Blk W (z + 1) 58 #[.bool sy, v]
  r : Blk W (z + 2) 58 #[.bool false, .slice none 0 0]
theorem PlusIs.new (w : World) (sx sy : Bool) (u v : Value) : PlusIs (((w.alloc (.cells #[.bool sx, u] 58)).alloc (.cells #[.bool sy, v] 58)).alloc (.cells #[.bool false, .slice none 0 0] 58)) w.heap.size sx sy u v :=
  ⟨((Blk.new w _ _).alloc _).alloc _, (Blk.new2 w _ _ _).alloc _, Blk.new3 w _ _ _ _⟩
theorem PlusIs.keep {W W' : World} {z : Nat} {sx sy : Bool} {u v : Value} (h : PlusIs W z sx sy u v) (t : Tch (fun _ => False) W W') : PlusIs W' z sx sy u v := ⟨h.a.keep t id, h.b.keep t id, h.r.keep t id⟩

end Go.Proofs.YtdangnmeligfjaaGreatDoor

/-
  The document's whole numbers: taken off, held against each other.
-/
namespace Go.Proofs.YtdangnmeligfjaaGreatDoor
open Go.RowKit Go.Gk

theorem BigIs.keepTo {B B' F : Nat → Prop} {w w' : World} {v : Value} {x : Int} (h : BigIs B w v x) (t : Tch F w w') (hP : ∀ g, g < w.heap.size → B g → ¬ F g ∧ B' g) : BigIs B' w' v x := let ⟨dv, e, h⟩ := h; ⟨dv, e, h.keepTo t hP⟩

end Go.Proofs.YtdangnmeligfjaaGreatDoor

/-
  The document's whole numbers: many of them added.
-/
namespace Go.Gk
/-- Numbers of 64 bits. -/
def I64s (l : List Int) : Prop := ∀ x ∈ l, -9223372036854775808 ≤ x ∧ x ≤ 9223372036854775807
theorem sum_take {l : List Int} {j : Nat} (h : j < l.length) : (l.take (j + 1)).sum = (l.take j).sum + l[j] := by
  rw [List.take_succ_eq_append_getElem h, List.sum_append]; simp
theorem sum_bound {l : List Int} (h : I64s l) : ∀ j, j ≤ l.length → (l.take j).sum.natAbs ≤ j * 9223372036854775808
  | 0, _ => by simp
  | j + 1, hj => by
    have ih := sum_bound h j (by omega)
    have hx := h l[j] (List.getElem_mem _)
    rw [sum_take (by omega)]
    omega
end Go.Gk
namespace Go.Proofs.YtdangnmeligfjaaGreatDoor
open Go.RowKit Go.Gk

end Go.Proofs.YtdangnmeligfjaaGreatDoor
