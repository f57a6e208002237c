/-
  Plain: what a node has: the parts that are added.
-/
import Derived.Test.YtdangnmeligfjaaGreatDoorZ28
import Derived.Test.YtdangnmeligfjaaGreatDoorZ12
import Derived.Test.YtdangnmeligfjaaGreatDoorZ10
namespace Go.Gk
theorem accIds_succ (j : Nat) : accIds (j + 1) = accIds j ++ [(j : Int) + 1] := by
  unfold accIds
  rw [List.range_succ, List.map_append]
  rfl
theorem accIds_len (j : Nat) : (accIds j).length = j := by unfold accIds; simp
theorem accIds_mem {j : Nat} {x : Int} (h : x ∈ accIds j) : 1 ≤ x ∧ x ≤ j := by
  unfold accIds at h
  obtain ⟨i, hi, rfl⟩ := List.mem_map.1 h
  have := List.mem_range.1 hi
  omega
theorem filter_snoc {α : Type} (F : α → Bool) (l : List α) (x : α) : (l ++ [x]).filter F = l.filter F ++ (if F x then [x] else []) := by
  rw [List.filter_append]
  congr 1
  by_cases h : F x = true <;> simp [h]
/-- Those that an entity holds. -/
def isKid (b : Bks) (x p : Int) (i : Int) : Bool := stkUp b.stakes i p == x
def kidsOf (b : Bks) (x p : Int) : List Int := if 1 ≤ x ∧ x ≤ b.ents.length then (accIds b.ents.length).filter (isKid b x p) else []
/-- The leaves that are split. -/
def splitsOf (b : Bks) : List Int := (accLeaves b.accs).filter (accSplit b)
def ofC (c : Rt6) (r e a : Int) : Rt6 := (r, e, a, c.2.2.2.1, c.2.2.2.2.1, 0)
def consMin (c : Rt6) (kids splits : List Int) : List Rt6 := kids.flatMap fun k => splits.map fun a => ofC c 5 k a
def consPlus (c : Rt6) (kids splits : List Int) : List Rt6 := ofC c 3 c.2.1 c.2.2.1 :: (kids.map (fun k => ofC c 4 k c.2.2.1) ++ ((if c.2.2.1 = 2 then consMin c kids splits else []) ++ [ofC c 6 c.2.1 c.2.2.1]))
def consOf (b : Bks) (c : Rt6) : Rcp × Int := if mayOf b c 7 7 = 0 then ({ Rcp.none with plus := consPlus c (kidsOf b c.2.1 c.2.2.2.1) (splitsOf b) }, 0) else (Rcp.none, mayOf b c 7 7)
theorem may_alone {b : Bks} {c : Rt6} {lo hi : Int} (h : mayOf b c lo hi = 0) (h4 : 3 < lo) : c.2.2.2.2.2 = 0 := by
  have hf := may_facts h
  unfold mayOf at h
  by_cases h0 : cellIn c b.ents.length b.accs.length = 0
  · unfold cellIn at h0
    by_cases hc : cellOK c = true
    · unfold cellOK at hc
      simp only [Bool.and_eq_true, wi, decide_eq_true_eq] at hc
      have h1 : ¬ c.1 ≤ 3 := by omega
      rw [if_neg h1] at hc
      omega
    · rw [if_neg hc] at h0; cases h0
  · rw [if_neg h0] at h; exact absurd h h0
theorem kids_len (b : Bks) (x p : Int) : (kidsOf b x p).length ≤ b.ents.length := by
  unfold kidsOf
  split
  · exact Nat.le_trans (List.length_filter_le _ _) (by rw [accIds_len]; omega)
  · simp
theorem splits_len (b : Bks) : (splitsOf b).length ≤ b.accs.length := by
  unfold splitsOf accLeaves
  exact Nat.le_trans (List.length_filter_le _ _) (Nat.le_trans (List.length_filter_le _ _) (by rw [accIds_len]; omega))
end Go.Gk

/-
  Forests: those that an entity holds.
-/
namespace Go.Proofs.YtdangnmeligfjaaGreatDoor
open Go.RowKit Go.Gk

section
variable {w : World} {g n : Nat} {l : List Stk4} {p : Int}

-- whether an entity is held: the closure
end
end Go.Proofs.YtdangnmeligfjaaGreatDoor
