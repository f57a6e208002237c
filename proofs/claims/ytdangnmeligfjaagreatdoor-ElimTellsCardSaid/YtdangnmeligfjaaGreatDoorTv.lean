/-
  Plain: values of translations, by the recipes: they do not hang on how deep, and their errors are two. No program in sight.
-/
import Derived.Test.YtdangnmeligfjaaGreatDoorZ55
import Derived.Test.YtdangnmeligfjaaGreatDoorZ46
namespace Go.Gk.V32
open Go.RowKit

/-! ### What a recipe comes to, of values by the cells -/
theorem lookF_map (f : Rt6 → Vl) : ∀ {l : List Rt6} {k : Rt6}, l.Nodup → k ∈ l → lookF (l.zip (l.map f)) k = f k
  | [], k, _, h => by cases h
  | x :: r, k, hn, h => by
    have h2 := List.nodup_cons.1 hn
    rw [List.map_cons, List.zip_cons_cons]
    by_cases e : k = x
    · subst e
      refine lookF_cons (k, f k) _ ?_
      rw [List.map_fst_zip (by simp)]
      exact h2.1
    · rw [lookF_skip _ _ e]
      exact lookF_map f h2.2 ((List.mem_cons.1 h).resolve_left e)
theorem evalOf_map (r : Rcp) (f : Rt6 → Vl) : evalOf r ((readsOf r).map f) = netOf (r.base :: (r.plus.map f ++ (if r.rated then [scaleOf (f r.scaled) r.ratio r.has] else []))) (r.minus.map f) := by
  unfold evalOf
  rw [if_pos (by simp)]
  have hv : ∀ k ∈ rcpAll r, valsOf r ((readsOf r).map f) k = f k := fun k hk => lookF_map f (uniq_nodup _) ((uniq_mem _).2 hk)
  have hp : r.plus.map (valsOf r ((readsOf r).map f)) = r.plus.map f := List.map_congr_left fun k hk => hv k (by unfold rcpAll; simp [hk])
  have hm : r.minus.map (valsOf r ((readsOf r).map f)) = r.minus.map f := List.map_congr_left fun k hk => hv k (by unfold rcpAll; simp [hk])
  rw [hp, hm]
  cases hr : r.rated
  · simp
  · rw [hv r.scaled (by unfold rcpAll; simp [hr])]

/-! ### Errors -/
/-! ### Rates of books that may be -/
/-! ### Values, so deep -/
/-- The recipe of a movement, a balance or a translation. -/
def rcpD (b : Bks) (c : Rt6) : Rcp × Int := if c.1 = 3 then transOf b c else localOf b c
/-- Its value, at most so deep. -/
def valD (b : Bks) : Nat → Rt6 → Vl
  | 0, _ => (0, 2)
  | d + 1, c => if (rcpD b c).2 = 0 then evalOf (rcpD b c).1 ((readsOf (rcpD b c).1).map (valD b d)) else (0, 2)
theorem val_64 (b : Bks) (d : Nat) (c : Rt6) : Vl64 (valD b d c) := by
  unfold valD
  cases d with
  | zero => simp [Vl64, I64]
  | succ d =>
    simp only
    split
    · rw [evalOf_map]; exact net_64 _ _
    · simp [Vl64, I64]
/-- Cells that have a recipe, of a period up to 5. -/
def Proper (b : Bks) (c : Rt6) : Prop := ((c.1 = 3 ∧ mayOf b c 3 3 = 0) ∨ ((c.1 = 1 ∨ c.1 = 2) ∧ mayOf b c 1 2 = 0)) ∧ 0 ≤ c.2.2.2.1 ∧ c.2.2.2.1 ≤ 5
theorem Proper.ok {b : Bks} {c : Rt6} (h : Proper b c) : (rcpD b c).2 = 0 := by
  unfold rcpD
  rcases h.1 with ⟨h1, h2⟩ | ⟨h1, h2⟩
  · rw [if_pos h1]
    unfold transOf
    rw [if_pos h2]
  · rw [if_neg (by omega)]
    unfold localOf
    rw [if_pos h2]
/-- Of a key that may be: what may be beside it. -/
theorem may_in {b : Bks} {c : Rt6} {lo hi : Int} (h : mayOf b c lo hi = 0) : cellOK c = true ∧ ¬ (b.ents.length : Int) < max c.2.1 c.2.2.2.2.2 ∧ ¬ (b.accs.length : Int) < c.2.2.1 ∧ (lo ≤ c.1 ∧ c.1 ≤ hi) ∧ accLeaf b.accs c.2.2.1 = true := by
  unfold mayOf at h
  by_cases h0 : cellIn c b.ents.length b.accs.length = 0
  · rw [if_pos h0] at h
    by_cases h1 : c.1 < lo ∨ hi < c.1
    · rw [if_pos h1] at h; cases h
    · rw [if_neg h1] at h
      unfold cellIn at h0
      by_cases h2 : cellOK c = true
      · rw [if_pos h2] at h0
        by_cases h3 : (b.ents.length : Int) < max c.2.1 c.2.2.2.2.2
        · rw [if_pos h3] at h0; cases h0
        · rw [if_neg h3] at h0
          by_cases h4 : (b.accs.length : Int) < c.2.2.1
          · rw [if_pos h4] at h0; cases h0
          · refine ⟨h2, h3, h4, by omega, ?_⟩
            by_cases h5 : accLeaf b.accs c.2.2.1 = true
            · exact h5
            · rw [if_neg h5] at h; cases h
      · rw [if_neg h2] at h0; cases h0
  · rw [if_neg h0] at h; exact absurd h h0
theorem reads_iff {r : Rcp} {x : Rt6} : x ∈ readsOf r ↔ x ∈ r.plus ∨ x ∈ r.minus ∨ (r.rated = true ∧ x = r.scaled) := by
  unfold readsOf rcpAll
  rw [uniq_mem, List.mem_append, List.mem_append]
  cases r.rated <;> simp [or_assoc]
/-! ### The plug -/
end Go.Gk.V32
