/-
  Plain: heaps as lists: a thing is a key, a value, a stamp; the least key first, among these the least stamp. No program in sight.
-/
import Derived.Test.YtnknemepfjfcfaaGm
namespace Go.Gk

abbrev T3 := Int × Int × Int
def le3 (a b : T3) : Prop := a.1 < b.1 ∨ (a.1 = b.1 ∧ a.2.2 ≤ b.2.2)
instance (a b : T3) : Decidable (le3 a b) := by unfold le3; exact inferInstance
theorem le3.refl (a : T3) : le3 a a := .inr ⟨rfl, Int.le_refl _⟩
theorem le3.trans {a b c : T3} (h : le3 a b) (k : le3 b c) : le3 a c := by unfold le3 at *; omega
theorem le3.of_not {a b : T3} (h : ¬ le3 a b) : le3 b a := by unfold le3 at *; omega

def g3 (l : List T3) (i : Nat) : T3 := l.getD i (0, 0, 0)
def swap3 (l : List T3) (i k : Nat) : List T3 := (l.set i (g3 l k)).set k (g3 l i)
theorem swap3_len (l : List T3) (i k : Nat) : (swap3 l i k).length = l.length := by simp [swap3]
theorem g3_set (l : List T3) (i j : Nat) (a : T3) (h : i < l.length) : g3 (l.set i a) j = if j = i then a else g3 l j := by
  unfold g3
  simp only [List.getD_eq_getElem?_getD, List.getElem?_set]
  by_cases e : i = j
  · subst e; simp [h]
  · rw [if_neg e, if_neg (Ne.symm e)]
theorem g3_swap {l : List T3} {i k : Nat} (hi : i < l.length) (hk : k < l.length) (j : Nat) : g3 (swap3 l i k) j = if j = k then g3 l i else if j = i then g3 l k else g3 l j := by
  unfold swap3
  rw [g3_set _ _ _ _ (by simpa using hk), g3_set _ _ _ _ hi]
theorem g3_get {l : List T3} {i : Nat} (h : i < l.length) : g3 l i = l[i] := by simp [g3, h]

theorem set_perm {l : List T3} {i : Nat} (h : i < l.length) (a : T3) : (l[i] :: l.set i a).Perm (a :: l) := by
  induction l generalizing i with
  | nil => simp at h
  | cons b r ih =>
    cases i with
    | zero => simp only [List.getElem_cons_zero, List.set_cons_zero]; exact List.Perm.swap _ _ _
    | succ i =>
      simp only [List.getElem_cons_succ, List.set_cons_succ]
      have := ih (i := i) (by simpa using h)
      exact (List.Perm.swap _ _ _).trans ((List.Perm.cons _ this).trans (List.Perm.swap _ _ _))

theorem swap3_perm {l : List T3} {i k : Nat} (hi : i < l.length) (hk : k < l.length) : (swap3 l i k).Perm l := by
  unfold swap3
  have h1 := set_perm (l := l.set i (g3 l k)) (i := k) (by simpa using hk) (g3 l i)
  have h2 := set_perm (l := l) hi (g3 l k)
  have e : (l.set i (g3 l k))[k]'(by simpa using hk) = g3 l k := by
    rw [← g3_get, g3_set _ _ _ _ hi]; split
    · rfl
    · rfl
  rw [e] at h1
  rw [← g3_get hi] at h2
  exact (List.perm_cons _).1 (h1.trans h2)

/-- A heap. -/
def Heap (l : List T3) : Prop := ∀ j, 0 < j → j < l.length → le3 (g3 l ((j - 1) / 2)) (g3 l j)
/-- A heap but for what stands at i against its parent. -/
structure HeapUp (l : List T3) (i : Nat) : Prop where
  lt : i < l.length
  other : ∀ j, 0 < j → j < l.length → j ≠ i → le3 (g3 l ((j - 1) / 2)) (g3 l j)
  below : ∀ j, 0 < j → j < l.length → (j - 1) / 2 = i → 0 < i → le3 (g3 l ((i - 1) / 2)) (g3 l j)
/-- A heap but for what stands at i against its children. -/
structure HeapDown (l : List T3) (i : Nat) : Prop where
  other : ∀ j, 0 < j → j < l.length → (j - 1) / 2 ≠ i → le3 (g3 l ((j - 1) / 2)) (g3 l j)
  below : ∀ j, 0 < j → j < l.length → (j - 1) / 2 = i → 0 < i → le3 (g3 l ((i - 1) / 2)) (g3 l j)

theorem HeapUp.stop {l : List T3} {i : Nat} (h : HeapUp l i) (hi : 0 < i → le3 (g3 l ((i - 1) / 2)) (g3 l i)) : Heap l := fun j hj hl => by
  by_cases e : j = i
  · subst e; exact hi hj
  · exact h.other j hj hl e

theorem HeapUp.step {l : List T3} {i : Nat} (h : HeapUp l i) (hi : 0 < i) (hlt : ¬ le3 (g3 l ((i - 1) / 2)) (g3 l i)) : HeapUp (swap3 l i ((i - 1) / 2)) ((i - 1) / 2) := by
  have hp : (i - 1) / 2 < i := by omega
  have hpl : (i - 1) / 2 < l.length := Nat.lt_trans hp h.lt
  have hle := le3.of_not hlt
  refine ⟨by rw [swap3_len]; exact hpl, fun j hj hl hne => ?_, fun j hj hl hje hp0 => ?_⟩
  · rw [swap3_len] at hl
    rw [g3_swap h.lt hpl, g3_swap h.lt hpl, if_neg hne]
    by_cases e1 : j = i
    · subst e1
      rw [if_pos rfl, if_pos rfl]
      exact hle
    · rw [if_neg e1]
      by_cases e2 : (j - 1) / 2 = (i - 1) / 2
      · rw [if_pos e2]
        have := h.other j hj hl e1
        rw [e2] at this
        exact hle.trans this
      · rw [if_neg e2]
        by_cases e3 : (j - 1) / 2 = i
        · rw [if_pos e3]
          exact h.below j hj hl e3 hi
        · rw [if_neg e3]
          exact h.other j hj hl e1
  · rw [swap3_len] at hl
    have hpp : ((i - 1) / 2 - 1) / 2 < (i - 1) / 2 := by omega
    rw [g3_swap h.lt hpl, g3_swap h.lt hpl, if_neg (show ¬ ((i - 1) / 2 - 1) / 2 = (i - 1) / 2 by omega), if_neg (show ¬ ((i - 1) / 2 - 1) / 2 = i by omega)]
    have hq := h.other ((i - 1) / 2) hp0 hpl (by omega)
    rw [if_neg (show ¬ j = (i - 1) / 2 by omega)]
    by_cases e1 : j = i
    · rw [if_pos e1]; exact hq
    · rw [if_neg e1]
      have := h.other j hj hl e1
      rw [hje] at this
      exact hq.trans this

/-- Which of i, and of its children up to k, is least. -/
theorem HeapDown.stop {l : List T3} {i : Nat} (h : HeapDown l i) (hi : ∀ j, 0 < j → j < l.length → (j - 1) / 2 = i → le3 (g3 l i) (g3 l j)) : Heap l := fun j hj hl => by
  by_cases e : (j - 1) / 2 = i
  · rw [e]; exact hi j hj hl e
  · exact h.other j hj hl e

theorem HeapDown.step {l : List T3} {i b : Nat} (h : HeapDown l i) (hb : 0 < b) (hbl : b < l.length) (hbi : (b - 1) / 2 = i) (hlt : ¬ le3 (g3 l i) (g3 l b)) (hmin : ∀ j, 0 < j → j < l.length → (j - 1) / 2 = i → le3 (g3 l b) (g3 l j)) : HeapDown (swap3 l i b) b := by
  have hib : i < b := by omega
  have hil : i < l.length := Nat.lt_trans hib hbl
  have hle := le3.of_not hlt
  refine ⟨fun j hj hl hne => ?_, fun j hj hl hje _ => ?_⟩
  · rw [swap3_len] at hl
    rw [g3_swap hil hbl, g3_swap hil hbl, if_neg hne]
    by_cases e1 : (j - 1) / 2 = i
    · rw [if_pos e1]
      by_cases e2 : j = b
      · rw [if_pos e2]; exact hle
      · rw [if_neg e2, if_neg (show ¬ j = i by omega)]
        exact hmin j hj hl e1
    · rw [if_neg e1]
      rw [if_neg (show ¬ j = b by intro e; subst e; exact e1 hbi)]
      by_cases e3 : j = i
      · rw [if_pos e3, e3]
        exact h.below b hb hbl hbi (by omega)
      · rw [if_neg e3]
        exact h.other j hj hl e1
  · rw [swap3_len] at hl
    rw [g3_swap hil hbl, g3_swap hil hbl, hbi, if_neg (show ¬ i = b by omega), if_pos rfl, if_neg (show ¬ j = b by omega), if_neg (show ¬ j = i by omega)]
    have := h.other j hj hl (by omega)
    rwa [hje] at this

/-- The first of a heap is least. -/
theorem Heap.least {l : List T3} (h : Heap l) : ∀ j, j < l.length → le3 (g3 l 0) (g3 l j) := by
  intro j
  induction j using Nat.strongRecOn with
  | _ j ih =>
    intro hl
    by_cases h0 : j = 0
    · subst h0; exact le3.refl _
    · exact (ih ((j - 1) / 2) (by omega) (by omega)).trans (h j (by omega) hl)

theorem g3_append_old {l m : List T3} {i : Nat} (h : i < l.length) : g3 (l ++ m) i = g3 l i := by
  unfold g3; simp [List.getElem?_append_left h]
theorem g3_take {l : List T3} {i n : Nat} (h : i < n) : g3 (l.take n) i = g3 l i := by
  unfold g3
  simp only [List.getD_eq_getElem?_getD, List.getElem?_take, if_pos h]

theorem Heap.pushed {l : List T3} (h : Heap l) (x : T3) : HeapUp (l ++ [x]) l.length := by
  refine ⟨by simp, fun j hj hl hne => ?_, fun j hj hl hje _ => ?_⟩
  · have hj' : j < l.length := by simp at hl; omega
    rw [g3_append_old hj', g3_append_old (by omega)]
    exact h j hj hj'
  · simp at hl; omega

/-- The first taken out, the last in its place. -/
def popped (l : List T3) : List T3 := (l.set 0 (g3 l (l.length - 1))).take (l.length - 1)
theorem popped_len (l : List T3) : (popped l).length = l.length - 1 := by simp [popped]
theorem Heap.popped {l : List T3} (h : Heap l) (hl : 0 < l.length) : HeapDown (popped l) 0 := by
  refine ⟨fun j hj hjl hne => ?_, fun _ _ _ _ h0 => absurd h0 (by omega)⟩
  rw [popped_len] at hjl
  unfold Gk.popped
  rw [g3_take hjl, g3_take (by omega), g3_set _ _ _ _ hl, g3_set _ _ _ _ hl, if_neg (by omega), if_neg (by omega)]
  exact h j hj (by omega)
theorem popped_perm {l : List T3} (hl : 0 < l.length) : (g3 l 0 :: Gk.popped l).Perm l := by
  have h1 := set_perm hl (g3 l (l.length - 1))
  rw [← g3_get hl] at h1
  have h2 : (l.set 0 (g3 l (l.length - 1))).length = l.length := by simp
  have h3 : l.set 0 (g3 l (l.length - 1)) = Gk.popped l ++ [g3 l (l.length - 1)] := by
    unfold Gk.popped
    conv => lhs; rw [← List.take_append_drop (l.length - 1) (l.set 0 (g3 l (l.length - 1)))]
    congr 1
    have hn : l.length - 1 < (l.set 0 (g3 l (l.length - 1))).length := by rw [h2]; omega
    rw [List.drop_eq_getElem_cons hn, List.drop_eq_nil_of_le (by rw [h2]; omega)]
    congr 1
    rw [← g3_get hn, g3_set _ _ _ _ hl]
    split
    · rfl
    · rfl
  rw [h3] at h1
  have h4 : (g3 l 0 :: (Gk.popped l ++ [g3 l (l.length - 1)])).Perm (g3 l (l.length - 1) :: (g3 l 0 :: Gk.popped l)) := by
    have := List.perm_append_comm (l₁ := g3 l 0 :: Gk.popped l) (l₂ := [g3 l (l.length - 1)])
    simpa using this
  exact (List.perm_cons _).1 (h4.symm.trans h1)

def flat3 (t : T3) : List Value := [.int .i64 t.1, .int .i64 t.2.1, .int .i64 t.2.2]
theorem flat3_len (l : List T3) : (l.flatMap flat3).length = l.length * 3 := by
  induction l with
  | nil => rfl
  | cons a r ih => simp [flat3, ih]; omega
theorem flat3_at : ∀ (l : List T3) (i : Nat) (_ : i < l.length), (l.flatMap flat3)[i * 3]? = some (.int .i64 (g3 l i).1) ∧ (l.flatMap flat3)[i * 3 + 1]? = some (.int .i64 (g3 l i).2.1) ∧ (l.flatMap flat3)[i * 3 + 2]? = some (.int .i64 (g3 l i).2.2)
  | a :: r, 0, _ => ⟨rfl, rfl, rfl⟩
  | a :: r, i + 1, h => by
    have := flat3_at r i (by simpa using h)
    have e : ∀ j, ((a :: r).flatMap flat3)[(i + 1) * 3 + j]? = (r.flatMap flat3)[i * 3 + j]? := fun j => by
      rw [show (i + 1) * 3 + j = (i * 3 + j) + 3 by omega]
      simp [flat3]
    have eg : g3 (a :: r) (i + 1) = g3 r i := by simp [g3]
    rw [eg]
    exact ⟨(e 0).trans this.1, (e 1).trans this.2.1, (e 2).trans this.2.2⟩
theorem flat3_one1 (t : T3) : ∀ u ∈ flat3 t, u.oneCell' = true := fun u hu => by
  simp [flat3] at hu
  rcases hu with rfl | rfl | rfl <;> rfl

theorem lt3_t {x y : T3} (h : x.1 < y.1) : (!decide (le3 y x)) = true := by
  have : ¬ le3 y x := by unfold le3; omega
  simp [this]
theorem lt3_f {x y : T3} (h : y.1 < x.1) : (!decide (le3 y x)) = false := by
  have : le3 y x := by unfold le3; omega
  simp [this]
theorem lt3_e {x y : T3} (h : x.1 = y.1) : decide (x.2.2 < y.2.2) = (!decide (le3 y x)) := by
  by_cases hw : x.2.2 < y.2.2
  · have : ¬ le3 y x := by unfold le3; omega
    simp [this, hw]
  · have : le3 y x := by unfold le3; omega
    simp [this, hw]

end Go.Gk
