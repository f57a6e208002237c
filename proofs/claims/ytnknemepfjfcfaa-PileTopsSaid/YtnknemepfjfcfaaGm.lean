/-
  Plain: rows that are only read; lists of pairs and lists of lists of pairs in them. No program in sight.
-/
import Derived.Test.YtnknemepfjfcfaaGl
import Derived.Test.YtnknemepfjfcfaaKv
namespace Go.Gk
open Go.RowKit

/-- A slice whose cells, from its block's first on, are cs. -/
def RoRow (P : Nat → Prop) (w : World) (v : Value) (n size : Nat) (cs : List Value) : Prop :=
  ∃ A c, v = .slice A n c ∧ n ≤ c ∧ c ≤ maxLen ∧ cs.length = n * size ∧ (A = none → n = 0 ∧ c = 0) ∧ ∀ a, A = some a → ∃ g, a = ⟨g, 0, none⟩ ∧ (P g ∧ g < w.heap.size) ∧ ∀ (j : Nat) (u : Value), cs[j]? = some u → w.cell? ⟨g, j, none⟩ = some u

section
variable {P P' : Nat → Prop}
theorem RoRow.nil (P : Nat → Prop) (w : World) (size : Nat) : RoRow P w (.slice none 0 0) 0 size [] := ⟨none, 0, rfl, Nat.le_refl _, Nat.zero_le _, by simp, fun _ => ⟨rfl, rfl⟩, fun a h => by cases h⟩
theorem RoRow.keepTo {F : Nat → Prop} {w w' : World} {v : Value} {n size : Nat} {cs : List Value} (h : RoRow P w v n size cs) (t : Tch F w w') (hP : ∀ g, g < w.heap.size → P g → ¬ F g ∧ P' g) : RoRow P' w' v n size cs := by
  obtain ⟨A, c, rfl, h1, h2, h3, h4, h5⟩ := h
  refine ⟨A, c, rfl, h1, h2, h3, h4, fun a ha => ?_⟩
  obtain ⟨g, rfl, h7, h6⟩ := h5 a ha
  have hg := hP g h7.2 h7.1
  exact ⟨g, rfl, ⟨hg.2, Nat.lt_of_lt_of_le h7.2 t.size⟩, fun j u hu => t.cell_some (h6 j u hu) hg.1⟩
theorem RoRow.keep {w w' : World} {v : Value} {n size : Nat} {cs : List Value} (h : RoRow P w v n size cs) (t : Tch (fun _ => False) w w') : RoRow P w' v n size cs := h.keepTo t fun _ _ h => ⟨id, h⟩
theorem RoRow.own {w : World} {base : Nat} {e : TypeId} {size n : Nat} {v : Value} {xs : List Value} (h : w.ownsRow base e size v n xs) (hP : ∀ g, v.ownBlock = some g → P g) : RoRow P w v n size xs := by
  obtain ⟨A, c, rfl, h1, h2, h3⟩ := own_form h
  have hs := Src.own h
  refine ⟨A, c, rfl, h1, h2, h.1, hs.nil, fun a ha => ?_⟩
  rcases h3 with h3 | ⟨g, h3⟩
  · rw [h3] at ha; cases ha
  · obtain rfl : (⟨g, 0, none⟩ : Addr) = a := Option.some.inj (h3.symm.trans ha)
    have ho : (Value.slice A n c).ownBlock = some g := by rw [ha]; rfl
    exact ⟨g, rfl, ⟨hP g ho, own_lt h ho⟩, fun j u hu => own_cell h (g := g) ho hu⟩
theorem RoRow.src {w : World} {A : Option Addr} {n c size : Nat} {cs : List Value} (h : RoRow P w (.slice A n c) n size cs) : Src w A n c size cs := by
  obtain ⟨A', c', e, h1, h2, h3, h4, h5⟩ := h
  injection e with e1 e2 e3
  subst e1 e3
  refine ⟨h3, h4, fun a ha j u hu => ?_⟩
  obtain ⟨g, rfl, _, h6⟩ := h5 a ha
  rw [Addr.add_lit, Nat.zero_add]
  exact h6 j u hu
theorem RoRow.cap {w : World} {A : Option Addr} {n c size : Nat} {cs : List Value} (h : RoRow P w (.slice A n c) n size cs) : n ≤ c ∧ c ≤ 9223372036854775807 := by
  obtain ⟨A', c', e, h1, h2, _⟩ := h
  injection e with e1 e2 e3
  subst e1 e3
  exact ⟨h1, by unfold maxLen at h2; exact h2⟩
theorem RoRow.form {w : World} {v : Value} {n size : Nat} {cs : List Value} (h : RoRow P w v n size cs) : ∃ A c, v = .slice A n c := let ⟨A, c, e, _⟩ := h; ⟨A, c, e⟩
theorem RoRow.head {w : World} {A : Option Addr} {n c size : Nat} {cs : List Value} (h : RoRow P w (.slice A n c) n size cs) (hn : 0 < n) : ∃ g, A = some ⟨g, 0, none⟩ := by
  obtain ⟨A', c', e, h1, h2, h3, h4, h5⟩ := h
  injection e with e1 e2 e3
  subst e1 e3
  cases A with
  | none => have := (h4 rfl).1; omega
  | some a => obtain ⟨g, rfl, _⟩ := h5 a rfl; exact ⟨g, rfl⟩
theorem RoRow.at {w : World} {g n c size : Nat} {cs : List Value} (h : RoRow P w (.slice (some ⟨g, 0, none⟩) n c) n size cs) {j : Nat} {u : Value} (hu : cs[j]? = some u) : w.cell? ⟨g, j, none⟩ = some u := by
  obtain ⟨A', c', e, h1, h2, h3, h4, h5⟩ := h
  injection e with e1 e2 e3
  subst e1 e3
  obtain ⟨g', hg, _, h6⟩ := h5 _ rfl
  cases hg
  exact h6 j u hu
theorem RoRow.take {w : World} {A : Option Addr} {n c size : Nat} {cs : List Value} (h : RoRow P w (.slice A n c) n size cs) {k : Nat} (hk : k ≤ n) : RoRow P w (.slice A k c) k size (cs.take (k * size)) := by
  obtain ⟨A', c', e, h1, h2, h3, h4, h5⟩ := h
  injection e with e1 e2 e3
  subst e1 e3
  refine ⟨A, c, rfl, by omega, h2, ?_, fun ha => ⟨by have := (h4 ha).1; omega, (h4 ha).2⟩, fun a ha => ?_⟩
  · rw [List.length_take, h3]; exact Nat.min_eq_left (Nat.mul_le_mul_right _ hk)
  · obtain ⟨g, rfl, h7, h6⟩ := h5 a ha
    refine ⟨g, rfl, h7, fun j u hu => h6 j u ?_⟩
    rw [List.getElem?_take] at hu
    split at hu
    · exact hu
    · cases hu
end

theorem own_rebase {w : World} {base : Nat} {e : TypeId} {size n : Nat} {v : Value} {xs : List Value} (h : w.ownsRow 0 e size v n xs) (hb : ∀ g, v.ownBlock = some g → base ≤ g) : w.ownsRow base e size v n xs := by
  refine ⟨h.1, ?_⟩
  rcases h.2 with h | ⟨g, cap, cur, rfl, _, h3⟩
  · exact .inl h
  · exact .inr ⟨g, cap, cur, rfl, hb g rfl, h3⟩

def flatP (p : Int × Int) : List Value := [.int .i64 p.1, .int .i64 p.2]
theorem flatP_len (l : KV) : (l.flatMap flatP).length = l.length * 2 := by
  induction l with
  | nil => rfl
  | cons a r ih => simp [flatP, ih]; omega
theorem flatP_at : ∀ (l : KV) (i : Nat) (h : i < l.length), (l.flatMap flatP)[i * 2]? = some (.int .i64 l[i].1) ∧ (l.flatMap flatP)[i * 2 + 1]? = some (.int .i64 l[i].2)
  | a :: r, 0, _ => ⟨rfl, rfl⟩
  | a :: r, i + 1, h => by
    have := flatP_at r i (by simpa using h)
    have e : ∀ j, ((a :: r).flatMap flatP)[(i + 1) * 2 + j]? = (r.flatMap flatP)[i * 2 + j]? := fun j => by
      rw [show (i + 1) * 2 + j = (i * 2 + j) + 2 by omega]
      simp [flatP]
    exact ⟨(e 0).trans this.1, (e 1).trans this.2⟩
theorem flatP_one1 (p : Int × Int) : ∀ u ∈ flatP p, u.oneCell' = true := fun u hu => by
  simp [flatP] at hu
  rcases hu with rfl | rfl <;> rfl

def Pairs (P : Nat → Prop) (w : World) (v : Value) (l : KV) : Prop := RoRow P w v l.length 2 (l.flatMap flatP) ∧ ∀ p ∈ l, wfi p.1 ∧ wfi p.2
section
variable {P P' : Nat → Prop} {F : Nat → Prop} {w w' : World}
theorem Pairs.keepTo {v : Value} {l : KV} (h : Pairs P w v l) (t : Tch F w w') (hP : ∀ g, g < w.heap.size → P g → ¬ F g ∧ P' g) : Pairs P' w' v l := ⟨h.1.keepTo t hP, h.2⟩
theorem Pairs.keep {v : Value} {l : KV} (h : Pairs P w v l) (t : Tch (fun _ => False) w w') : Pairs P w' v l := ⟨h.1.keep t, h.2⟩
theorem Pairs.nil (P : Nat → Prop) (w : World) : Pairs P w (.slice none 0 0) [] := ⟨RoRow.nil _ _ _, by simp⟩
end

/-- A slice of such slices. -/
def Stack (P : Nat → Prop) (w : World) (v : Value) (ls : List KV) : Prop := ∃ us : List Value, RoRow P w v ls.length 1 us ∧ ∀ (i : Nat) (u : Value) (l : KV), us[i]? = some u → ls[i]? = some l → Pairs P w u l
section
variable {P P' : Nat → Prop} {F : Nat → Prop} {w w' : World}
theorem Stack.keepTo {v : Value} {ls : List KV} (h : Stack P w v ls) (t : Tch F w w') (hP : ∀ g, g < w.heap.size → P g → ¬ F g ∧ P' g) : Stack P' w' v ls :=
  let ⟨us, h1, h2⟩ := h; ⟨us, h1.keepTo t hP, fun i u l hu hl => (h2 i u l hu hl).keepTo t hP⟩
theorem Stack.keep {v : Value} {ls : List KV} (h : Stack P w v ls) (t : Tch (fun _ => False) w w') : Stack P w' v ls := h.keepTo t fun _ _ h => ⟨id, h⟩
theorem Stack.nil (P : Nat → Prop) (w : World) : Stack P w (.slice none 0 0) [] := ⟨[], RoRow.nil _ _ _, fun i u l h => by simp at h⟩
end

theorem kget_none_of {l : KV} {k : Int} (h : ∀ (i : Nat) (hi : i < l.length), l[i].1 ≠ k) : kget l k = none := by
  induction l with
  | nil => rfl
  | cons p r ih =>
    obtain ⟨a, v⟩ := p
    have h0 := h 0 (by simp)
    simp only [List.getElem_cons_zero] at h0
    rw [kget, if_neg h0]
    exact ih fun i hi => by have := h (i + 1) (by simpa using hi); simpa using this
theorem kget_some_of : ∀ {l : KV} {k : Int} {i : Nat} (hi : i < l.length), (∀ (j : Nat) (hj : j < i), (l[j]'(by omega)).1 ≠ k) → l[i].1 = k → kget l k = some l[i].2
  | (a, v) :: r, k, 0, _, _, hk => by simp only [List.getElem_cons_zero] at hk ⊢; rw [kget, if_pos hk]
  | (a, v) :: r, k, i + 1, hi, h, hk => by
    have h0 := h 0 (by omega)
    simp only [List.getElem_cons_zero] at h0
    rw [kget, if_neg h0]
    simp only [List.getElem_cons_succ] at hk ⊢
    exact kget_some_of (by simpa using hi) (fun j hj => by have := h (j + 1) (by omega); simpa using this) hk
theorem kdel_append (l m : KV) (k : Int) : kdel (l ++ m) k = kdel l k ++ kdel m k := by
  induction l with
  | nil => rfl
  | cons p r ih => obtain ⟨a, v⟩ := p; simp only [List.cons_append, kdel]; split <;> simp [ih]
theorem kdel_take {l : KV} {k : Int} {i : Nat} (hi : i < l.length) : kdel (l.take (i + 1)) k = kdel (l.take i) k ++ (if l[i].1 = k then [] else [l[i]]) := by
  rw [List.take_add_one, List.getElem?_eq_getElem hi, kdel_append]
  rfl

/-- append at a step of a region that draws its order. -/
theorem step_append {P : Program} (w : World) {ops : Array Oper} {o : Oper} {a : Act} {K : Act → World → Prop} {Q : Exit → Act → World → Prop} {E : Prop} (hgd : o.guard = none) (s x : Operand) (t : TypeId)
    (ho : o.op = .call { callee := .builtin .append, args := #[s, x], argTypes := #[t, t] })
    {e : TypeId} {z : Value} {size bytes : Nat} (T : RowTy P t e z size bytes) {v : Value} {n : Nat} {xs : List Value} (hown : w.ownsRow 0 e size v n xs) (hv : a.eval s = v)
    {ao : Option Addr} {m c : Nat} {news : List Value} (hs : Src w ao m c size news) (hx : a.eval x = .slice ao m c) (h1 : ∀ u ∈ news, u.oneCell' = true)
    (h63 : n + m ≤ maxLen) (hbytes : (n + m) * bytes ≤ 140737488355328)
    (h : ∀ v' w', w'.ownsRow 0 e size v' (n + m) (xs ++ news) → w.grownBy w' v.ownBlock → (∀ g, v'.ownBlock = some g → v.ownBlock = some g ∨ w.heap.size ≤ g) → K (a.put o.dst v') w') :
    if Region.wanted o (yielded ops a.tmps) = true then Oper.wp P o a w K Q else E := by
  have hw : Region.wanted o (yielded ops a.tmps) = true := by simp [Region.wanted, hgd]
  rw [if_pos hw]
  obtain ⟨v', w', hr, h2, h3, h4⟩ := run_append w T o.type hown hs h1 h63 hbytes
  unfold Oper.wp execOp
  simp only [ho, resolve, invoke, builtin, Sem.run_bind, Sem.run_pure, Result.andThen_ok, List.map_toArray, List.map_cons, List.map_nil, hv, hx, hr]
  exact h v' w' h2 h3 h4

end Go.Gk
