/-
  Plain: slices that are only read, wherever in their block they begin; pieces of them. No program in sight.
-/
import Derived.Test.YtnknemepfjfcfaaGl
import Derived.Deep.MidRow
namespace Go.Gk
open Go.RowKit

/-- A slice whose cells, from its first on, are cs. -/
def Row (P : Nat → Prop) (w : World) (v : Value) (n size : Nat) (cs : List Value) : Prop :=
  ∃ A c, v = .slice A n c ∧ n ≤ c ∧ c ≤ maxLen ∧ cs.length = n * size ∧ (A = none → n = 0 ∧ c = 0) ∧ (0 < n → ∃ g o, A = some ⟨g, o, none⟩ ∧ (P g ∧ g < w.heap.size) ∧ ∀ (j : Nat) (u : Value), cs[j]? = some u → w.cell? ⟨g, o + j, none⟩ = some u)

section
variable {P P' : Nat → Prop} {F : Nat → Prop} {w w' : World} {v : Value} {n size : Nat} {cs : List Value}
theorem Row.nil (P : Nat → Prop) (w : World) (size : Nat) : Row P w (.slice none 0 0) 0 size [] := ⟨none, 0, rfl, Nat.le_refl _, Nat.zero_le _, by simp, fun _ => ⟨rfl, rfl⟩, fun h => absurd h (by omega)⟩
theorem Row.keepTo (h : Row P w v n size cs) (t : Tch F w w') (hP : ∀ g, g < w.heap.size → P g → ¬ F g ∧ P' g) : Row P' w' v n size cs := by
  obtain ⟨A, c, rfl, h1, h2, h3, h4, h5⟩ := h
  refine ⟨A, c, rfl, h1, h2, h3, h4, fun hn => ?_⟩
  obtain ⟨g, o, ha, h7, h6⟩ := h5 hn
  have hg := hP g h7.2 h7.1
  exact ⟨g, o, ha, ⟨hg.2, Nat.lt_of_lt_of_le h7.2 t.size⟩, fun j u hu => t.cell_some (h6 j u hu) hg.1⟩
theorem Row.keep (h : Row P w v n size cs) (t : Tch (fun _ => False) w w') : Row P w' v n size cs := h.keepTo t fun _ _ h => ⟨id, h⟩
theorem Row.weak (h : Row P w v n size cs) (hP : ∀ g, P g → P' g) : Row P' w v n size cs := h.keepTo (Tch.refl (fun _ => False) w) fun g _ h => ⟨id, hP g h⟩
theorem Row.own {base : Nat} {e : TypeId} {xs : List Value} (h : w.ownsRow base e size v n xs) (hP : ∀ g, v.ownBlock = some g → P g) : Row P w v n size xs := by
  obtain ⟨A, c, rfl, h1, h2, h3⟩ := own_form h
  have hs := Src.own h
  refine ⟨A, c, rfl, h1, h2, h.1, hs.nil, fun hn => ?_⟩
  obtain ⟨g, rfl⟩ := own_head h hn
  exact ⟨g, 0, rfl, ⟨hP g rfl, own_lt h rfl⟩, fun j u hu => by rw [Nat.zero_add]; exact own_cell h (g := g) rfl hu⟩
theorem Row.form (h : Row P w v n size cs) : ∃ A c, v = .slice A n c ∧ n ≤ c ∧ c ≤ 9223372036854775807 := let ⟨A, c, e, h1, h2, _⟩ := h; ⟨A, c, e, h1, by unfold maxLen at h2; exact h2⟩
theorem Row.len (h : Row P w v n size cs) : cs.length = n * size := let ⟨_, _, _, _, _, h, _⟩ := h; h
theorem Row.src {A : Option Addr} {c : Nat} (h : Row P w (.slice A n c) n size cs) : Src w A n c size cs := by
  obtain ⟨A', c', e, h1, h2, h3, h4, h5⟩ := h
  injection e with e1 e2 e3
  subst e1 e3
  refine ⟨h3, h4, fun a ha j u hu => ?_⟩
  have hn : 0 < n := by
    have := (List.getElem?_eq_some_iff.1 hu).1
    rcases Nat.eq_zero_or_pos n with h0 | h0
    · rw [h0, Nat.zero_mul] at h3; omega
    · exact h0
  obtain ⟨g, o, ha', _, h6⟩ := h5 hn
  rw [ha] at ha'
  obtain rfl := Option.some.inj ha'
  rw [Addr.add_mid]
  exact h6 j u hu
theorem Row.head {A : Option Addr} {c : Nat} (h : Row P w (.slice A n c) n size cs) (hn : 0 < n) : ∃ g o, A = some ⟨g, o, none⟩ := by
  obtain ⟨A', c', e, h1, h2, h3, h4, h5⟩ := h
  injection e with e1 e2 e3
  subst e1 e3
  obtain ⟨g, o, ha, _⟩ := h5 hn
  exact ⟨g, o, ha⟩
theorem Row.at {g o c : Nat} (h : Row P w (.slice (some ⟨g, o, none⟩) n c) n size cs) {j : Nat} {u : Value} (hu : cs[j]? = some u) : w.cell? ⟨g, o + j, none⟩ = some u := by
  have := h.src.cell _ rfl j u hu
  rwa [Addr.add_mid] at this
theorem Row.block {g o c : Nat} (h : Row P w (.slice (some ⟨g, o, none⟩) n c) n size cs) (hn : 0 < n) : P g ∧ g < w.heap.size := by
  obtain ⟨A', c', e, h1, h2, h3, h4, h5⟩ := h
  injection e with e1 e2 e3
  subst e1 e3
  obtain ⟨g', o', ha, h7, _⟩ := h5 hn
  cases ha
  exact h7

/-- A piece. -/
theorem Row.cut {A : Option Addr} {c : Nat} (h : Row P w (.slice A n c) n size cs) {lo hi : Nat} (h1 : lo ≤ hi) (h2 : hi ≤ n) : Row P w (sliced A lo hi c size) (hi - lo) size ((cs.drop (lo * size)).take ((hi - lo) * size)) := by
  obtain ⟨A', c', e, g1, g2, g3, g4, g5⟩ := h
  injection e with e1 e2 e3
  subst e1 e3
  have hm : hi * size ≤ n * size := Nat.mul_le_mul_right _ h2
  have hm2 : lo * size ≤ hi * size := Nat.mul_le_mul_right _ h1
  have hs : (hi - lo) * size = hi * size - lo * size := Nat.sub_mul _ _ _
  refine ⟨_, c - lo, rfl, by omega, by omega, ?_, fun ha => ?_, fun hn => ?_⟩
  · rw [List.length_take, List.length_drop, g3]; omega
  · cases A with
    | none => have := g4 rfl; omega
    | some a => split at ha <;> cases ha
  · obtain ⟨g, o, rfl, h7, h6⟩ := g5 (by omega)
    refine ⟨g, o + lo * size, ?_, h7, fun j u hu => ?_⟩
    · rw [if_neg (by omega), Option.map_some, Addr.add_mid]
    · rw [List.getElem?_take] at hu
      split at hu
      · rw [List.getElem?_drop] at hu
        rw [Nat.add_assoc]
        exact h6 _ u hu
      · cases hu
end

theorem own_at {g n c k : Nat} (h : (Value.slice (some ⟨g, 0, none⟩) n c).ownBlock = some k) : g = k := Option.some.inj h
theorem sliced_zero (A : Option Addr) (k c size : Nat) : sliced A 0 k c size = .slice A k c := by
  cases A <;> simp [sliced, Addr.add]

theorem Blk.new2 (w : World) (o : Obj) (t : TypeId) (cs : Array Value) : Blk ((w.alloc o).alloc (.cells cs t)) (w.heap.size + 1) t cs := by
  simpa using Blk.new (w.alloc o) t cs

/-- A new row without elements, with room for some. -/
theorem own_made (w : World) (e : TypeId) (size c : Nat) (cells : Array Value) (hc : c ≤ maxLen) (hs : cells.size = c * size) : (w.alloc (.cells cells e)).ownsRow w.heap.size e size (.slice (some ⟨w.heap.size, 0, none⟩) 0 c) 0 [] :=
  ⟨by simp, .inr ⟨w.heap.size, c, cells, rfl, Nat.le_refl _, Blk.new w e cells, Nat.zero_le _, hc, hs, by simp⟩⟩

/-- A row that is a whole block. -/
theorem Row.blk {B : Nat → Prop} {w : World} {g : Nat} {t : TypeId} {cs : Array Value} (h : Blk w g t cs) (hB : B g) {n size : Nat} (hl : cs.size = n * size) (hn : n ≤ maxLen) : Row B w (.slice (some ⟨g, 0, none⟩) n n) n size cs.toList :=
  ⟨_, n, rfl, Nat.le_refl _, hn, by simpa using hl, (fun h => by cases h), fun _ => ⟨g, 0, rfl, ⟨hB, h.lt⟩, fun j u hu => by rw [Nat.zero_add, h.cell j, ← hu]; simp⟩⟩

/-- A piece from the first on. -/
theorem Row.take {P : Nat → Prop} {w : World} {n size : Nat} {cs : List Value} {A : Option Addr} {c : Nat} (h : Row P w (.slice A n c) n size cs) {k : Nat} (hk : k ≤ n) : Row P w (.slice A k c) k size (cs.take (k * size)) := by
  obtain ⟨A', c', e, h1, h2, h3, h4, h5⟩ := h
  injection e with e1 e2 e3
  subst e1 e3
  have hm : k * size ≤ n * size := Nat.mul_le_mul_right _ hk
  refine ⟨A, c, rfl, by omega, h2, by rw [List.length_take]; omega, fun ha => ⟨by have := (h4 ha).1; omega, (h4 ha).2⟩, fun hn => ?_⟩
  obtain ⟨g, o, ha, h7, h6⟩ := h5 (by omega)
  refine ⟨g, o, ha, h7, fun j u hu => h6 j u ?_⟩
  rw [List.getElem?_take] at hu
  split at hu
  · exact hu
  · cases hu

/-- Elements of some cells each, one behind the other. -/
theorem flat_len {α : Type} {f : α → List Value} {size : Nat} (hf : ∀ a, (f a).length = size) (l : List α) : (l.flatMap f).length = l.length * size := by
  induction l with
  | nil => simp
  | cons a r ih => simp [ih, hf, Nat.add_mul]; omega
theorem flat_at {α : Type} {f : α → List Value} {size : Nat} (hf : ∀ a, (f a).length = size) : ∀ (l : List α) (i : Nat) (h : i < l.length) (j : Nat), j < size → (l.flatMap f)[i * size + j]? = (f l[i])[j]?
  | a :: r, 0, _, j, hj => by simp [List.getElem?_append_left, hf, hj]
  | a :: r, i + 1, h, j, hj => by
    have := flat_at hf r i (by simpa using h) j hj
    simp only [List.flatMap_cons, List.getElem_cons_succ]
    rw [List.getElem?_append_right (by rw [hf, Nat.add_mul]; omega), hf, ← this]
    congr 1
    rw [Nat.add_mul]; omega
theorem flat_cut {α : Type} {f : α → List Value} {size : Nat} (hf : ∀ a, (f a).length = size) (l : List α) (lo k : Nat) : ((l.flatMap f).drop (lo * size)).take (k * size) = ((l.drop lo).take k).flatMap f := by
  have ht : ∀ (l : List α) (k : Nat), (l.flatMap f).take (k * size) = (l.take k).flatMap f := fun l => by
    induction l with
    | nil => simp
    | cons a r ih =>
      intro k
      cases k with
      | zero => simp
      | succ k =>
        rw [List.flatMap_cons, List.take_succ_cons, List.flatMap_cons, List.take_append, hf, List.take_of_length_le (by rw [hf, Nat.add_mul]; omega)]
        rw [show (k + 1) * size - size = k * size by rw [Nat.add_mul]; omega, ih]
  have hd : ∀ (l : List α) (k : Nat), (l.flatMap f).drop (k * size) = (l.drop k).flatMap f := fun l => by
    induction l with
    | nil => simp
    | cons a r ih =>
      intro k
      cases k with
      | zero => simp
      | succ k =>
        rw [List.flatMap_cons, List.drop_succ_cons, List.drop_append, hf, List.drop_eq_nil_of_le (by rw [hf, Nat.add_mul]; omega)]
        rw [show (k + 1) * size - size = k * size by rw [Nat.add_mul]; omega, ih, List.nil_append]
  rw [hd, ht]

section
variable {P : Program} {w : World} {B : Nat → Prop}
theorem Row.cuts {α : Type} {f : α → List Value} {size : Nat} (hf : ∀ a, (f a).length = size) {A : Option Addr} {n c : Nat} {l : List α} (h : Row B w (.slice A n c) n size (l.flatMap f)) {lo hi : Nat} (h1 : lo ≤ hi) (h2 : hi ≤ n) : Row B w (sliced A lo hi c size) (hi - lo) size (((l.drop lo).take (hi - lo)).flatMap f) := by
  have := h.cut h1 h2
  rwa [flat_cut hf] at this

theorem Row.takes {α : Type} {f : α → List Value} {size : Nat} (hf : ∀ a, (f a).length = size) {A : Option Addr} {n c : Nat} {l : List α} (h : Row B w (.slice A n c) n size (l.flatMap f)) {k : Nat} (hk : k ≤ n) : Row B w (.slice A k c) k size ((l.take k).flatMap f) := by
  have := h.take hk
  have e := flat_cut hf l 0 k
  rw [Nat.zero_mul, List.drop_zero, List.drop_zero] at e
  rwa [e] at this

theorem sizeOf_run {e : TypeId} {size : Nat} (hi : (P.info? e).map (·.size) = some size) (w : World) : (sizeOf e).run P w = .ok size w := by
  cases hq : P.info? e with
  | none => simp [hq] at hi
  | some i =>
    have hs : i.size = size := by simpa [hq] using hi
    simp [sizeOf, typeInfo, hq, hs]

theorem elem_of {t e : TypeId} (h : P.underlying t = some (.slice e)) : P.elem t = e := by simp [Program.elem, h]

/-- 'x[:k]', 'x[k:]', 'x[i:k]': what they come to. -/
theorem run_cut_h {t e : TypeId} {size : Nat} (hu : P.underlying t = some (.slice e)) (hi : (P.info? e).map (·.size) = some size) (w : World) (A : Option Addr) (n c k : Nat) (hk : k ≤ c) :
    (Instr.sliceAt t (.slice A n c) none (some (.int .i64 k)) none).run P w = .ok (sliced A 0 k c size) w := by
  have ht : P.underlying t = some (.slice (P.elem t)) := by rw [elem_of hu]; exact hu
  rw [run_sliceAt_slice w t _ _ _ _ ht, run_slice_h w t A n c ht .i64 k (by omega) (by omega), elem_of hu, sizeOf_run hi]
  simp [Result.andThen]
theorem run_cut_l {t e : TypeId} {size : Nat} (hu : P.underlying t = some (.slice e)) (hi : (P.info? e).map (·.size) = some size) (w : World) (A : Option Addr) (n c k : Nat) (hk : k ≤ n) :
    (Instr.sliceAt t (.slice A n c) (some (.int .i64 k)) none none).run P w = .ok (sliced A k n c size) w := by
  have ht : P.underlying t = some (.slice (P.elem t)) := by rw [elem_of hu]; exact hu
  rw [run_sliceAt_slice w t _ _ _ _ ht, run_slice_l w t A n c ht .i64 k (by omega) (by omega), elem_of hu, sizeOf_run hi]
  simp [Result.andThen]

theorem wpList_cut_h {ops : Array Oper} {rest : List Oper} {o : Oper} {a : Act} {Q : Exit → Act → World → Prop} (hgd : o.guard = none) (t : TypeId) (x hi : Operand) (ho : o.op = .slice t x none (some hi) none)
    {e : TypeId} {size : Nat} (hu : P.underlying t = some (.slice e)) (hs : (P.info? e).map (·.size) = some size) {A : Option Addr} {n c : Nat} (hx : a.eval x = .slice A n c) {k : Nat} (hk : a.eval hi = .int .i64 k) (hkc : k ≤ c)
    (h : wpList P ops Q rest (a.put o.dst (sliced A 0 k c size)) w) : wpList P ops Q (o :: rest) a w :=
  wpList_plain hgd fun K hK => by
    unfold Oper.wp execOp
    simp only [ho, hx, hk, Option.map_none, Option.map_some, Sem.run_bind, run_cut_h hu hs w A n c k hkc, Result.andThen_ok, Sem.run_pure]
    exact hK _ _ h
theorem wpList_cut_l {ops : Array Oper} {rest : List Oper} {o : Oper} {a : Act} {Q : Exit → Act → World → Prop} (hgd : o.guard = none) (t : TypeId) (x lo : Operand) (ho : o.op = .slice t x (some lo) none none)
    {e : TypeId} {size : Nat} (hu : P.underlying t = some (.slice e)) (hs : (P.info? e).map (·.size) = some size) {A : Option Addr} {n c : Nat} (hx : a.eval x = .slice A n c) {k : Nat} (hk : a.eval lo = .int .i64 k) (hkn : k ≤ n)
    (h : wpList P ops Q rest (a.put o.dst (sliced A k n c size)) w) : wpList P ops Q (o :: rest) a w :=
  wpList_plain hgd fun K hK => by
    unfold Oper.wp execOp
    simp only [ho, hx, hk, Option.map_none, Option.map_some, Sem.run_bind, run_cut_l hu hs w A n c k hkn, Result.andThen_ok, Sem.run_pure]
    exact hK _ _ h
theorem yields_cut_h {o : Oper} {a : Act} (t : TypeId) (x hi : Operand) (ho : o.op = .slice t x none (some hi) none)
    {e : TypeId} {size : Nat} (hu : P.underlying t = some (.slice e)) (hs : (P.info? e).map (·.size) = some size) {A : Option Addr} {n c : Nat} (hx : a.eval x = .slice A n c) {k : Nat} (hk : a.eval hi = .int .i64 k) (hkc : k ≤ c)
    {S : Value → World → Prop} (h : S (sliced A 0 k c size) w) : yields P o a w S := by
  unfold yields execOp
  simp only [ho, hx, hk, Option.map_none, Option.map_some, Sem.run_bind, run_cut_h hu hs w A n c k hkc, Result.andThen_ok, Sem.run_pure]
  exact h
theorem yields_cut_l {o : Oper} {a : Act} (t : TypeId) (x lo : Operand) (ho : o.op = .slice t x (some lo) none none)
    {e : TypeId} {size : Nat} (hu : P.underlying t = some (.slice e)) (hs : (P.info? e).map (·.size) = some size) {A : Option Addr} {n c : Nat} (hx : a.eval x = .slice A n c) {k : Nat} (hk : a.eval lo = .int .i64 k) (hkn : k ≤ n)
    {S : Value → World → Prop} (h : S (sliced A k n c size) w) : yields P o a w S := by
  unfold yields execOp
  simp only [ho, hx, hk, Option.map_none, Option.map_some, Sem.run_bind, run_cut_l hu hs w A n c k hkn, Result.andThen_ok, Sem.run_pure]
  exact h
/-- 'append' as a step of a head. -/
theorem yields_append {o : Oper} {a : Act} (s x : Operand) (t : TypeId) (ho : o.op = .call { callee := .builtin .append, args := #[s, x], argTypes := #[t, t] })
    {e : TypeId} {z : Value} {size bytes : Nat} (T : RowTy P t e z size bytes) {v : Value} {n : Nat} {xs : List Value} (hown : w.ownsRow 0 e size v n xs) (hv : a.eval s = v)
    {ao : Option Addr} {m c : Nat} {news : List Value} (hs : Src w ao m c size news) (hx : a.eval x = .slice ao m c) (h1 : ∀ u ∈ news, u.oneCell' = true)
    (h63 : n + m ≤ maxLen) (hbytes : (n + m) * bytes ≤ 140737488355328) {S : Value → World → Prop}
    (h : ∀ v' w', w'.ownsRow 0 e size v' (n + m) (xs ++ news) → w.grownBy w' v.ownBlock → (∀ g, v'.ownBlock = some g → v.ownBlock = some g ∨ w.heap.size ≤ g) → S v' w') : yields P o a w S := by
  obtain ⟨v', w', hr, h2, h3, h4⟩ := run_append w T o.type hown hs h1 h63 hbytes
  unfold yields execOp
  simp only [ho, resolve, invoke, builtin, Sem.run_bind, Sem.run_pure, Result.andThen_ok, List.map_toArray, List.map_cons, List.map_nil, hv, hx, hr]
  exact h v' w' h2 h3 h4
end
end Go.Gk
