/-
  Plain theorems over whatever program: owned rows and maps under 'Tch'; append from whatever source; cut rows. No program in sight.
-/
import Derived.Test.YtnknemepfjfcfaaGk
import Derived.WalkKit
import Derived.Maps.OwnSet
import Derived.Maps.Ext
import Derived.Deep.AppendLies
import Derived.Maps.AppendAt
namespace Go.Gk
open Go Go.RowKit

section
variable {F : Nat → Prop} {w w' : World} {base : Nat} {e : TypeId} {size : Nat} {v : Value} {n : Nat} {xs : List Value}

theorem own_lt (h : w.ownsRow base e size v n xs) {g : Nat} (hg : v.ownBlock = some g) : g < w.heap.size := (h.lt g hg).2

theorem Tch.own (t : Tch F w w') (h : w.ownsRow base e size v n xs) (hn : ∀ g, v.ownBlock = some g → ¬ F g) : w'.ownsRow base e size v n xs := by
  refine ⟨h.1, ?_⟩
  rcases h.2 with hn' | ⟨g, cap, cur, rfl, hb, hgg, rest⟩
  · exact .inl hn'
  · exact .inr ⟨g, cap, cur, rfl, hb, (t.block g (Array.getElem?_eq_some_iff.1 hgg).1 (hn g rfl)).trans hgg, rest⟩

theorem own_base (h : w.ownsRow base e size v n xs) : w.ownsRow 0 e size v n xs := by
  refine ⟨h.1, ?_⟩
  rcases h.2 with hn' | ⟨g, cap, cur, hv, hb, r⟩
  · exact .inl hn'
  · exact .inr ⟨g, cap, cur, hv, Nat.zero_le _, r⟩

theorem own_form (h : w.ownsRow base e size v n xs) : ∃ A c, v = .slice A n c ∧ n ≤ c ∧ c ≤ maxLen ∧ (A = none ∨ ∃ g, A = some ⟨g, 0, none⟩) := by
  rcases h.2 with ⟨hv, hn⟩ | ⟨g, cap, cur, hv, _, _, h1, h2, _⟩
  · subst hn; exact ⟨none, 0, hv, Nat.le_refl _, Nat.zero_le _, .inl rfl⟩
  · exact ⟨_, cap, hv, h1, h2, .inr ⟨g, rfl⟩⟩

/-- A cell of an owned row. -/
theorem own_cell (h : w.ownsRow base e size v n xs) {g : Nat} (hg : v.ownBlock = some g) {j : Nat} {u : Value} (hu : xs[j]? = some u) : w.cell? ⟨g, j, none⟩ = some u := by
  have := h.cells hg j u hu
  rwa [Addr.add_lit, Nat.zero_add] at this

theorem own_block (h : w.ownsRow base e size v n xs) (hn : 0 < n) : ∃ g c, v = .slice (some ⟨g, 0, none⟩) n c := by
  rcases h.2 with ⟨_, h0⟩ | ⟨g, cap, cur, hv, _⟩
  · omega
  · exact ⟨g, cap, hv⟩

theorem own_head {A : Option Addr} {c : Nat} (h : w.ownsRow base e size (.slice A n c) n xs) (hn : 0 < n) : ∃ g, A = some ⟨g, 0, none⟩ := by
  obtain ⟨g, cc, hv⟩ := own_block h hn
  injection hv with e1
  exact ⟨g, e1⟩

theorem within_cell {W : World} {a : Addr} {u : Value} (h : W.cell? a = some u) (hn : ¬ F a.block) : ∀ b L (p : Within (Tch F) W.drew b L), p.w.cell? a = some u := fun _ _ p => p.hr.cell_some (by exact h) hn

/-- A row cut at its end. -/
theorem own_take {A : Option Addr} {c : Nat} (h : w.ownsRow base e size (.slice A n c) n xs) {k : Nat} (hk : k ≤ n) : w.ownsRow base e size (.slice A k c) k (xs.take (k * size)) := by
  obtain ⟨h1, h2⟩ := h
  have hle : k * size ≤ n * size := Nat.mul_le_mul_right _ hk
  refine ⟨by rw [List.length_take, h1]; omega, ?_⟩
  rcases h2 with ⟨hv, hn⟩ | ⟨g, cap, cur, hv, hb, hg, hnc, hcm, hcs, ht⟩
  · injection hv with e1 e2 e3
    subst e1 e3 hn
    have : k = 0 := by omega
    subst this
    exact .inl ⟨rfl, rfl⟩
  · injection hv with e1 e2 e3
    subst e1 e3
    exact .inr ⟨g, c, cur, rfl, hb, hg, by omega, hcm, hcs, by rw [← ht, List.take_take]; congr 1; omega⟩

theorem Tch.owns {H : Type} {P : Program} {k : TypeId} {R : Value → Option (DataW H × List MemPlace)} {b n : Nat} {D : DataW H} (t : Tch F w w') (h : w.ownsMap P k R b n D) (hn : ¬ F b) : w'.ownsMap P k R b n D := by
  have hlt := h.lt
  obtain ⟨es, clock, hb, r⟩ := h
  exact ⟨es, clock, (t.block b hlt hn).trans hb, r⟩

/-- The bound of an owned map is how many keys it has. -/
theorem owns_size {H : Type} {P : Program} {k : TypeId} {R : Value → Option (DataW H × List MemPlace)} {b n : Nat} {D : DataW H} (h : w.ownsMap P k R b n D) : w.ownsMap P k R b (Maps.size D) D := by
  obtain ⟨es, clock, hb, F, _, rfl⟩ := h
  exact ⟨es, clock, hb, F, by simp [Maps.size, length_sorted], rfl⟩

theorem Tch.of_turned {b : Nat} (h : w.mapTurned w' b) (hF : F b) : Tch F w w' := Tch.grown h.grown (fun k hk => by cases hk; exact .inl hF)

/-- A block known whole. -/
def Blk (w : World) (g : Nat) (t : TypeId) (cs : Array Value) : Prop := w.heap[g]? = some (.cells cs t (0, 0))
theorem Blk.lt {g : Nat} {t : TypeId} {cs : Array Value} (h : Blk w g t cs) : g < w.heap.size := (Array.getElem?_eq_some_iff.1 h).1
theorem Blk.cell {g : Nat} {t : TypeId} {cs : Array Value} (h : Blk w g t cs) (i : Nat) : w.cell? ⟨g, i, none⟩ = cs[i]? := cell_of_row w g i cs t (0, 0) h
theorem Blk.frozen {g : Nat} {t : TypeId} {cs : Array Value} (h : Blk w g t cs) (i : Nat) : w.frozen? ⟨g, i, none⟩ = false := by unfold Blk at h; simp [World.frozen?, h]
theorem Blk.new (w : World) (t : TypeId) (cs : Array Value) : Blk (w.alloc (.cells cs t)) w.heap.size t cs := heap_alloc_new w _
theorem Blk.keep {g : Nat} {t : TypeId} {cs : Array Value} (h : Blk w g t cs) (k : Tch F w w') (hn : ¬ F g) : Blk w' g t cs := (k.block g h.lt hn).trans h
theorem Blk.alloc {g : Nat} {t : TypeId} {cs : Array Value} (h : Blk w g t cs) (o : Obj) : Blk (w.alloc o) g t cs := (Below.heap_alloc w o g h.lt).trans h
theorem Blk.set_ {g : Nat} {t : TypeId} {cs : Array Value} (h : Blk w g t cs) (i : Nat) (u : Value) : Blk (w.setCell ⟨g, i, none⟩ u) g t (cs.setIfInBounds i u) := by
  unfold Blk at h ⊢
  simp [World.setCell, Array.getElem?_modify, h]
theorem Blk.far {g : Nat} {t : TypeId} {cs : Array Value} (h : Blk w g t cs) {p : Addr} (hp : g ≠ p.block) (u : Value) : Blk (w.setCell p u) g t cs := (Below.heap_setCell w p u g hp).trans h

end

/-- A slice type's row of the program's tables. -/
structure RowTy (P : Program) (t e : TypeId) (z : Value) (size bytes : Nat) : Prop where
  und : P.underlying t = some (.slice e)
  info : (P.info? e).map (fun i => (i.zero, i.size, i.bytes)) = some (some z, size, bytes)
  cells : z.cells.size = size
  pos : 0 < size

/-- What a slice value reads as, cell by cell; nil let in. -/
structure Src (w : World) (ao : Option Addr) (m c size : Nat) (news : List Value) : Prop where
  len : news.length = m * size
  nil : ao = none → m = 0 ∧ c = 0
  cell : ∀ a, ao = some a → ∀ j u, news[j]? = some u → w.cell? (a.add j) = some u

theorem Src.keep {w w' : World} {F : Nat → Prop} {ao : Option Addr} {m c size : Nat} {news : List Value} (h : Src w ao m c size news) (t : Tch F w w') (hn : ∀ a, ao = some a → ¬ F a.block) : Src w' ao m c size news :=
  ⟨h.len, h.nil, fun a ha j u hu => by
    have := h.cell a ha j u hu
    refine t.cell_some this ?_
    have hb : (a.add j).block = a.block := by unfold Addr.add; split <;> rfl
    rw [hb]; exact hn a ha⟩

theorem Src.own {w : World} {base : Nat} {e : TypeId} {size n c : Nat} {A : Option Addr} {xs : List Value} (h : w.ownsRow base e size (.slice A n c) n xs) : Src w A n c size xs := by
  refine ⟨h.1, fun ha => ?_, fun a ha j u hu => ?_⟩
  · rcases h.2 with ⟨hv, hn⟩ | ⟨g, cap, cur, hv, _⟩
    · injection hv with e1 e2 e3; exact ⟨hn, e3⟩
    · injection hv with e1; rw [ha] at e1; cases e1
  · subst ha
    rcases h.2 with ⟨hv, hn⟩ | ⟨g, cap, cur, hv, _⟩
    · injection hv with e1; cases e1
    · have hh := hv
      injection hv with e1
      injection e1 with e1
      subst e1
      exact h.cells (g := g) rfl j u hu

/-- A new block of one element's cells. -/
theorem Src.one {w : World} {g : Nat} {size : Nat} {news : List Value} (hl : news.length = size) (h : ∀ j u, news[j]? = some u → w.cell? ⟨g, j, none⟩ = some u) : Src w (some ⟨g, 0, none⟩) 1 1 size news :=
  ⟨by omega, (fun h => by cases h), fun a ha j u hu => by
    obtain rfl := Option.some.inj ha
    rw [Addr.add_lit, Nat.zero_add]
    exact h j u hu⟩

section
variable {P : Program} (w : World)

/-- append onto an owned row, from whatever source. -/
theorem run_append {t e : TypeId} {z : Value} {size bytes : Nat} (T : RowTy P t e z size bytes) (ty : TypeId) {v : Value} {n : Nat} {xs : List Value} (hown : w.ownsRow 0 e size v n xs)
    {ao : Option Addr} {m c : Nat} {news : List Value} (hs : Src w ao m c size news) (h1 : ∀ u ∈ news, u.oneCell' = true)
    (h63 : n + m ≤ maxLen) (hbytes : (n + m) * bytes ≤ 140737488355328) :
    ∃ v' w', (Builtin.append_ #[t, t] ty #[v, .slice ao m c]).run P w = .ok v' w' ∧ w'.ownsRow 0 e size v' (n + m) (xs ++ news) ∧ w.grownBy w' v.ownBlock ∧ (∀ g, v'.ownBlock = some g → v.ownBlock = some g ∨ w.heap.size ≤ g) := by
  obtain ⟨i, hi, hz, hsize, hby⟩ := info_parts T.info
  cases ao with
  | none =>
    obtain ⟨rfl, rfl⟩ := hs.nil rfl
    have hn : news = [] := List.eq_nil_of_length_eq_zero (by simpa using hs.len)
    subst hn
    exact ⟨v, w, run_append_owned_none (P := P) w 0 t ty e i size T.und hi v n xs hown, by simpa using hown, World.grownBy.refl _ _, fun g hg => .inl hg⟩
  | some a =>
    obtain ⟨v', w', hr, h2, h3, _, h5⟩ := run_append_own_at (P := P) w 0 t ty e i z size bytes T.und hi hz hsize hby T.cells T.pos v n xs hown a m c news hs.len (hs.cell a rfl) h1 h63 hbytes (Nat.zero_le _)
    refine ⟨v', w', hr, h2, h3, fun g hg => ?_⟩
    rcases h5 with h5 | h5
    · exact .inl (h5 ▸ hg)
    · rw [h5] at hg; cases hg; exact .inr (Nat.le_refl _)

theorem wpList_append {ops : Array Oper} {rest : List Oper} {o : Oper} {a : Act} {Q : Exit → Act → World → Prop} (hgd : o.guard = none) (s x : Operand) (t : TypeId)
    (ho : o.op = .call { callee := .builtin .append, args := #[s, x], argTypes := #[t, t] })
    {e : TypeId} {z : Value} {size bytes : Nat} (T : RowTy P t e z size bytes) {v : Value} {n : Nat} {xs : List Value} (hown : w.ownsRow 0 e size v n xs) (hv : a.eval s = v)
    {ao : Option Addr} {m c : Nat} {news : List Value} (hs : Src w ao m c size news) (hx : a.eval x = .slice ao m c) (h1 : ∀ u ∈ news, u.oneCell' = true)
    (h63 : n + m ≤ maxLen) (hbytes : (n + m) * bytes ≤ 140737488355328)
    (h : ∀ v' w', w'.ownsRow 0 e size v' (n + m) (xs ++ news) → w.grownBy w' v.ownBlock → (∀ g, v'.ownBlock = some g → v.ownBlock = some g ∨ w.heap.size ≤ g) → wpList P ops Q rest (a.put o.dst v') w') : wpList P ops Q (o :: rest) a w :=
  wpList_plain hgd fun K hK => by
    obtain ⟨v', w', hr, h2, h3, h4⟩ := run_append w T o.type hown hs h1 h63 hbytes
    unfold Oper.wp execOp
    simp only [ho, resolve, invoke, builtin, Sem.run_bind, Sem.run_pure, Result.andThen_ok, List.map_toArray, List.map_cons, List.map_nil, hv, hx, hr]
    exact hK _ _ (h v' w' h2 h3 h4)

end

end Go.Gk
