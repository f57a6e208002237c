/-
  Plain: in an entity's own currency; all leaves' balances come to nothing. No program in sight.
-/
import Derived.Test.YtblenmelciaigaaGreatDoorTv
namespace Go.Gk.V32
open Go.RowKit

/-! ### All leaves' balances -/
theorem amts_cons (x : Pst) (t : List Pst) (s : Spot) : (amtsAt (x :: t) s 0).sum = (if pstSpot x = s then x.2.2.2.2 else 0) + (amtsAt t s 0).sum := by
  unfold amtsAt
  by_cases h : pstSpot x = s
  · rw [List.filter_cons_of_pos (by simp [h]), if_pos h]; simp
  · rw [List.filter_cons_of_neg (by simp [h]), if_neg h]; simp
theorem sum_one (v : Int) {a : Int} : ∀ {l : List Int}, l.Nodup → a ∈ l → (l.map fun x => if a = x then v else 0).sum = v
  | [], _, h => by cases h
  | x :: r, hn, h => by
    have h2 := List.nodup_cons.1 hn
    by_cases e : a = x
    · subst e
      have hz : ∀ l : List Int, a ∉ l → (l.map fun x => if a = x then v else 0).sum = 0 := by
        intro l
        induction l with
        | nil => intro _; rfl
        | cons y t ih =>
          intro hy
          simp only [List.mem_cons, not_or] at hy
          simp only [List.map_cons, List.sum_cons, if_neg hy.1, ih hy.2]
          rfl
      simp only [List.map_cons, List.sum_cons, if_true, hz r h2.1]
      omega
    · have ih := sum_one v h2.2 ((List.mem_cons.1 h).resolve_left e)
      simp only [List.map_cons, List.sum_cons, if_neg e, ih]
      omega
theorem sum_none (v : Int) {P : Int → Prop} [DecidablePred P] {l : List Int} (h : ∀ x ∈ l, ¬ P x) : (l.map fun x => if P x then v else 0).sum = 0 := by
  induction l with
  | nil => rfl
  | cons y t ih =>
    simp only [List.map_cons, List.sum_cons, if_neg (h y (List.mem_cons_self ..)), ih fun x hx => h x (List.mem_cons_of_mem _ hx)]
    rfl
theorem sum_add (f g : Int → Int) (l : List Int) : (l.map fun x => f x + g x).sum = (l.map f).sum + (l.map g).sum := by
  induction l with
  | nil => rfl
  | cons y t ih => simp only [List.map_cons, List.sum_cons, ih]; omega
/-- Of some posts, those of an entity in a period. -/
def ofEnt (e r : Int) (ps : List Pst) : List Int := (ps.filter fun x => decide (x.1 = r ∧ x.2.1 = e)).map (·.2.2.2.2)
theorem moves_all {L : List Int} (hL : L.Nodup) (e r : Int) : ∀ {ps : List Pst}, (∀ x ∈ ps, x.2.2.1 ∈ L) → (L.map fun a => (amtsAt ps (e, a, r) 0).sum).sum = (ofEnt e r ps).sum
  | [], _ => by
    unfold amtsAt ofEnt
    simp only [List.filter_nil, List.map_nil, List.sum_nil]
    have := sum_none 0 (P := fun _ => False) (l := L) (fun _ _ h => h)
    simpa using this
  | x :: t, h => by
    have ih := moves_all hL e r (ps := t) fun y hy => h y (List.mem_cons_of_mem _ hy)
    have e1 : (L.map fun a => (amtsAt (x :: t) (e, a, r) 0).sum) = L.map fun a => (if pstSpot x = (e, a, r) then x.2.2.2.2 else 0) + (amtsAt t (e, a, r) 0).sum := List.map_congr_left fun a _ => amts_cons x t _
    rw [e1, sum_add, ih]
    unfold ofEnt
    by_cases hx : x.1 = r ∧ x.2.1 = e
    · rw [List.filter_cons_of_pos (by simpa using hx)]
      have e2 : (L.map fun a => if pstSpot x = (e, a, r) then x.2.2.2.2 else 0) = L.map fun a => if x.2.2.1 = a then x.2.2.2.2 else 0 := List.map_congr_left fun a _ => by
        unfold pstSpot
        by_cases ha : x.2.2.1 = a
        · rw [if_pos ha, if_pos (by rw [hx.1, hx.2, ha])]
        · rw [if_neg ha, if_neg (fun h9 => ha (by injection h9 with _ h9; injection h9))]
      rw [e2, sum_one _ hL (h x (List.mem_cons_self ..))]
      simp
    · rw [List.filter_cons_of_neg (by simpa using hx)]
      rw [sum_none x.2.2.2.2 (P := fun a => pstSpot x = (e, a, r)) fun a _ h9 => hx (by
        unfold pstSpot at h9
        injection h9 with h1 h9
        injection h9 with _ h2
        exact ⟨h2, h1⟩)]
      omega
theorem entries_sum (e r : Int) : ∀ {l : List Ent}, (∀ x ∈ l, lineSum x.lines e = 0) → (ofEnt e r (posts l)).sum = 0
  | [], _ => rfl
  | x :: t, h => by
    have ih := entries_sum e r (l := t) fun y hy => h y (List.mem_cons_of_mem _ hy)
    have hx := h x (List.mem_cons_self ..)
    have hp : posts (x :: t) = (x.lines.map fun n => (x.period, n)) ++ posts t := by unfold posts; rw [List.flatMap_cons]
    unfold ofEnt at ih ⊢
    rw [hp, List.filter_append, List.map_append, List.sum_append, ih]
    by_cases hr : x.period = r
    · have e1 : ((x.lines.map fun n => (x.period, n)).filter fun y : Pst => decide (y.1 = r ∧ y.2.1 = e)).map (·.2.2.2.2) = (x.lines.filter fun y => y.1 == e).map (·.2.2.2) := by
        rw [List.filter_map, List.map_map]
        congr 1
        apply List.filter_congr
        intro y _
        simp [hr]
        rfl
      rw [e1]
      unfold lineSum at hx
      rw [hx]
      rfl
    · have e1 : (x.lines.map fun n => (x.period, n)).filter (fun y : Pst => decide (y.1 = r ∧ y.2.1 = e)) = [] := by
        rw [List.filter_eq_nil_iff]
        intro y hy
        obtain ⟨n, _, rfl⟩ := List.mem_map.1 hy
        simp [hr]
      rw [e1]
      rfl
theorem books_entry {b : Bks} (h : booksOK b = true) {x : Ent} (hx : x ∈ b.entries) : entryOK x b.ents.length b.accs.length = true ∧ placedOK x (accLeaves b.accs) = true := by
  unfold booksOK at h
  have h1 := (Bool.and_eq_true_iff.1 h).2
  unfold entriesOK at h1
  have h2 := List.all_eq_true.1 (Bool.and_eq_true_iff.1 h1).2
  obtain ⟨i, hi, rfl⟩ := List.getElem_of_mem hx
  have h3 := h2 i (List.mem_range.2 hi)
  unfold entryAt at h3
  rw [List.getElem?_eq_getElem hi] at h3
  simp only [Bool.and_eq_true] at h3
  exact h3.1
theorem line_zero {b : Bks} (h : booksOK b = true) {x : Ent} (hx : x ∈ b.entries) (e : Int) : lineSum x.lines e = 0 := by
  have h1 := (books_entry h hx).1
  unfold entryOK at h1
  have h2 := List.all_eq_true.1 (Bool.and_eq_true_iff.1 h1).2
  by_cases hl : ∃ y ∈ x.lines, y.1 = e
  · obtain ⟨y, hy, rfl⟩ := hl
    exact beq_iff_eq.1 (h2 y hy)
  · unfold lineSum
    have : (x.lines.filter fun y => y.1 == e) = [] := by
      rw [List.filter_eq_nil_iff]
      intro y hy h9
      exact hl ⟨y, hy, beq_iff_eq.1 h9⟩
    rw [this]
    rfl
theorem post_leaf {b : Bks} (h : booksOK b = true) {x : Pst} (hx : x ∈ posts b.entries) : x.2.2.1 ∈ (accLeaves b.accs).filter fun a => decide (a ≠ 1) := by
  unfold posts at hx
  obtain ⟨y, hy, hx⟩ := List.mem_flatMap.1 hx
  obtain ⟨n, hn, rfl⟩ := List.mem_map.1 hx
  have h1 := (books_entry h hy).2
  unfold placedOK at h1
  simp only [Bool.and_eq_true, Bool.not_eq_true', List.any_eq_false] at h1
  have h3 := h1.1 n hn
  have h4 := h1.2 n hn
  simp only [decide_eq_true_eq] at h3
  rw [List.mem_filter]
  refine ⟨?_, by simp only [decide_eq_true_eq]; omega⟩
  cases hc : (accLeaves b.accs).contains n.2.1 with
  | true => exact List.contains_iff_mem.1 hc
  | false => rw [hc] at h4; simp at h4
theorem moves_zero {b : Bks} (h : booksOK b = true) (e r : Int) : (((accLeaves b.accs).filter fun a => decide (a ≠ 1)).map fun a => (amtsAt (posts b.entries) (e, a, r) 0).sum).sum = 0 := by
  rw [moves_all ((leaves_nodup _).filter _) e r fun x hx => post_leaf h hx]
  exact entries_sum e r fun x hx => line_zero h hx e

/-! ### A balance is all movements -/
def movesTo (b : Bks) (e a : Int) : Nat → Int
  | 0 => (amtsAt (posts b.entries) (e, a, 0) 0).sum
  | n + 1 => movesTo b e a n + (amtsAt (posts b.entries) (e, a, ((n + 1 : Nat) : Int)) 0).sum
theorem movesTo_zero {b : Bks} (h : booksOK b = true) (e : Int) : ∀ n, (((accLeaves b.accs).filter fun a => decide (a ≠ 1)).map fun a => movesTo b e a n).sum = 0
  | 0 => moves_zero h e 0
  | n + 1 => by
    have e1 := sum_add (fun a => movesTo b e a n) (fun a => (amtsAt (posts b.entries) (e, a, ((n + 1 : Nat) : Int)) 0).sum) ((accLeaves b.accs).filter fun a => decide (a ≠ 1))
    have e2 := movesTo_zero h e n
    have e3 := moves_zero h e ((n + 1 : Nat) : Int)
    show (((accLeaves b.accs).filter fun a => decide (a ≠ 1)).map fun a => movesTo b e a n + (amtsAt (posts b.entries) (e, a, ((n + 1 : Nat) : Int)) 0).sum).sum = 0
    rw [e1, e2, e3]
    rfl
theorem net_two {l m : Vl} (h : (netOf [(0, 0), l, m] []).2 = 0) : l.2 = 0 ∧ m.2 = 0 ∧ (netOf [(0, 0), l, m] []).1 = l.1 + m.1 := by
  unfold netOf at h ⊢
  by_cases h0 : ferr 0 ([(0, 0), l, m] ++ []) = 0
  · rw [if_pos h0] at h ⊢
    have h1 := ferr_none.1 h0
    refine ⟨h1 l (by simp), h1 m (by simp), ?_⟩
    have h2 := told2_fits h
    rw [h2]
    simp
  · rw [if_neg h0] at h
    exact absurd h h0
theorem net_one {m : Vl} (h : (netOf [(0, 0), m] []).2 = 0) : m.2 = 0 ∧ (netOf [(0, 0), m] []).1 = m.1 := by
  unfold netOf at h ⊢
  by_cases h0 : ferr 0 ([(0, 0), m] ++ []) = 0
  · rw [if_pos h0] at h ⊢
    have h1 := ferr_none.1 h0
    refine ⟨h1 m (by simp), ?_⟩
    have h2 := told2_fits h
    rw [h2]
    simp
  · rw [if_neg h0] at h
    exact absurd h h0
theorem net_base {m : Vl} (h : (netOf [m] []).2 = 0) : m.2 = 0 ∧ (netOf [m] []).1 = m.1 := by
  unfold netOf at h ⊢
  by_cases h0 : ferr 0 ([m] ++ []) = 0
  · rw [if_pos h0] at h ⊢
    have h1 := ferr_none.1 h0
    refine ⟨h1 m (by simp), ?_⟩
    have h2 := told2_fits h
    rw [h2]
    simp
  · rw [if_neg h0] at h
    exact absurd h h0
theorem local_proper {b : Bks} {r c2 c3 p : Int} (hr : r = 1 ∨ r = 2) (h : Proper b (r, c2, c3, p, 0, 0)) : mayOf b (r, c2, c3, p, 0, 0) 1 2 = 0 := by
  rcases h.1 with h1 | h1
  · have := h1.1; simp only at this; omega
  · exact h1.2
theorem move_is {b : Bks} (h60 : b.accs.length ≤ 60) {e a p : Int} (h : Proper b (1, e, a, p, 0, 0)) (h0 : (valD b 20 (1, e, a, p, 0, 0)).2 = 0) : (valD b 20 (1, e, a, p, 0, 0)).1 = (amtsAt (posts b.entries) (e, a, p) 0).sum := by
  have hv := val_is h60 h
  have hr : (rcpD b (1, e, a, p, 0, 0)).1 = { Rcp.none with base := localBase b (1, e, a, p, 0, 0) } := by
    unfold rcpD
    rw [if_neg (by simp)]
    unfold localOf
    rw [if_pos (local_proper (.inl rfl) h), if_pos rfl]
  rw [hr] at hv
  simp only [Rcp.none, List.map_nil, Bool.false_eq_true, if_false, List.append_nil] at hv
  rw [hv] at h0 ⊢
  obtain ⟨h1, h2⟩ := net_base h0
  rw [h2]
  unfold localBase at h1 ⊢
  rw [told2_fits h1]
theorem bal_is {b : Bks} (h60 : b.accs.length ≤ 60) {e a : Int} : ∀ (n : Nat), Proper b (2, e, a, (n : Int), 0, 0) → (valD b 20 (2, e, a, (n : Int), 0, 0)).2 = 0 → (valD b 20 (2, e, a, (n : Int), 0, 0)).1 = movesTo b e a n := by
  intro n
  induction n with
  | zero =>
    intro h h0
    have hv := val_is h60 h
    have hr : (rcpD b (2, e, a, ((0 : Nat) : Int), 0, 0)).1 = { Rcp.none with plus := [(1, e, a, ((0 : Nat) : Int), 0, 0)] } := by
      unfold rcpD
      rw [if_neg (by simp)]
      unfold localOf
      rw [if_pos (local_proper (.inr rfl) h), if_neg (by simp)]
      unfold localPlus
      rw [if_neg (by simp)]
      rfl
    rw [hr] at hv
    simp only [Rcp.none, List.map_nil, Bool.false_eq_true, if_false, List.append_nil, List.map_cons] at hv
    rw [hv] at h0 ⊢
    obtain ⟨h1, h2⟩ := net_one h0
    rw [h2]
    have hm : Proper b (1, e, a, ((0 : Nat) : Int), 0, 0) := (reads_down h60 h (x := (1, e, a, ((0 : Nat) : Int), 0, 0)) (by rw [reads_iff, hr]; exact .inl (List.mem_singleton.2 rfl))).1
    exact move_is h60 hm h1
  | succ n ih =>
    intro h h0
    have hv := val_is h60 h
    have hr : (rcpD b (2, e, a, ((n + 1 : Nat) : Int), 0, 0)).1 = { Rcp.none with plus := [(2, e, a, (n : Int), 0, 0), (1, e, a, ((n + 1 : Nat) : Int), 0, 0)] } := by
      unfold rcpD
      rw [if_neg (by simp)]
      unfold localOf
      rw [if_pos (local_proper (.inr rfl) h), if_neg (by simp)]
      unfold localPlus
      have e1 : ((n + 1 : Nat) : Int) - 1 = (n : Int) := by omega
      simp only
      rw [if_pos (by omega), e1]
      rfl
    rw [hr] at hv
    simp only [Rcp.none, List.map_nil, Bool.false_eq_true, if_false, List.append_nil, List.map_cons] at hv
    rw [hv] at h0 ⊢
    obtain ⟨h1, h2, h3⟩ := net_two h0
    rw [h3]
    have hl : Proper b (2, e, a, (n : Int), 0, 0) := (reads_down h60 h (x := (2, e, a, (n : Int), 0, 0)) (by rw [reads_iff, hr]; exact .inl (List.mem_cons_self ..))).1
    have hm : Proper b (1, e, a, ((n + 1 : Nat) : Int), 0, 0) := (reads_down h60 h (x := (1, e, a, ((n + 1 : Nat) : Int), 0, 0)) (by rw [reads_iff, hr]; exact .inl (List.mem_cons_of_mem _ (List.mem_singleton.2 rfl)))).1
    rw [ih hl h1, move_is h60 hm h2]
    rfl

/-! ### In its own currency -/
def balC (e p a : Int) : Rt6 := (2, e, a, p, 0, 0)
theorem bal_proper {b : Bks} {e p u a : Int} (hk : booksOK b = true) (h0 : cellIn (trC e p u 1) b.ents.length b.accs.length = 0) (hp : p ≤ 5) (ha : accLeaf b.accs a = true) : Proper b (balC e p a) := by
  have hpr := of_proper hk h0 hp ha
  rcases hpr.1 with h | h
  · obtain ⟨k1, k2, k3, k4, k5⟩ := may_in h.2
    exact ⟨.inr ⟨.inr rfl, may_local k1 k2 (accs_60 hk).1 ha ⟨hpr.2.1, Int.le_refl _⟩ (.inr rfl)⟩, hpr.2.1, hp⟩
  · exact absurd h.1 (by unfold trC; simp only; omega)
theorem same_is {b : Bks} {e p a : Int} (hk : booksOK b = true) (h0 : cellIn (trC e p (curOf b e) 1) b.ents.length b.accs.length = 0) (hp : p ≤ 5) (ha : accLeaf b.accs a = true) (h1 : a ≠ 1) : valD b 20 (trC e p (curOf b e) a) = valD b 20 (balC e p a) := by
  have h60 := (accs_60 hk).1
  have hpr := of_proper hk h0 hp ha
  have hbp := bal_proper hk h0 hp ha
  have hm : mayOf b (trC e p (curOf b e) a) 3 3 = 0 := by
    rcases hpr.1 with h | h
    · exact h.2
    · exact absurd h.1 (by unfold trC; simp only; omega)
  rw [val_is h60 hpr]
  have hr : (rcpD b (trC e p (curOf b e) a)).1 = { Rcp.none with plus := [balC e p a] } := by
    unfold rcpD
    rw [if_pos (show (trC e p (curOf b e) a).1 = 3 from rfl)]
    unfold transOf
    rw [if_pos hm]
    unfold transRcp
    rw [if_neg (show ¬ (trC e p (curOf b e) a).2.2.1 = 1 from h1), if_pos (show curOf b (trC e p (curOf b e) a).2.1 = (trC e p (curOf b e) a).2.2.2.2.1 from rfl)]
    rfl
  rw [hr]
  simp only [Rcp.none, List.map_nil, Bool.false_eq_true, if_false, List.append_nil, List.map_cons]
  rw [val_is h60 hbp]
  exact net_self _ _
theorem same_plug {b : Bks} {e p : Int} (hk : booksOK b = true) (h0 : cellIn (trC e p (curOf b e) 1) b.ents.length b.accs.length = 0) (hp : p ≤ 5) (hz : ∀ a ∈ accLeaves b.accs, (valD b 20 (balC e p a)).2 = 0) : valD b 20 (trC e p (curOf b e) 1) = (0, 0) := by
  have h60 := (accs_60 hk).1
  have e1 : (((accLeaves b.accs).filter fun x => decide (x ≠ 1)).map fun a => valD b 20 (trC e p (curOf b e) a)) = (((accLeaves b.accs).filter fun x => decide (x ≠ 1)).map fun a => valD b 20 (balC e p a)) := List.map_congr_left fun a ha => by
    have := List.mem_filter.1 ha
    exact same_is hk h0 hp (leaves_iff.1 this.1) (by simpa using this.2)
  rw [plug_is hk h0 hp, e1, sum_neg]
  have hf : ferr 0 (((accLeaves b.accs).filter fun x => decide (x ≠ 1)).map fun a => valD b 20 (balC e p a)) = 0 := by
    rw [ferr_none]
    intro v hv
    obtain ⟨a, ha, rfl⟩ := List.mem_map.1 hv
    exact hz a (List.mem_filter.1 ha).1
  rw [if_pos hf]
  have hpp := (of_proper hk h0 hp (plug_leaf hk)).2.1
  obtain ⟨n, rfl⟩ : ∃ n : Nat, p = (n : Int) := ⟨p.toNat, by have : (0 : Int) ≤ p := hpp; omega⟩
  have e2 : ((((accLeaves b.accs).filter fun x => decide (x ≠ 1)).map fun a => valD b 20 (balC e (n : Int) a)).map (·.1)) = ((accLeaves b.accs).filter fun x => decide (x ≠ 1)).map fun a => movesTo b e a n := by
    rw [List.map_map]
    refine List.map_congr_left fun a ha => ?_
    have ha1 := (List.mem_filter.1 ha).1
    exact bal_is h60 n (bal_proper hk h0 hp (leaves_iff.1 ha1)) (hz a ha1)
  rw [e2, movesTo_zero hk]
  rfl
end Go.Gk.V32
