/-
  Plain: the pairs that meet at a node, and what is taken off there. No program in sight.
-/
import Derived.Test.YtdangnmeligfjaaGreatDoorZ59
import Derived.Test.YtdangnmeligfjaaGreatDoorZ31
import Derived.Test.YtdangnmeligfjaaGreatDoorLv
import Derived.Test.YtdangnmeligfjaaGreatDoorZ70
namespace Go.Gk.V33
open Go.RowKit
theorem accIds_lt (n : Nat) : (accIds n).Pairwise (· < ·) := by
 unfold accIds
 rw [List.pairwise_map]
 exact List.pairwise_lt_range.imp fun h => by omega
theorem lt_unique : ∀ {xs ys : List Int}, xs.Pairwise (· < ·) → ys.Pairwise (· < ·) → (∀ q, q ∈ xs ↔ q ∈ ys) → xs = ys
 | [], [], _, _, _ => rfl
 | [], y :: ys, _, _, h => by have := (h y).2 (List.mem_cons_self ..); cases this
 | x :: xs, [], _, _, h => by have := (h x).1 (List.mem_cons_self ..); cases this
 | x :: xs, y :: ys, hx, hy, h => by
  obtain ⟨hx1, hx2⟩ := List.pairwise_cons.1 hx
  obtain ⟨hy1, hy2⟩ := List.pairwise_cons.1 hy
  have e : x = y := by
   rcases List.mem_cons.1 ((h x).1 (List.mem_cons_self ..)) with e | e
   ·exact e
   ·rcases List.mem_cons.1 ((h y).2 (List.mem_cons_self ..)) with e2 | e2
    ·exact e2.symm
    ·have := hy1 x e; have := hx1 y e2; omega
  subst e
  rw [lt_unique hx2 hy2 fun q => ?_]
  constructor
  ·intro hq
   rcases List.mem_cons.1 ((h q).1 (List.mem_cons_of_mem _ hq)) with e | e
   ·have := hx1 q hq; omega
   ·exact e
  ·intro hq
   rcases List.mem_cons.1 ((h q).2 (List.mem_cons_of_mem _ hq)) with e | e
   ·have := hy1 q hq; omega
   ·exact e
def ptsOf (b : Bks) (e a p : Int) : List Int := (accIds b.ents.length).filter fun q => decide (q ∈ ptnOf (posts b.entries) e a p)
theorem lt_nodup {zs : List Int} (h : zs.Pairwise (· < ·)) : zs.Nodup := h.imp fun h e => by omega
theorem pts_are {b : Bks} (hok : booksOK b = true) {e a p : Int} {zs : List Int} (hl : zs.Pairwise (· < ·)) (hm : ∀ q, q ∈ zs ↔ q ∈ ptnOf (posts b.entries) e a p) : zs = ptsOf b e a p := by
 refine lt_unique hl ((accIds_lt _).filter _) fun q => ?_
 unfold ptsOf
 rw [List.mem_filter]
 constructor
 ·intro h
  exact ⟨ids_iff.2 ((parts_few hok (lt_nodup hl) hm).2 q h).1, by simpa using (hm q).1 h⟩
 ·intro h
  exact (hm q).2 (by simpa using h.2)
theorem pts_in {b : Bks} {e a p q : Int} (h : q ∈ ptsOf b e a p) : 1 ≤ q ∧ q ≤ b.ents.length := ids_iff.1 (List.mem_filter.1 h).1
theorem pts_len (b : Bks) (e a p : Int) : (ptsOf b e a p).length ≤ b.ents.length := by
 unfold ptsOf
 exact Nat.le_trans (List.length_filter_le _ _) (by rw [accIds_len]; omega)
def pairsAt (b : Bks) (node a p x : Int) : List (Int × Int) := ((ptsOf b x a p).filter fun y => meetOf b.stakes p x y == node).map fun y => (x, y)
def pairsD (b : Bks) (node a p : Int) : List (Int × Int) := (accIds b.ents.length).flatMap (pairsAt b node a p)
theorem meet_under {l : List Stk4} {p x y node : Int} (hn : 1 ≤ node) (h : meetOf l p x y = node) : underOf l p node x = true := by
 unfold meetOf at h
 cases hf : (x :: upsOf l p x).find? fun t => underOf l p t y with
 | none => rw [hf] at h; have h : (0 : Int) = node := h; omega
 | some t =>
  rw [hf] at h
  have h : t = node := h
  subst h
  have := List.mem_of_find?_eq_some hf
  unfold underOf
  rcases List.mem_cons.1 this with rfl | h2
  ·simp
  ·rw [List.contains_iff_mem.2 h2, Bool.or_true]
theorem flatMap_under {α : Type} (F : Int → Bool) (f : Int → List α) : ∀ (l : List Int), (∀ x ∈ l, F x = false → f x = []) → l.flatMap f = (l.filter F).flatMap f
 | [], _ => rfl
 | x :: r, h => by
  have ih := flatMap_under F f r fun y hy => h y (List.mem_cons_of_mem _ hy)
  rw [List.flatMap_cons, ih]
  cases hF : F x with
  | true => rw [List.filter_cons_of_pos hF, List.flatMap_cons]
  | false => rw [List.filter_cons_of_neg (by simp [hF]), h x (List.mem_cons_self ..) hF, List.nil_append]
theorem at_off {b : Bks} {node a p x : Int} (hn : 1 ≤ node) (h : underOf b.stakes p node x = false) : pairsAt b node a p x = [] := by
 unfold pairsAt
 rw [List.filter_eq_nil_iff.2 fun y _ => ?_]
 ·rfl
 ·intro e
  have := meet_under hn (by simpa using e : meetOf b.stakes p x y = node)
  rw [h] at this
  cases this
theorem pairs_under {b : Bks} {node a p : Int} (hn : 1 ≤ node) : pairsD b node a p = ((accIds b.ents.length).filter (underOf b.stakes p node)).flatMap (pairsAt b node a p) :=
 flatMap_under _ _ _ fun _ _ h => at_off hn h
theorem at_len (b : Bks) (node a p x : Int) : (pairsAt b node a p x).length ≤ b.ents.length := by
 unfold pairsAt
 rw [List.length_map]
 exact Nat.le_trans (List.length_filter_le _ _) (pts_len _ _ _ _)
theorem flatMap_len {α β : Type} {f : α → List β} {k : Nat} : ∀ (l : List α), (∀ x ∈ l, (f x).length ≤ k) → (l.flatMap f).length ≤ l.length * k
 | [], _ => by simp
 | x :: r, h => by
  have := flatMap_len r fun y hy => h y (List.mem_cons_of_mem _ hy)
  have := h x (List.mem_cons_self ..)
  rw [List.flatMap_cons, List.length_append, List.length_cons, Nat.add_mul]
  omega
theorem pairs_len {b : Bks} (h40 : b.ents.length ≤ 40) (node a p : Int) : (pairsD b node a p).length ≤ 1600 := by
 have := flatMap_len (f := pairsAt b node a p) (accIds b.ents.length) fun x _ => at_len b node a p x
 rw [accIds_len] at this
 exact Nat.le_trans this (Nat.le_trans (Nat.mul_le_mul h40 h40) (by decide))
def sideG (acc c4 c5 : Int) (q : Int × Int) : Rt6 := (3, q.1, acc, c4, c5, q.2)
def sidesD (b : Bks) (c : Rt6) (acc : Int) : List Rt6 := (pairsD b c.2.1 acc c.2.2.2.1).map (sideG acc c.2.2.2.1 c.2.2.2.2.1)
theorem sides_len {b : Bks} (h40 : b.ents.length ≤ 40) (c : Rt6) (acc : Int) : (sidesD b c acc).length ≤ 1600 := by
 unfold sidesD
 rw [List.length_map]
 exact pairs_len h40 _ _ _
def accPtn (b : Bks) (a : Int) : Bool := ((b.accs[(a - 1).toNat]?).map (·.2.2.2)).getD false
theorem ptn_is {b : Bks} {x : Int} {k : Nat} {hk : k < b.accs.length} (h : b.accs[(x - 1).toNat]? = some b.accs[k]) : accPtn b x = b.accs[k].2.2.2 := by
 unfold accPtn
 rw [h]
 rfl
theorem three_ptn {b : Bks} (h : booksOK b = true) : accPtn b 3 = false := by
 unfold booksOK at h
 simp only [Bool.and_eq_true] at h
 obtain ⟨⟨⟨⟨⟨_, h⟩, _⟩, _⟩, _⟩, _⟩ := h
 unfold accsOK at h
 simp only [Bool.and_eq_true, decide_eq_true_eq] at h
 have h3 := h.1.1.2.2
 have h4 : (b.accs.take 3)[2]? = ownAccs[2]? := by rw [h3]
 rw [List.getElem?_take] at h4
 have h5 : b.accs[2]? = some (0, 1, false, false) := by simpa [ownAccs] using h4
 unfold accPtn
 rw [show ((3 : Int) - 1).toNat = 2 by decide, h5]
 rfl
def accsP (b : Bks) : List Int := (accLeaves b.accs).filter (accPtn b)
def elimPlus (b : Bks) (c : Rt6) : List Rt6 := if c.2.2.1 = 3 then (accsP b).flatMap (sidesD b c) else []
def elimMinus (b : Bks) (c : Rt6) : List Rt6 := if accPtn b c.2.2.1 then sidesD b c c.2.2.1 else []
def elimOf (b : Bks) (c : Rt6) : Rcp × Int := if mayOf b c 6 6 = 0 then ({ Rcp.none with plus := elimPlus b c, minus := elimMinus b c }, 0) else (Rcp.none, mayOf b c 6 6)
def ElimOk (b : Bks) (c : Rt6) (w : World) (x : Ending) (w' : World) : Prop := ∃ v, x = .returned (.tuple #[v, .int .i64 (elimOf b c).2]) ∧ RcpIs w' v (elimOf b c).1 ∧ Tch (fun _ => False) w w'
open Go.RowKit
theorem ptn_iff {ps : List Pst} {e a p q : Int} : q ∈ ptnOf ps e a p ↔ q ≠ 0 ∧ ∃ x ∈ ps, x.2.1 = e ∧ x.2.2.1 = a ∧ x.1 ≤ p ∧ x.2.2.2.1 = q := by
 constructor
 ·intro h
  unfold ptnOf ptnAt at h
  obtain ⟨r, _, h⟩ := List.mem_flatMap.1 h
  obtain ⟨x, hx, rfl⟩ := List.mem_map.1 h
  obtain ⟨hx, hf⟩ := List.mem_filter.1 hx
  unfold ptnRow at hf
  simp only [Bool.and_eq_true, decide_eq_true_eq, bne_iff_ne] at hf
  obtain ⟨y, hy, h1, h2⟩ := rows_mem _ _ _ x hx
  unfold pstSpot at h1
  simp only [Prod.mk.injEq] at h1
  exact ⟨hf.2, y, hy, h1.1, h1.2.1, by rw [h1.2.2]; exact hf.1, h2⟩
 ·rintro ⟨h0, x, hx, rfl, rfl, hp, rfl⟩
  unfold ptnOf ptnAt
  obtain ⟨y, hy, h1⟩ := rows_there (pstSpot x) ps 0 x hx rfl
  have h2 := pers_there ps ps.length x (by rw [List.take_length]; exact hx)
  rw [List.take_length] at h2
  refine List.mem_flatMap.2 ⟨x.1, h2, List.mem_map.2 ⟨y, List.mem_filter.2 ⟨hy, ?_⟩, h1⟩⟩
  unfold ptnRow
  simp only [hp, decide_true, Bool.true_and, bne_iff_ne]
  rw [h1]; exact h0
theorem nodup_le {α : Type} [DecidableEq α] : ∀ (a b : List α), a.Nodup → (∀ x ∈ a, x ∈ b) → a.length ≤ b.length
 | [], _, _, _ => Nat.zero_le _
 | x :: a, b, hn, hs => by
  have hx := hs x List.mem_cons_self
  have h1 := nodup_le a (b.erase x) (List.nodup_cons.1 hn).2 (fun y hy => by
   have hne : y ≠ x := fun e => (List.nodup_cons.1 hn).1 (e ▸ hy)
   exact (List.mem_erase_of_ne hne).2 (hs y (List.mem_cons_of_mem _ hy)))
  rw [List.length_erase_of_mem hx] at h1
  have h2 : 0 < b.length := List.length_pos_of_mem hx
  simp only [List.length_cons]
  omega
theorem map_nodup {α β : Type} {f : α → β} (hf : ∀ x y, f x = f y → x = y) {l : List α} (h : l.Nodup) : (l.map f).Nodup := by
 unfold List.Nodup
 rw [List.pairwise_map]
 exact List.Pairwise.imp (fun hne e => hne (hf _ _ e)) h
theorem at_mem {b : Bks} {node a p x : Int} {q : Int × Int} (h : q ∈ pairsAt b node a p x) : q.1 = x ∧ q.2 ∈ ptsOf b x a p ∧ meetOf b.stakes p x q.2 = node := by
 unfold pairsAt at h
 obtain ⟨y, hy, rfl⟩ := List.mem_map.1 h
 obtain ⟨h1, h2⟩ := List.mem_filter.1 hy
 exact ⟨rfl, h1, by simpa using h2⟩
theorem pairs_mem {b : Bks} {node a p : Int} {q : Int × Int} (h : q ∈ pairsD b node a p) : q.2 ∈ ptsOf b q.1 a p ∧ meetOf b.stakes p q.1 q.2 = node := by
 unfold pairsD at h
 obtain ⟨x, _, hx⟩ := List.mem_flatMap.1 h
 obtain ⟨rfl, h1, h2⟩ := at_mem hx
 exact ⟨h1, h2⟩
theorem at_nodup (b : Bks) (node a p x : Int) : (pairsAt b node a p x).Nodup := map_nodup (fun _ _ e => (Prod.mk.inj e).2) (List.Pairwise.filter _ (List.Pairwise.filter _ (lt_nodup (accIds_lt _))))
theorem pairs_nodup (b : Bks) (node a p : Int) : (pairsD b node a p).Nodup := by
 unfold pairsD List.Nodup
 rw [List.pairwise_flatMap]
 refine ⟨fun x _ => at_nodup b node a p x, (accIds_lt _).imp ?_⟩
 intro x y hxy q hq r hr e
 have h1 := (at_mem hq).1
 have h2 := (at_mem hr).1
 subst e
 omega
theorem side_inj {acc c4 c5 : Int} (x y : Int × Int) (h : sideG acc c4 c5 x = sideG acc c4 c5 y) : x = y := by
 unfold sideG at h
 simp only [Prod.mk.injEq, true_and] at h
 exact Prod.ext h.1 h.2
theorem sides_nodup (b : Bks) (c : Rt6) (acc : Int) : (sidesD b c acc).Nodup := map_nodup side_inj (pairs_nodup ..)
theorem sides_mem {b : Bks} {c : Rt6} {acc : Int} {g : Rt6} (h : g ∈ sidesD b c acc) : g.2.2.1 = acc ∧ g ∈ (posts b.entries).map fun q => ((3, q.2.1, q.2.2.1, c.2.2.2.1, c.2.2.2.2.1, q.2.2.2.1) : Rt6) := by
 unfold sidesD at h
 obtain ⟨q, hq, rfl⟩ := List.mem_map.1 h
 refine ⟨rfl, ?_⟩
 have h1 := (pairs_mem hq).1
 unfold ptsOf at h1
 have h2 := (List.mem_filter.1 h1).2
 obtain ⟨_, x, hx, e1, e2, _, e3⟩ := ptn_iff.1 (by simpa using h2)
 refine List.mem_map.2 ⟨x, hx, ?_⟩
 unfold sideG
 rw [e1, e2, e3]
theorem accsP_nodup (b : Bks) : (accsP b).Nodup := List.Pairwise.filter _ (List.Pairwise.filter _ (lt_nodup (accIds_lt _)))
theorem plus_nodup (b : Bks) (c : Rt6) : ((accsP b).flatMap (sidesD b c)).Nodup := by
 unfold List.Nodup
 rw [List.pairwise_flatMap]
 refine ⟨fun x _ => sides_nodup b c x, List.Pairwise.imp ?_ (accsP_nodup b)⟩
 intro x y hxy q hq r hr e
 have h1 := (sides_mem hq).1
 have h2 := (sides_mem hr).1
 subst e
 exact hxy (h1.symm.trans h2)
theorem plus_len (b : Bks) (c : Rt6) : ((accsP b).flatMap (sidesD b c)).length ≤ (posts b.entries).length := by
 have := nodup_le _ _ (plus_nodup b c) (fun g hg => by
  obtain ⟨x, _, hx⟩ := List.mem_flatMap.1 hg
  exact (sides_mem hx).2)
 rwa [List.length_map] at this
theorem elim_len {b : Bks} (hok : booksOK b = true) (hpo : (posts b.entries).length ≤ 3000) (c : Rt6) : (elimOf b c).1.plus.length + (elimOf b c).1.minus.length ≤ 5000 := by
 have h1 := plus_len b c
 have h2 := sides_len (ok_stakes hok).1 c c.2.2.1
 have h3 : (elimPlus b c).length ≤ 3000 := by
  unfold elimPlus
  split
  ·omega
  ·exact Nat.zero_le _
 have h4 : (elimMinus b c).length ≤ 1600 := by
  unfold elimMinus
  split
  ·exact h2
  ·exact Nat.zero_le _
 unfold elimOf
 split
 ·show (elimPlus b c).length + (elimMinus b c).length ≤ 5000
  omega
 ·exact Nat.zero_le _
theorem posts_less {b : Bks} (h : BksFew b) : (posts b.entries).length ≤ 3000 := by
 have h1 := h.entries
 have h2 := posts_len b.entries 60 h.lines
 have h3 : b.entries.length * 60 ≤ 30 * 60 := Nat.mul_le_mul_right _ h1
 omega
def valE (b : Bks) (c : Rt6) : Vl := if (elimOf b c).2 = 0 then evalOf (elimOf b c).1 ((readsOf (elimOf b c).1).map (V32.valD b 20)) else (0, (elimOf b c).2)
open Go.RowKit Go.Gk.V32
def elC (e p u a : Int) : Rt6 := (6, e, a, p, u, 0)
theorem el_in {b : Bks} {e p u : Int} (h0 : cellIn (elC e p u 1) b.ents.length b.accs.length = 0) : (1 ≤ e ∧ e ≤ 40) ∧ (0 ≤ p ∧ p ≤ 23) ∧ (1 ≤ u ∧ u ≤ 8) ∧ e ≤ b.ents.length := by
 unfold cellIn at h0
 by_cases h2 : cellOK (elC e p u 1) = true
 ·rw [if_pos h2] at h0
  by_cases h3 : (b.ents.length : Int) < max (elC e p u 1).2.1 (elC e p u 1).2.2.2.2.2
  ·rw [if_pos h3] at h0; cases h0
  ·unfold cellOK elC at h2
   unfold elC at h3
   simp only [Bool.and_eq_true, wi, decide_eq_true_eq, Bool.not_eq_true'] at h2 h3
   simp only [show ¬ ((6 : Int) = 1 ∨ (6 : Int) = 2) by omega, if_false] at h2
   exact ⟨h2.1.1.1.1.1.2, h2.1.1.1.2, h2.1.1.2, by omega⟩
 ·rw [if_neg h2] at h0; cases h0
theorem elim_may {b : Bks} {e p u a : Int} (hok : booksOK b = true) (h0 : cellIn (elC e p u 1) b.ents.length b.accs.length = 0) (ha : accLeaf b.accs a = true) : mayOf b (elC e p u a) 6 6 = 0 := by
 have hi := leaf_ids ha
 have h60 := (accs_60 hok).1
 obtain ⟨k1, k2, k3, k4⟩ := el_in h0
 refine may_of ?_ (show ¬ ((b.ents.length : Int) < max e 0) by omega) (show ¬ ((b.accs.length : Int) < a) by omega) ⟨Int.le_refl _, Int.le_refl _⟩ ha
 unfold cellOK elC
 simp only [Bool.and_eq_true, wi, decide_eq_true_eq, Bool.not_eq_true', show ¬ ((6 : Int) = 1 ∨ (6 : Int) = 2) by omega, if_false]
 exact ⟨⟨⟨⟨⟨⟨by omega, by omega⟩, by omega⟩, by omega⟩, by omega⟩, by first | omega | (rw [if_neg (by omega)]; omega)⟩, beq_eq_false_iff_ne.2 (by omega)⟩
theorem pts_far {b : Bks} (hok : booksOK b = true) {e a p q : Int} (h : q ∈ ptsOf b e a p) : (1 ≤ q ∧ q ≤ (b.ents.length : Int)) ∧ q ≠ e := by
 unfold ptsOf at h
 have h9 := (List.mem_filter.1 h).2
 obtain ⟨h0, x, hx, he, hxq⟩ := ptn_some (by simpa using h9)
 have h1 := ok_lines hok x hx
 unfold lineOK at h1
 simp only [Bool.and_eq_true, decide_eq_true_eq, Bool.not_eq_true', beq_eq_false_iff_ne, ne_eq] at h1
 obtain ⟨⟨⟨_, _⟩, ⟨h3, h4⟩, h5⟩, _⟩ := h1
 rw [hxq] at h3 h4 h5
 rw [he] at h5
 omega
theorem pairs_in {b : Bks} {node a p : Int} {q : Int × Int} (h : q ∈ pairsD b node a p) : 1 ≤ q.1 ∧ q.1 ≤ b.ents.length := by
 unfold pairsD at h
 obtain ⟨x, hx, hq⟩ := List.mem_flatMap.1 h
 rw [(at_mem hq).1]
 exact ids_iff.1 hx
theorem side_proper {b : Bks} {e p u a : Int} (hok : booksOK b = true) (h0 : cellIn (elC e p u 1) b.ents.length b.accs.length = 0) (hp : p ≤ 5) (ha : accLeaf b.accs a = true) {g : Rt6} (hg : g ∈ sidesD b (elC e p u 1) a) : Proper b g := by
 unfold sidesD elC at hg
 simp only at hg
 obtain ⟨q, hq, rfl⟩ := List.mem_map.1 hg
 obtain ⟨x, y⟩ := q
 have h1 := pairs_in hq
 obtain ⟨h2, h3⟩ := pts_far hok (pairs_mem hq).1
 have hi := leaf_ids ha
 have h60 := (accs_60 hok).1
 have h40 := (ok_stakes hok).1
 obtain ⟨k1, k2, k3, k4⟩ := el_in h0
 simp only at h1 h2 h3
 refine ⟨.inl ⟨rfl, ?_⟩, k2.1, hp⟩
 refine may_of ?_ (show ¬ ((b.ents.length : Int) < max x y) by omega) (show ¬ ((b.accs.length : Int) < a) by omega) ⟨Int.le_refl _, Int.le_refl _⟩ ha
 unfold cellOK sideG
 simp only [Bool.and_eq_true, wi, decide_eq_true_eq, Bool.not_eq_true', show ¬ ((3 : Int) = 1 ∨ (3 : Int) = 2) by omega, if_false]
 exact ⟨⟨⟨⟨⟨⟨by omega, by omega⟩, by omega⟩, by omega⟩, by omega⟩, by first | omega | (rw [if_pos (by omega)]; omega)⟩, beq_eq_false_iff_ne.2 h3⟩
theorem elim_is {b : Bks} {e p u a : Int} (hok : booksOK b = true) (h0 : cellIn (elC e p u 1) b.ents.length b.accs.length = 0) (ha : accLeaf b.accs a = true) : valE b (elC e p u a) = netOf ((0, 0) :: (elimPlus b (elC e p u a)).map (valD b 20)) ((elimMinus b (elC e p u a)).map (valD b 20)) := by
 have he : elimOf b (elC e p u a) = ({ Rcp.none with plus := elimPlus b (elC e p u a), minus := elimMinus b (elC e p u a) }, 0) := by
  unfold elimOf
  rw [if_pos (elim_may hok h0 ha)]
 unfold valE
 rw [he]
 simp only [if_true]
 rw [evalOf_map]
 simp only [Rcp.none, Bool.false_eq_true, if_false, List.append_nil]
theorem leaf_P {b : Bks} {a : Int} (h : a ∈ accsP b) : accLeaf b.accs a = true ∧ accPtn b a = true := by
 unfold accsP at h
 obtain ⟨h1, h2⟩ := List.mem_filter.1 h
 exact ⟨leaves_iff.1 h1, h2⟩
theorem elim_fine {b : Bks} {e p u a : Int} (hok : booksOK b = true) (h0 : cellIn (elC e p u 1) b.ents.length b.accs.length = 0) (hp : p ≤ 5) (ha : accLeaf b.accs a = true) : fine (valE b (elC e p u a)) := by
 have hv : ∀ x, accLeaf b.accs x = true → ∀ g ∈ sidesD b (elC e p u 1) x, fine (valD b 20 g) := fun x hx g hg => by
  have := side_proper hok h0 hp hx hg
  exact val_fine (accs_60 hok).1 (books_rates hok) 13 g this (rank_le this)
 rw [elim_is hok h0 ha]
 refine net_fine (fun v h => ?_) (fun v h => ?_)
 ·rcases List.mem_cons.1 h with rfl | h
  ·exact .inl rfl
  ·obtain ⟨g, hg, rfl⟩ := List.mem_map.1 h
   unfold elimPlus at hg
   split at hg
   ·obtain ⟨x, hx, hg⟩ := List.mem_flatMap.1 hg
    exact hv x (leaf_P hx).1 g hg
   ·cases hg
 ·obtain ⟨g, hg, rfl⟩ := List.mem_map.1 h
  unfold elimMinus at hg
  split at hg
  ·exact hv a ha g hg
  ·cases hg
theorem elim_64 (b : Bks) (c : Rt6) : Vl64 (valE b c) := by
 unfold valE
 split
 ·rw [evalOf_map]; exact net_64 _ _
 ·simp [Vl64, I64]
theorem three_leaf {b : Bks} (h : booksOK b = true) : accLeaf b.accs 3 = true := by
 have h3 := (accs_60 h).2
 unfold booksOK at h
 simp only [Bool.and_eq_true] at h
 obtain ⟨⟨⟨⟨⟨_, h⟩, _⟩, _⟩, _⟩, _⟩ := h
 unfold accsOK at h
 simp only [Bool.and_eq_true] at h
 have hall := h.1.2
 unfold accLeaf accIs accKid
 simp only [Bool.and_eq_true, decide_eq_true_eq, Bool.not_eq_true']
 refine ⟨by omega, ?_⟩
 rw [List.any_eq_false]
 intro x hx
 have := List.all_eq_true.1 hall x hx
 simp only [Bool.and_eq_true] at this
 have h1 := this.1
 unfold placeOK at h1
 simp only [Bool.and_eq_true, decide_eq_true_eq, Bool.not_eq_true', Bool.and_eq_false_iff, decide_eq_false_iff_not] at h1
 simp only [beq_iff_eq]
 omega
theorem sum_flat (g : Rt6 → Int) (h : Int → List Rt6) : ∀ l : List Int, ((l.flatMap h).map g).sum = (l.map fun a => ((h a).map g).sum).sum
 | [] => rfl
 | x :: r => by rw [List.flatMap_cons, List.map_append, List.sum_append, sum_flat g h r, List.map_cons, List.sum_cons]
theorem sum_filter (P : Int → Bool) (S : Int → Int) : ∀ l : List Int, ((l.filter P).map S).sum = (l.map fun a => if P a = true then S a else 0).sum
 | [] => rfl
 | x :: r => by
  by_cases h : P x = true
  ·rw [List.filter_cons_of_pos h, List.map_cons, List.map_cons, List.sum_cons, List.sum_cons, sum_filter P S r, if_pos h]
  ·rw [List.filter_cons_of_neg h, List.map_cons, List.sum_cons, sum_filter P S r, if_neg h, Int.zero_add]
theorem net_amt {p m : List Vl} (h : (netOf p m).2 = 0) : (netOf p m).1 = (p.map (·.1)).sum - (m.map (·.1)).sum := by
 unfold netOf at h ⊢
 by_cases h0 : ferr 0 (p ++ m) = 0
 ·rw [if_pos h0] at h ⊢
  rw [told2_fits h]
 ·rw [if_neg h0] at h
  exact absurd h h0
theorem elim_sum {b : Bks} {e p u : Int} (hok : booksOK b = true) (h0 : cellIn (elC e p u 1) b.ents.length b.accs.length = 0) (hz : ∀ a ∈ accLeaves b.accs, (valE b (elC e p u a)).2 = 0) : ((accLeaves b.accs).map fun a => (valE b (elC e p u a)).1).sum = 0 := by
 obtain ⟨S, hS⟩ : ∃ S : Int → Int, (fun a => ((sidesD b (elC e p u 1) a).map fun g => (valD b 20 g).1).sum) = S := ⟨_, rfl⟩
 have hSa : ∀ a, ((sidesD b (elC e p u 1) a).map fun g => (valD b 20 g).1).sum = S a := fun a => by rw [← hS]
 have h1 : ((accLeaves b.accs).map fun a => (valE b (elC e p u a)).1) = (accLeaves b.accs).map fun a => (if 3 = a then ((accsP b).map S).sum else 0) + -(if accPtn b a = true then S a else 0) := by
  refine List.map_congr_left fun a ha => ?_
  have hl := leaves_iff.1 ha
  have h2 := hz a ha
  rw [elim_is hok h0 hl] at h2 ⊢
  rw [net_amt h2, List.map_cons, List.sum_cons, List.map_map, List.map_map, Int.zero_add]
  have e1 : ((elimPlus b (elC e p u a)).map ((fun x => x.1) ∘ valD b 20)).sum = if 3 = a then ((accsP b).map S).sum else 0 := by
   unfold elimPlus
   by_cases h3 : a = 3
   ·rw [if_pos (show (elC e p u a).2.2.1 = 3 from h3), if_pos h3.symm]
    have := sum_flat (fun g => (valD b 20 g).1) (sidesD b (elC e p u 1)) (accsP b)
    simp only [hSa] at this
    exact this
   ·rw [if_neg (show ¬ (elC e p u a).2.2.1 = 3 from h3), if_neg (fun h => h3 h.symm)]
    rfl
  have e2 : ((elimMinus b (elC e p u a)).map ((fun x => x.1) ∘ valD b 20)).sum = if accPtn b a = true then S a else 0 := by
   unfold elimMinus
   by_cases h3 : accPtn b a = true
   ·rw [if_pos (show accPtn b (elC e p u a).2.2.1 = true from h3), if_pos h3]
    exact hSa a
   ·rw [if_neg (show ¬ accPtn b (elC e p u a).2.2.1 = true from h3), if_neg h3]
    rfl
  rw [e1, e2]
  omega
 rw [h1, sum_add, sum_one _ (leaves_nodup _) (leaves_iff.2 (three_leaf hok))]
 have h4 : ∀ (f : Int → Int) (l : List Int), (l.map fun a => -f a).sum = -(l.map f).sum := by
  intro f l
  induction l with
  | nil => rfl
  | cons x r ih => simp only [List.map_cons, List.sum_cons, ih]; omega
 rw [h4 (fun a => if accPtn b a = true then S a else 0)]
 unfold accsP
 rw [sum_filter]
 omega
end Go.Gk.V33
