/-
  Plain: which partners there are, and how many pairs at most; what eliminations come to. No program in sight.
-/
import Derived.Test.YtdangnmeligfjaaGreatDoorQe
import Derived.Test.YtdangnmeligfjaaGreatDoorTv
namespace Go.Gk.V33
open Go.RowKit
theorem ptn_iff {ps : List Pst} {e a p q : Int} : q ∈ ptnOf ps e a p ↔ q ≠ 0 ∧ ∃ x ∈ ps, x.2.1 = e ∧ x.2.2.1 = a ∧ x.1 ≤ p ∧ x.2.2.2.1 = q := by
  constructor
  · intro h
    unfold ptnOf ptnAt at h
    obtain ⟨r, _, h⟩ := List.mem_flatMap.1 h
    obtain ⟨x, hx, rfl⟩ := List.mem_map.1 h
    obtain ⟨hx, hf⟩ := List.mem_filter.1 hx
    unfold ptnRow at hf
    simp only [Bool.and_eq_true, decide_eq_true_eq, bne_iff_ne] at hf
    obtain ⟨y, hy, h1, h2⟩ := rows_mem _ _ _ x hx
    unfold pstSpot at h1
    simp only [Prod.mk.injEq] at h1
    exact ⟨hf.2, y, hy, h1.1, h1.2.1, by rw [h1.2.2]; exact hf.1, h2⟩
  · rintro ⟨h0, x, hx, rfl, rfl, hp, rfl⟩
    unfold ptnOf ptnAt
    obtain ⟨y, hy, h1⟩ := rows_there (pstSpot x) ps 0 x hx rfl
    have h2 := pers_there ps ps.length x (by rw [List.take_length]; exact hx)
    rw [List.take_length] at h2
    refine List.mem_flatMap.2 ⟨x.1, h2, List.mem_map.2 ⟨y, List.mem_filter.2 ⟨hy, ?_⟩, h1⟩⟩
    unfold ptnRow
    simp only [hp, decide_true, Bool.true_and, bne_iff_ne]
    rw [h1]; exact h0
theorem nodup_le {α : Type} [DecidableEq α] : ∀ (a b : List α), a.Nodup → (∀ x ∈ a, x ∈ b) → a.length ≤ b.length
  | [], _, _, _ => Nat.zero_le _
  | x :: a, b, hn, hs => by
    have hx := hs x List.mem_cons_self
    have h1 := nodup_le a (b.erase x) (List.nodup_cons.1 hn).2 (fun y hy => by
      have hne : y ≠ x := fun e => (List.nodup_cons.1 hn).1 (e ▸ hy)
      exact (List.mem_erase_of_ne hne).2 (hs y (List.mem_cons_of_mem _ hy)))
    rw [List.length_erase_of_mem hx] at h1
    have h2 : 0 < b.length := List.length_pos_of_mem hx
    simp only [List.length_cons]
    omega
theorem map_nodup {α β : Type} {f : α → β} (hf : ∀ x y, f x = f y → x = y) {l : List α} (h : l.Nodup) : (l.map f).Nodup := by
  unfold List.Nodup
  rw [List.pairwise_map]
  exact List.Pairwise.imp (fun hne e => hne (hf _ _ e)) h
theorem at_mem {b : Bks} {node a p x : Int} {q : Int × Int} (h : q ∈ pairsAt b node a p x) : q.1 = x ∧ q.2 ∈ ptsOf b x a p ∧ meetOf b.stakes p x q.2 = node := by
  unfold pairsAt at h
  obtain ⟨y, hy, rfl⟩ := List.mem_map.1 h
  obtain ⟨h1, h2⟩ := List.mem_filter.1 hy
  exact ⟨rfl, h1, by simpa using h2⟩
theorem pairs_mem {b : Bks} {node a p : Int} {q : Int × Int} (h : q ∈ pairsD b node a p) : q.2 ∈ ptsOf b q.1 a p ∧ meetOf b.stakes p q.1 q.2 = node := by
  unfold pairsD at h
  obtain ⟨x, _, hx⟩ := List.mem_flatMap.1 h
  obtain ⟨rfl, h1, h2⟩ := at_mem hx
  exact ⟨h1, h2⟩
theorem at_nodup (b : Bks) (node a p x : Int) : (pairsAt b node a p x).Nodup := map_nodup (fun _ _ e => (Prod.mk.inj e).2) (List.Pairwise.filter _ (List.Pairwise.filter _ (lt_nodup (accIds_lt _))))
theorem pairs_nodup (b : Bks) (node a p : Int) : (pairsD b node a p).Nodup := by
  unfold pairsD List.Nodup
  rw [List.pairwise_flatMap]
  refine ⟨fun x _ => at_nodup b node a p x, (accIds_lt _).imp ?_⟩
  intro x y hxy q hq r hr e
  have h1 := (at_mem hq).1
  have h2 := (at_mem hr).1
  subst e
  omega
theorem side_inj {acc c4 c5 : Int} (x y : Int × Int) (h : sideG acc c4 c5 x = sideG acc c4 c5 y) : x = y := by
  unfold sideG at h
  simp only [Prod.mk.injEq, true_and] at h
  exact Prod.ext h.1 h.2
theorem sides_nodup (b : Bks) (c : Rt6) (acc : Int) : (sidesD b c acc).Nodup := map_nodup side_inj (pairs_nodup ..)
theorem sides_mem {b : Bks} {c : Rt6} {acc : Int} {g : Rt6} (h : g ∈ sidesD b c acc) : g.2.2.1 = acc ∧ g ∈ (posts b.entries).map fun q => ((3, q.2.1, q.2.2.1, c.2.2.2.1, c.2.2.2.2.1, q.2.2.2.1) : Rt6) := by
  unfold sidesD at h
  obtain ⟨q, hq, rfl⟩ := List.mem_map.1 h
  refine ⟨rfl, ?_⟩
  have h1 := (pairs_mem hq).1
  unfold ptsOf at h1
  have h2 := (List.mem_filter.1 h1).2
  obtain ⟨_, x, hx, e1, e2, _, e3⟩ := ptn_iff.1 (by simpa using h2)
  refine List.mem_map.2 ⟨x, hx, ?_⟩
  unfold sideG
  rw [e1, e2, e3]
theorem accsP_nodup (b : Bks) : (accsP b).Nodup := List.Pairwise.filter _ (List.Pairwise.filter _ (lt_nodup (accIds_lt _)))
theorem plus_nodup (b : Bks) (c : Rt6) : ((accsP b).flatMap (sidesD b c)).Nodup := by
  unfold List.Nodup
  rw [List.pairwise_flatMap]
  refine ⟨fun x _ => sides_nodup b c x, List.Pairwise.imp ?_ (accsP_nodup b)⟩
  intro x y hxy q hq r hr e
  have h1 := (sides_mem hq).1
  have h2 := (sides_mem hr).1
  subst e
  exact hxy (h1.symm.trans h2)
theorem plus_len (b : Bks) (c : Rt6) : ((accsP b).flatMap (sidesD b c)).length ≤ (posts b.entries).length := by
  have := nodup_le _ _ (plus_nodup b c) (fun g hg => by
    obtain ⟨x, _, hx⟩ := List.mem_flatMap.1 hg
    exact (sides_mem hx).2)
  rwa [List.length_map] at this
theorem elim_len {b : Bks} (hok : booksOK b = true) (hpo : (posts b.entries).length ≤ 3000) (c : Rt6) : (elimOf b c).1.plus.length + (elimOf b c).1.minus.length ≤ 5000 := by
  have h1 := plus_len b c
  have h2 := sides_len (ok_stakes hok).1 c c.2.2.1
  have h3 : (elimPlus b c).length ≤ 3000 := by
    unfold elimPlus
    split
    · omega
    · exact Nat.zero_le _
  have h4 : (elimMinus b c).length ≤ 1600 := by
    unfold elimMinus
    split
    · exact h2
    · exact Nat.zero_le _
  unfold elimOf
  split
  · show (elimPlus b c).length + (elimMinus b c).length ≤ 5000
    omega
  · exact Nat.zero_le _
theorem posts_less {b : Bks} (h : BksFew b) : (posts b.entries).length ≤ 3000 := by
  have h1 := h.entries
  have h2 := posts_len b.entries 60 h.lines
  have h3 : b.entries.length * 60 ≤ 30 * 60 := Nat.mul_le_mul_right _ h1
  omega
/-- The value of an elimination, by the recipes. -/
def valE (b : Bks) (c : Rt6) : Vl := if (elimOf b c).2 = 0 then evalOf (elimOf b c).1 ((readsOf (elimOf b c).1).map (V32.valD b 20)) else (0, (elimOf b c).2)
end Go.Gk.V33
