/-
  Plain: what a node has, counted: a part of each that it holds, once.
-/
import Derived.Test.YtdangnmeligfjaaGreatDoorZ31
import Derived.Test.YtdangnmeligfjaaGreatDoorZ27
import Derived.Test.YtdangnmeligfjaaGreatDoorZ49
namespace Go.Gk

theorem stkAt_snoc (l : List Stk4) (s : Stk4) (e p : Int) : stkAt (l ++ [s]) e p = stkStep e p (stkAt l e p) s := by
  unfold stkAt; rw [List.foldl_append]; rfl
/-- None holds itself. -/
theorem up_not {n : Int} {e : Int} {p : Nat} (hp : p < 24) (he : 1 ≤ e) : ∀ (k : Nat) (l : List Stk4), l.length = k → stakesOK l n = true → stkUp l e p ≠ e := by
  intro k
  induction k with
  | zero =>
    intro l hl _ h
    obtain rfl := List.eq_nil_of_length_eq_zero hl
    have h : (0 : Int) = e := h
    omega
  | succ k ih =>
    intro l hl hok h
    obtain ⟨m, s, rfl⟩ : ∃ m s, l = m ++ [s] := ⟨l.dropLast, l.getLast (fun h => by rw [h] at hl; cases hl), (List.dropLast_concat_getLast _).symm⟩
    have hm : m.length = k := by simpa using hl
    have hokm : stakesOK m n = true := by
      unfold stakesOK stkAll at hok ⊢
      simp only [Bool.and_eq_true, List.all_eq_true, List.mem_range, decide_eq_true_eq, List.length_append, List.length_singleton] at hok ⊢
      refine ⟨by omega, fun i hi => ?_⟩
      have := hok.2 i (by omega)
      rwa [List.take_append_of_le_length (by omega)] at this
    have hlast := (stkLast_at hok (i := k) (by omega)).2 p hp
    have hget : (m ++ [s])[k]'(by omega) = s := by rw [List.getElem_append_right (by omega)]; simp
    rw [hget, List.take_of_length_le (by omega)] at hlast
    have hstep := stkAt_snoc m s e p
    by_cases hsame : stkAt (m ++ [s]) e p = stkAt m e p
    · refine ih m hm hokm ?_
      unfold stkUp at h ⊢
      rwa [hsame] at h
    · have hs : stkAt (m ++ [s]) e p = some s ∧ s.1 = e := by
        rw [hstep] at hsame ⊢
        unfold stkStep at hsame ⊢
        by_cases h1 : (s.1 == e && decide (s.2.2.2 ≤ (p : Int))) = true
        · rw [if_pos h1] at hsame ⊢
          rw [Bool.and_eq_true, beq_iff_eq] at h1
          cases hb : stkAt m e p with
          | none => exact ⟨rfl, h1.1⟩
          | some t =>
            rw [hb] at hsame
            simp only at hsame ⊢
            by_cases h2 : t.2.2.2 ≤ s.2.2.2
            · rw [if_pos h2]; exact ⟨rfl, h1.1⟩
            · rw [if_neg h2] at hsame; exact absurd rfl hsame
        · rw [if_neg h1] at hsame; exact absurd rfl hsame
      unfold stkRound at hlast
      rw [hs.2] at hlast
      have : stkTurn (m ++ [s]) p e (m ++ [s]).length e = e := by
        rw [List.length_append, List.length_singleton]
        unfold stkTurn
        rw [if_pos (by simp [h])]
        exact h
      rw [this] at hlast
      simp at hlast

theorem accIds_nodup (n : Nat) : (accIds n).Nodup := by
  unfold accIds
  refine List.pairwise_map.2 (List.Pairwise.imp (fun {a b} (h : a ≠ b) => ?_) List.nodup_range)
  omega
theorem kids_mem {b : Bks} {x p k : Int} (h : k ∈ kidsOf b x p) : (1 ≤ k ∧ k ≤ b.ents.length) ∧ stkUp b.stakes k p = x := by
  unfold kidsOf at h
  split at h
  · obtain ⟨h1, h2⟩ := List.mem_filter.1 h
    exact ⟨accIds_mem h1, by simpa [isKid] using h2⟩
  · cases h
theorem kids_nodup (b : Bks) (x p : Int) : (kidsOf b x p).Nodup := by
  unfold kidsOf
  split
  · exact List.Pairwise.filter _ (accIds_nodup _)
  · exact List.nodup_nil
theorem splits_mem {b : Bks} {a : Int} (h : a ∈ splitsOf b) : (1 ≤ a ∧ a ≤ b.accs.length) ∧ accSplit b a = true := by
  unfold splitsOf accLeaves at h
  obtain ⟨h1, h2⟩ := List.mem_filter.1 h
  exact ⟨accIds_mem (List.mem_filter.1 h1).1, h2⟩
theorem splits_nodup (b : Bks) : (splitsOf b).Nodup := by
  unfold splitsOf accLeaves
  exact List.Pairwise.filter _ (List.Pairwise.filter _ (accIds_nodup _))

/-- What stands in a part. -/
theorem cons_mem {c : Rt6} {kids splits : List Int} {d : Rt6} (h : d ∈ consPlus c kids splits) :
    (d.2.2.2.1 = c.2.2.2.1 ∧ d.2.2.2.2.1 = c.2.2.2.2.1 ∧ d.2.2.2.2.2 = 0) ∧
      (((d.1 = 3 ∨ d.1 = 6) ∧ d.2.1 = c.2.1 ∧ d.2.2.1 = c.2.2.1) ∨ (d.1 = 4 ∧ d.2.1 ∈ kids ∧ d.2.2.1 = c.2.2.1) ∨ (d.1 = 5 ∧ d.2.1 ∈ kids ∧ d.2.2.1 ∈ splits)) := by
  unfold consPlus consMin at h
  rcases List.mem_cons.1 h with rfl | h
  · exact ⟨⟨rfl, rfl, rfl⟩, .inl ⟨.inl rfl, rfl, rfl⟩⟩
  · rcases List.mem_append.1 h with h | h
    · obtain ⟨k, hk, rfl⟩ := List.mem_map.1 h
      exact ⟨⟨rfl, rfl, rfl⟩, .inr (.inl ⟨rfl, hk, rfl⟩)⟩
    · rcases List.mem_append.1 h with h | h
      · split at h
        · obtain ⟨k, hk, h⟩ := List.mem_flatMap.1 h
          obtain ⟨a, ha, rfl⟩ := List.mem_map.1 h
          exact ⟨⟨rfl, rfl, rfl⟩, .inr (.inr ⟨rfl, hk, ha⟩)⟩
        · cases h
      · rw [List.mem_singleton] at h
        subst h
        exact ⟨⟨rfl, rfl, rfl⟩, .inl ⟨.inr rfl, rfl, rfl⟩⟩
theorem min_nodup (c : Rt6) {splits : List Int} (hs : splits.Nodup) : ∀ {kids : List Int}, kids.Nodup → (consMin c kids splits).Nodup
  | [], _ => List.nodup_nil
  | k :: r, hk => by
    have h2 := List.nodup_cons.1 hk
    have ih := min_nodup c hs h2.2
    unfold consMin at ih ⊢
    rw [List.flatMap_cons, List.nodup_append]
    refine ⟨List.pairwise_map.2 (List.Pairwise.imp (fun {a b} (h : a ≠ b) (e : ofC c 5 k a = ofC c 5 k b) => h (by unfold ofC at e; injection e with _ e; injection e with _ e; injection e)) hs), ih, fun x hx y hy e => ?_⟩
    obtain ⟨a, _, rfl⟩ := List.mem_map.1 hx
    obtain ⟨k', hk', hy⟩ := List.mem_flatMap.1 hy
    obtain ⟨a', _, rfl⟩ := List.mem_map.1 hy
    unfold ofC at e
    injection e with _ e
    injection e with e _
    subst e
    exact h2.1 hk'
theorem cons_nodup (c : Rt6) {kids splits : List Int} (hk : kids.Nodup) (hs : splits.Nodup) : (consPlus c kids splits).Nodup := by
  have hM : ∀ d ∈ (if c.2.2.1 = 2 then consMin c kids splits else []), d.1 = 5 := fun d hd => by
    split at hd
    · obtain ⟨k, _, hd⟩ := List.mem_flatMap.1 hd
      obtain ⟨a, _, rfl⟩ := List.mem_map.1 hd
      rfl
    · cases hd
  have hK : ∀ d ∈ kids.map (fun k => ofC c 4 k c.2.2.1), d.1 = 4 := fun d hd => by
    obtain ⟨k, _, rfl⟩ := List.mem_map.1 hd
    rfl
  unfold consPlus
  refine List.nodup_cons.2 ⟨fun h => ?_, List.nodup_append.2 ⟨?_, List.nodup_append.2 ⟨?_, by simp, fun x hx y hy e => ?_⟩, fun x hx y hy e => ?_⟩⟩
  · rcases List.mem_append.1 h with h | h
    · have := hK _ h; exact absurd this (by simp [ofC])
    · rcases List.mem_append.1 h with h | h
      · have := hM _ h; exact absurd this (by simp [ofC])
      · rw [List.mem_singleton] at h
        unfold ofC at h
        injection h with h
        exact absurd h (by decide)
  · exact List.pairwise_map.2 (List.Pairwise.imp (fun {a b} (h : a ≠ b) (e : ofC c 4 a c.2.2.1 = ofC c 4 b c.2.2.1) => h (by unfold ofC at e; injection e with _ e; injection e)) hk)
  · split
    · exact min_nodup c hs hk
    · exact List.nodup_nil
  · rw [List.mem_singleton] at hy
    have := hM _ hx
    rw [e, hy] at this
    exact absurd this (by simp [ofC])
  · have h4 := hK _ hx
    rw [e] at h4
    rcases List.mem_append.1 hy with h | h
    · have := hM _ h; omega
    · rw [List.mem_singleton] at h
      rw [h] at h4
      exact absurd h4 (by simp [ofC])
/-- How many of a rule there are. -/
def ruleN (l : List Rt6) (r : Int) : Nat := (l.filter fun d => d.1 == r).length
theorem ruleN_snoc (l : List Rt6) (d : Rt6) (r : Int) : ruleN (l ++ [d]) r = ruleN l r + (if d.1 = r then 1 else 0) := by
  unfold ruleN
  rw [List.filter_append, List.length_append]
  by_cases h : d.1 = r <;> simp [h]
theorem ruleN_app (a b : List Rt6) (r : Int) : ruleN (a ++ b) r = ruleN a r + ruleN b r := by
  unfold ruleN; rw [List.filter_append, List.length_append]
theorem ruleN_all {l : List Rt6} {q r : Int} (h : ∀ d ∈ l, d.1 = q) : ruleN l r = if q = r then l.length else 0 := by
  unfold ruleN
  by_cases hq : q = r
  · rw [if_pos hq, List.filter_eq_self.2 fun d hd => by rw [h d hd]; simpa using hq]
  · rw [if_neg hq, List.filter_eq_nil_iff.2 fun d hd => by rw [h d hd]; simpa using hq]; rfl
theorem minor_len (c : Rt6) (splits : List Int) : ∀ kids : List Int, (consMin c kids splits).length = kids.length * splits.length
  | [] => by simp [consMin]
  | k :: r => by
    have ih := minor_len c splits r
    unfold consMin at ih ⊢
    rw [List.flatMap_cons, List.length_append, List.length_map, ih, List.length_cons, Nat.add_mul]
    omega
theorem cons_rules (c : Rt6) (kids splits : List Int) : ruleN (consPlus c kids splits) 3 = 1 ∧ ruleN (consPlus c kids splits) 4 = kids.length ∧ ruleN (consPlus c kids splits) 5 = (if c.2.2.1 = 2 then kids.length * splits.length else 0) ∧ ruleN (consPlus c kids splits) 6 = 1 := by
  have hM : ∀ d ∈ (if c.2.2.1 = 2 then consMin c kids splits else []), d.1 = 5 := fun d hd => by
    split at hd
    · obtain ⟨k, _, hd⟩ := List.mem_flatMap.1 hd
      obtain ⟨a, _, rfl⟩ := List.mem_map.1 hd
      rfl
    · cases hd
  have hK : ∀ d ∈ kids.map (fun k => ofC c 4 k c.2.2.1), d.1 = 4 := fun d hd => by
    obtain ⟨k, _, rfl⟩ := List.mem_map.1 hd
    rfl
  have hl : (if c.2.2.1 = 2 then consMin c kids splits else []).length = if c.2.2.1 = 2 then kids.length * splits.length else 0 := by
    split
    · exact minor_len c splits kids
    · rfl
  have hA : ∀ r : Int, ruleN (consPlus c kids splits) r = (if (3 : Int) = r then 1 else 0) + ((if (4 : Int) = r then kids.length else 0) + ((if (5 : Int) = r then (if c.2.2.1 = 2 then kids.length * splits.length else 0) else 0) + (if (6 : Int) = r then 1 else 0))) := fun r => by
    have e : consPlus c kids splits = [ofC c 3 c.2.1 c.2.2.1] ++ (kids.map (fun k => ofC c 4 k c.2.2.1) ++ ((if c.2.2.1 = 2 then consMin c kids splits else []) ++ [ofC c 6 c.2.1 c.2.2.1])) := rfl
    rw [e, ruleN_app, ruleN_app, ruleN_app, ruleN_all hK, ruleN_all hM, List.length_map, hl, ruleN_all (q := 3) (by simp [ofC]), ruleN_all (q := 6) (by simp [ofC])]
    simp
  refine ⟨by rw [hA]; simp, by rw [hA]; simp, by rw [hA]; simp, by rw [hA]; simp⟩
theorem ruleN_le (l : List Rt6) (r : Int) : ruleN l r ≤ l.length := List.length_filter_le _ _
theorem cons_len_le (c : Rt6) (kids splits : List Int) : (consPlus c kids splits).length ≤ 2 + kids.length + kids.length * splits.length := by
  unfold consPlus
  simp only [List.length_cons, List.length_append, List.length_map, List.length_nil]
  split
  · rw [minor_len]; omega
  · simp; omega
/-- What is known of a part. -/
def PartOk (b : Bks) (c2 c3 c4 c5 : Int) (d : Rt6) : Prop := ∃ e a : Int, ∃ k : Nat, (k < b.accs.length ∧ a = (k : Int) + 1) ∧ (1 ≤ e ∧ e ≤ b.ents.length) ∧
  ((d = (3, e, a, c4, c5, 0) ∧ (e != c2) = false ∧ (a != c3) = false ∧ (stkUp b.stakes e c4 == c2) = false) ∨
   (d = (6, e, a, c4, c5, 0) ∧ (e != c2) = false ∧ (a != c3) = false ∧ (stkUp b.stakes e c4 == c2) = false) ∨
   (d = (4, e, a, c4, c5, 0) ∧ True ∧ (a != c3) = false ∧ (stkUp b.stakes e c4 == c2) = true) ∨
   (d = (5, e, a, c4, c5, 0) ∧ True ∧ accSplit b a = true ∧ (stkUp b.stakes e c4 == c2) = true))
theorem leaf_is {l : List Acc} {a : Int} (h : accLeaf l a = true) : 1 ≤ a ∧ a ≤ l.length := by
  unfold accLeaf accIs at h
  simp only [Bool.and_eq_true, decide_eq_true_eq] at h
  exact h.1
theorem part_ok {b : Bks} {c1 c2 c3 c4 c5 c6 : Int} (hok : stakesOK b.stakes b.ents.length = true) (hm : mayOf b (c1, c2, c3, c4, c5, c6) 7 7 = 0) {d : Rt6} (hd : d ∈ consPlus (c1, c2, c3, c4, c5, c6) (kidsOf b c2 c4) (splitsOf b)) : PartOk b c2 c3 c4 c5 d := by
  obtain ⟨_, ⟨hp0, hp1⟩, he, hl⟩ := may_facts hm
  simp only at hp0 hp1 he hl
  obtain ⟨p, rfl⟩ : ∃ p : Nat, c4 = (p : Int) := ⟨c4.toNat, by omega⟩
  have hla := leaf_is hl
  obtain ⟨⟨h1, h2, h3⟩, h4⟩ := cons_mem hd
  obtain ⟨d1, d2, d3, d4, d5, d6⟩ := d
  simp only at h1 h2 h3 h4
  subst h1 h2 h3
  rcases h4 with ⟨h5, rfl, rfl⟩ | ⟨rfl, h6, rfl⟩ | ⟨rfl, h6, h7⟩
  · have hnot : (stkUp b.stakes d2 p == d2) = false := by
      rw [beq_eq_false_iff_ne]
      exact up_not (by omega) he.1 _ _ rfl hok
    refine ⟨d2, d3, (d3 - 1).toNat, ⟨by omega, by omega⟩, he, ?_⟩
    rcases h5 with rfl | rfl
    · exact .inl ⟨rfl, by simp, by simp, hnot⟩
    · exact .inr (.inl ⟨rfl, by simp, by simp, hnot⟩)
  · obtain ⟨h8, h9⟩ := kids_mem h6
    exact ⟨d2, d3, (d3 - 1).toNat, ⟨by omega, by omega⟩, h8, .inr (.inr (.inl ⟨rfl, trivial, by simp, by rw [h9]; simp⟩))⟩
  · obtain ⟨h8, h9⟩ := kids_mem h6
    obtain ⟨h10, h11⟩ := splits_mem h7
    exact ⟨d2, d3, (d3 - 1).toNat, ⟨by omega, by omega⟩, h8, .inr (.inr (.inr ⟨rfl, trivial, h11, by rw [h9]; simp⟩))⟩
open Go.RowKit in
/-- The counts, rule by rule. -/
def cntL (l : List Rt6) : Array Value := #[.int .i64 (ruleN l 0 : Int), .int .i64 (ruleN l 1 : Int), .int .i64 (ruleN l 2 : Int), .int .i64 (ruleN l 3 : Int), .int .i64 (ruleN l 4 : Int), .int .i64 (ruleN l 5 : Int), .int .i64 (ruleN l 6 : Int), .int .i64 (ruleN l 7 : Int)]
theorem cnt_snoc (l : List Rt6) (d : Rt6) (r : Nat) (h3 : 3 ≤ r) (h6 : r ≤ 6) (hd : d.1 = (r : Int)) : cntL (l ++ [d]) = (cntL l).setIfInBounds r (.int .i64 ((ruleN l r : Int) + 1)) := by
  unfold cntL
  simp only [ruleN_snoc, hd]
  rcases (by omega : r = 3 ∨ r = 4 ∨ r = 5 ∨ r = 6) with rfl | rfl | rfl | rfl <;> simp
end Go.Gk
