/-
  Plain: what a node has, counted: a part of each that it holds, once.
-/
import Derived.Test.YtnmogbhmelpbnaaGreatZ31
import Derived.Test.YtnmogbhmelpbnaaGreatZ27
import Derived.Test.YtnmogbhmelpbnaaGreatZ35
import Derived.Test.YtnmogbhmelpbnaaGreatZ33
import Derived.Test.YtnmogbhmelpbnaaGreatZ24
namespace Go.Gk

theorem stkAt_snoc (l : List Stk4) (s : Stk4) (e p : Int) : stkAt (l ++ [s]) e p = stkStep e p (stkAt l e p) s := by
  unfold stkAt; rw [List.foldl_append]; rfl
/-- None holds itself. -/
theorem up_not {n : Int} {e : Int} {p : Nat} (hp : p < 24) (he : 1 ≤ e) : ∀ (k : Nat) (l : List Stk4), l.length = k → stakesOK l n = true → stkUp l e p ≠ e := by
  intro k
  induction k with
  | zero =>
    intro l hl _ h
    obtain rfl := List.eq_nil_of_length_eq_zero hl
    have h : (0 : Int) = e := h
    omega
  | succ k ih =>
    intro l hl hok h
    obtain ⟨m, s, rfl⟩ : ∃ m s, l = m ++ [s] := ⟨l.dropLast, l.getLast (fun h => by rw [h] at hl; cases hl), (List.dropLast_concat_getLast _).symm⟩
    have hm : m.length = k := by simpa using hl
    have hokm : stakesOK m n = true := by
      unfold stakesOK stkAll at hok ⊢
      simp only [Bool.and_eq_true, List.all_eq_true, List.mem_range, decide_eq_true_eq, List.length_append, List.length_singleton] at hok ⊢
      refine ⟨by omega, fun i hi => ?_⟩
      have := hok.2 i (by omega)
      rwa [List.take_append_of_le_length (by omega)] at this
    have hlast := (stkLast_at hok (i := k) (by omega)).2 p hp
    have hget : (m ++ [s])[k]'(by omega) = s := by rw [List.getElem_append_right (by omega)]; simp
    rw [hget, List.take_of_length_le (by omega)] at hlast
    have hstep := stkAt_snoc m s e p
    by_cases hsame : stkAt (m ++ [s]) e p = stkAt m e p
    · refine ih m hm hokm ?_
      unfold stkUp at h ⊢
      rwa [hsame] at h
    · have hs : stkAt (m ++ [s]) e p = some s ∧ s.1 = e := by
        rw [hstep] at hsame ⊢
        unfold stkStep at hsame ⊢
        by_cases h1 : (s.1 == e && decide (s.2.2.2 ≤ (p : Int))) = true
        · rw [if_pos h1] at hsame ⊢
          rw [Bool.and_eq_true, beq_iff_eq] at h1
          cases hb : stkAt m e p with
          | none => exact ⟨rfl, h1.1⟩
          | some t =>
            rw [hb] at hsame
            simp only at hsame ⊢
            by_cases h2 : t.2.2.2 ≤ s.2.2.2
            · rw [if_pos h2]; exact ⟨rfl, h1.1⟩
            · rw [if_neg h2] at hsame; exact absurd rfl hsame
        · rw [if_neg h1] at hsame; exact absurd rfl hsame
      unfold stkRound at hlast
      rw [hs.2] at hlast
      have : stkTurn (m ++ [s]) p e (m ++ [s]).length e = e := by
        rw [List.length_append, List.length_singleton]
        unfold stkTurn
        rw [if_pos (by simp [h])]
        exact h
      rw [this] at hlast
      simp at hlast

theorem accIds_nodup (n : Nat) : (accIds n).Nodup := by
  unfold accIds
  refine List.pairwise_map.2 (List.Pairwise.imp (fun {a b} (h : a ≠ b) => ?_) List.nodup_range)
  omega
theorem kids_mem {b : Bks} {x p k : Int} (h : k ∈ kidsOf b x p) : (1 ≤ k ∧ k ≤ b.ents.length) ∧ stkUp b.stakes k p = x := by
  unfold kidsOf at h
  split at h
  · obtain ⟨h1, h2⟩ := List.mem_filter.1 h
    exact ⟨accIds_mem h1, by simpa [isKid] using h2⟩
  · cases h
theorem kids_nodup (b : Bks) (x p : Int) : (kidsOf b x p).Nodup := by
  unfold kidsOf
  split
  · exact List.Pairwise.filter _ (accIds_nodup _)
  · exact List.nodup_nil
theorem splits_mem {b : Bks} {a : Int} (h : a ∈ splitsOf b) : (1 ≤ a ∧ a ≤ b.accs.length) ∧ accSplit b a = true := by
  unfold splitsOf accLeaves at h
  obtain ⟨h1, h2⟩ := List.mem_filter.1 h
  exact ⟨accIds_mem (List.mem_filter.1 h1).1, h2⟩
theorem splits_nodup (b : Bks) : (splitsOf b).Nodup := by
  unfold splitsOf accLeaves
  exact List.Pairwise.filter _ (List.Pairwise.filter _ (accIds_nodup _))

/-- What stands in a part. -/
theorem cons_mem {c : Rt6} {kids splits : List Int} {d : Rt6} (h : d ∈ consPlus c kids splits) :
    (d.2.2.2.1 = c.2.2.2.1 ∧ d.2.2.2.2.1 = c.2.2.2.2.1 ∧ d.2.2.2.2.2 = 0) ∧
      (((d.1 = 3 ∨ d.1 = 6) ∧ d.2.1 = c.2.1 ∧ d.2.2.1 = c.2.2.1) ∨ (d.1 = 4 ∧ d.2.1 ∈ kids ∧ d.2.2.1 = c.2.2.1) ∨ (d.1 = 5 ∧ d.2.1 ∈ kids ∧ d.2.2.1 ∈ splits)) := by
  unfold consPlus consMin at h
  rcases List.mem_cons.1 h with rfl | h
  · exact ⟨⟨rfl, rfl, rfl⟩, .inl ⟨.inl rfl, rfl, rfl⟩⟩
  · rcases List.mem_append.1 h with h | h
    · obtain ⟨k, hk, rfl⟩ := List.mem_map.1 h
      exact ⟨⟨rfl, rfl, rfl⟩, .inr (.inl ⟨rfl, hk, rfl⟩)⟩
    · rcases List.mem_append.1 h with h | h
      · split at h
        · obtain ⟨k, hk, h⟩ := List.mem_flatMap.1 h
          obtain ⟨a, ha, rfl⟩ := List.mem_map.1 h
          exact ⟨⟨rfl, rfl, rfl⟩, .inr (.inr ⟨rfl, hk, ha⟩)⟩
        · cases h
      · rw [List.mem_singleton] at h
        subst h
        exact ⟨⟨rfl, rfl, rfl⟩, .inl ⟨.inr rfl, rfl, rfl⟩⟩
theorem min_nodup (c : Rt6) {splits : List Int} (hs : splits.Nodup) : ∀ {kids : List Int}, kids.Nodup → (consMin c kids splits).Nodup
  | [], _ => List.nodup_nil
  | k :: r, hk => by
    have h2 := List.nodup_cons.1 hk
    have ih := min_nodup c hs h2.2
    unfold consMin at ih ⊢
    rw [List.flatMap_cons, List.nodup_append]
    refine ⟨List.pairwise_map.2 (List.Pairwise.imp (fun {a b} (h : a ≠ b) (e : ofC c 5 k a = ofC c 5 k b) => h (by unfold ofC at e; injection e with _ e; injection e with _ e; injection e)) hs), ih, fun x hx y hy e => ?_⟩
    obtain ⟨a, _, rfl⟩ := List.mem_map.1 hx
    obtain ⟨k', hk', hy⟩ := List.mem_flatMap.1 hy
    obtain ⟨a', _, rfl⟩ := List.mem_map.1 hy
    unfold ofC at e
    injection e with _ e
    injection e with e _
    subst e
    exact h2.1 hk'
theorem cons_nodup (c : Rt6) {kids splits : List Int} (hk : kids.Nodup) (hs : splits.Nodup) : (consPlus c kids splits).Nodup := by
  have hM : ∀ d ∈ (if c.2.2.1 = 2 then consMin c kids splits else []), d.1 = 5 := fun d hd => by
    split at hd
    · obtain ⟨k, _, hd⟩ := List.mem_flatMap.1 hd
      obtain ⟨a, _, rfl⟩ := List.mem_map.1 hd
      rfl
    · cases hd
  have hK : ∀ d ∈ kids.map (fun k => ofC c 4 k c.2.2.1), d.1 = 4 := fun d hd => by
    obtain ⟨k, _, rfl⟩ := List.mem_map.1 hd
    rfl
  unfold consPlus
  refine List.nodup_cons.2 ⟨fun h => ?_, List.nodup_append.2 ⟨?_, List.nodup_append.2 ⟨?_, by simp, fun x hx y hy e => ?_⟩, fun x hx y hy e => ?_⟩⟩
  · rcases List.mem_append.1 h with h | h
    · have := hK _ h; exact absurd this (by simp [ofC])
    · rcases List.mem_append.1 h with h | h
      · have := hM _ h; exact absurd this (by simp [ofC])
      · rw [List.mem_singleton] at h
        unfold ofC at h
        injection h with h
        exact absurd h (by decide)
  · exact List.pairwise_map.2 (List.Pairwise.imp (fun {a b} (h : a ≠ b) (e : ofC c 4 a c.2.2.1 = ofC c 4 b c.2.2.1) => h (by unfold ofC at e; injection e with _ e; injection e)) hk)
  · split
    · exact min_nodup c hs hk
    · exact List.nodup_nil
  · rw [List.mem_singleton] at hy
    have := hM _ hx
    rw [e, hy] at this
    exact absurd this (by simp [ofC])
  · have h4 := hK _ hx
    rw [e] at h4
    rcases List.mem_append.1 hy with h | h
    · have := hM _ h; omega
    · rw [List.mem_singleton] at h
      rw [h] at h4
      exact absurd h4 (by simp [ofC])
/-- How many of a rule there are. -/
def ruleN (l : List Rt6) (r : Int) : Nat := (l.filter fun d => d.1 == r).length
theorem ruleN_snoc (l : List Rt6) (d : Rt6) (r : Int) : ruleN (l ++ [d]) r = ruleN l r + (if d.1 = r then 1 else 0) := by
  unfold ruleN
  rw [List.filter_append, List.length_append]
  by_cases h : d.1 = r <;> simp [h]
theorem ruleN_app (a b : List Rt6) (r : Int) : ruleN (a ++ b) r = ruleN a r + ruleN b r := by
  unfold ruleN; rw [List.filter_append, List.length_append]
theorem ruleN_all {l : List Rt6} {q r : Int} (h : ∀ d ∈ l, d.1 = q) : ruleN l r = if q = r then l.length else 0 := by
  unfold ruleN
  by_cases hq : q = r
  · rw [if_pos hq, List.filter_eq_self.2 fun d hd => by rw [h d hd]; simpa using hq]
  · rw [if_neg hq, List.filter_eq_nil_iff.2 fun d hd => by rw [h d hd]; simpa using hq]; rfl
theorem minor_len (c : Rt6) (splits : List Int) : ∀ kids : List Int, (consMin c kids splits).length = kids.length * splits.length
  | [] => by simp [consMin]
  | k :: r => by
    have ih := minor_len c splits r
    unfold consMin at ih ⊢
    rw [List.flatMap_cons, List.length_append, List.length_map, ih, List.length_cons, Nat.add_mul]
    omega
theorem cons_rules (c : Rt6) (kids splits : List Int) : ruleN (consPlus c kids splits) 3 = 1 ∧ ruleN (consPlus c kids splits) 4 = kids.length ∧ ruleN (consPlus c kids splits) 5 = (if c.2.2.1 = 2 then kids.length * splits.length else 0) ∧ ruleN (consPlus c kids splits) 6 = 1 := by
  have hM : ∀ d ∈ (if c.2.2.1 = 2 then consMin c kids splits else []), d.1 = 5 := fun d hd => by
    split at hd
    · obtain ⟨k, _, hd⟩ := List.mem_flatMap.1 hd
      obtain ⟨a, _, rfl⟩ := List.mem_map.1 hd
      rfl
    · cases hd
  have hK : ∀ d ∈ kids.map (fun k => ofC c 4 k c.2.2.1), d.1 = 4 := fun d hd => by
    obtain ⟨k, _, rfl⟩ := List.mem_map.1 hd
    rfl
  have hl : (if c.2.2.1 = 2 then consMin c kids splits else []).length = if c.2.2.1 = 2 then kids.length * splits.length else 0 := by
    split
    · exact minor_len c splits kids
    · rfl
  have hA : ∀ r : Int, ruleN (consPlus c kids splits) r = (if (3 : Int) = r then 1 else 0) + ((if (4 : Int) = r then kids.length else 0) + ((if (5 : Int) = r then (if c.2.2.1 = 2 then kids.length * splits.length else 0) else 0) + (if (6 : Int) = r then 1 else 0))) := fun r => by
    have e : consPlus c kids splits = [ofC c 3 c.2.1 c.2.2.1] ++ (kids.map (fun k => ofC c 4 k c.2.2.1) ++ ((if c.2.2.1 = 2 then consMin c kids splits else []) ++ [ofC c 6 c.2.1 c.2.2.1])) := rfl
    rw [e, ruleN_app, ruleN_app, ruleN_app, ruleN_all hK, ruleN_all hM, List.length_map, hl, ruleN_all (q := 3) (by simp [ofC]), ruleN_all (q := 6) (by simp [ofC])]
    simp
  refine ⟨by rw [hA]; simp, by rw [hA]; simp, by rw [hA]; simp, by rw [hA]; simp⟩
theorem ruleN_le (l : List Rt6) (r : Int) : ruleN l r ≤ l.length := List.length_filter_le _ _
theorem cons_len_le (c : Rt6) (kids splits : List Int) : (consPlus c kids splits).length ≤ 2 + kids.length + kids.length * splits.length := by
  unfold consPlus
  simp only [List.length_cons, List.length_append, List.length_map, List.length_nil]
  split
  · rw [minor_len]; omega
  · simp; omega
/-- What is known of a part. -/
def PartOk (b : Bks) (c2 c3 c4 c5 : Int) (d : Rt6) : Prop := ∃ e a : Int, ∃ k : Nat, (k < b.accs.length ∧ a = (k : Int) + 1) ∧ (1 ≤ e ∧ e ≤ b.ents.length) ∧
  ((d = (3, e, a, c4, c5, 0) ∧ (e != c2) = false ∧ (a != c3) = false ∧ (stkUp b.stakes e c4 == c2) = false) ∨
   (d = (6, e, a, c4, c5, 0) ∧ (e != c2) = false ∧ (a != c3) = false ∧ (stkUp b.stakes e c4 == c2) = false) ∨
   (d = (4, e, a, c4, c5, 0) ∧ True ∧ (a != c3) = false ∧ (stkUp b.stakes e c4 == c2) = true) ∨
   (d = (5, e, a, c4, c5, 0) ∧ True ∧ accSplit b a = true ∧ (stkUp b.stakes e c4 == c2) = true))
theorem leaf_is {l : List Acc} {a : Int} (h : accLeaf l a = true) : 1 ≤ a ∧ a ≤ l.length := by
  unfold accLeaf accIs at h
  simp only [Bool.and_eq_true, decide_eq_true_eq] at h
  exact h.1
theorem part_ok {b : Bks} {c1 c2 c3 c4 c5 c6 : Int} (hok : stakesOK b.stakes b.ents.length = true) (hm : mayOf b (c1, c2, c3, c4, c5, c6) 7 7 = 0) {d : Rt6} (hd : d ∈ consPlus (c1, c2, c3, c4, c5, c6) (kidsOf b c2 c4) (splitsOf b)) : PartOk b c2 c3 c4 c5 d := by
  obtain ⟨_, ⟨hp0, hp1⟩, he, hl⟩ := may_facts hm
  simp only at hp0 hp1 he hl
  obtain ⟨p, rfl⟩ : ∃ p : Nat, c4 = (p : Int) := ⟨c4.toNat, by omega⟩
  have hla := leaf_is hl
  obtain ⟨⟨h1, h2, h3⟩, h4⟩ := cons_mem hd
  obtain ⟨d1, d2, d3, d4, d5, d6⟩ := d
  simp only at h1 h2 h3 h4
  subst h1 h2 h3
  rcases h4 with ⟨h5, rfl, rfl⟩ | ⟨rfl, h6, rfl⟩ | ⟨rfl, h6, h7⟩
  · have hnot : (stkUp b.stakes d2 p == d2) = false := by
      rw [beq_eq_false_iff_ne]
      exact up_not (by omega) he.1 _ _ rfl hok
    refine ⟨d2, d3, (d3 - 1).toNat, ⟨by omega, by omega⟩, he, ?_⟩
    rcases h5 with rfl | rfl
    · exact .inl ⟨rfl, by simp, by simp, hnot⟩
    · exact .inr (.inl ⟨rfl, by simp, by simp, hnot⟩)
  · obtain ⟨h8, h9⟩ := kids_mem h6
    exact ⟨d2, d3, (d3 - 1).toNat, ⟨by omega, by omega⟩, h8, .inr (.inr (.inl ⟨rfl, trivial, by simp, by rw [h9]; simp⟩))⟩
  · obtain ⟨h8, h9⟩ := kids_mem h6
    obtain ⟨h10, h11⟩ := splits_mem h7
    exact ⟨d2, d3, (d3 - 1).toNat, ⟨by omega, by omega⟩, h8, .inr (.inr (.inr ⟨rfl, trivial, h11, by rw [h9]; simp⟩))⟩
open Go.RowKit in
/-- The counts, rule by rule. -/
def cntL (l : List Rt6) : Array Value := #[.int .i64 (ruleN l 0 : Int), .int .i64 (ruleN l 1 : Int), .int .i64 (ruleN l 2 : Int), .int .i64 (ruleN l 3 : Int), .int .i64 (ruleN l 4 : Int), .int .i64 (ruleN l 5 : Int), .int .i64 (ruleN l 6 : Int), .int .i64 (ruleN l 7 : Int)]
theorem cnt_snoc (l : List Rt6) (d : Rt6) (r : Nat) (h3 : 3 ≤ r) (h6 : r ≤ 6) (hd : d.1 = (r : Int)) : cntL (l ++ [d]) = (cntL l).setIfInBounds r (.int .i64 ((ruleN l r : Int) + 1)) := by
  unfold cntL
  simp only [ruleN_snoc, hd]
  rcases (by omega : r = 3 ∨ r = 4 ∨ r = 5 ∨ r = 6) with rfl | rfl | rfl | rfl <;> simp
end Go.Gk

/-
  ConsHolds: the walk.
-/
namespace Go.Proofs.YtnmogbhmelpbnaaGreat
open Go.RowKit Go.Gk

set_option maxRecDepth 100000 in
set_option maxHeartbeats 800000 in
theorem vwforest_any {w : World} {bv bi B t mr mp : Nat} {e a s r l n lv : Value} {fs : List Value} {b : Bks} {us : List (Ent × Value)} (h : Vw w bv bi B t mr mp e a s r l n lv fs b us) (x : Int) :
    Calls Tryz.prog 18 #[.pointer (some ⟨bv, 0, none⟩), .int .i64 x] w fun y w' => ∃ q, y = .returned (.pointer q) ∧ w = w' ∧ ∀ p g : Nat, x = (p : Int) → p < 24 → fs[p]? = some (.pointer (some ⟨g, 0, none⟩)) → q = some ⟨g, 0, none⟩ := by
  by_cases hx : 0 ≤ x ∧ x < 24
  · obtain ⟨p, rfl⟩ : ∃ p : Nat, x = (p : Int) := ⟨x.toNat, by omega⟩
    obtain ⟨g, hg, _⟩ := h.forests p (by omega)
    refine (vwforest_at h (by omega) hg).mono ?_
    rintro _ _ ⟨rfl, rfl⟩
    refine ⟨_, rfl, rfl, fun p' g' hp _ hg' => ?_⟩
    obtain rfl : p = p' := by omega
    rw [hg] at hg'
    injection hg' with e1
    injection e1
  · have hM := vwmade_any h
    have hx' : ¬ (0 ≤ x ∧ x < 24) := hx
    have HX := Lib.hid hx'
    rcases (by omega : x < 0 ∨ 24 ≤ x) with h1 | h1
    · clear h hx hx'
      go_enter Tryz.func18, Tryz.ntmps18
      go_wp2_with fail
      refine hM.mono ?_
      rintro _ _ ⟨rfl, rfl⟩
      clear hM
      go_wp2
      go_ret
      exact ⟨_, rfl, rfl, fun p g hp h2 _ => absurd HX.out (by omega)⟩
    · have h2 : ¬ x < 0 := by omega
      clear h hx hx'
      go_enter Tryz.func18, Tryz.ntmps18
      go_wp2_with fail
      refine hM.mono ?_
      rintro _ _ ⟨rfl, rfl⟩
      clear hM
      go_wp2
      go_ret
      exact ⟨_, rfl, rfl, fun p g hp h2 _ => absurd HX.out (by omega)⟩

set_option maxRecDepth 100000 in
set_option maxHeartbeats 25600000 in
theorem consholds_any {w : World} {e a s r l n : Value} {b : Bks} {us : List (Ent × Value)} (h : BksAt w e a s r l n b us) (h64 : Bks64 b) (c1 c2 c3 c4 c5 c6 : Int) :
    Calls Tryz.prog 4 #[.agg #[e, a, s, r, l, n], .agg #[.int .i64 c1, .int .i64 c2, .int .i64 c3, .int .i64 c4, .int .i64 c5, .int .i64 c6]] w fun x w' => x = .returned (.bool true) ∧ Tch (fun _ => False) w w' := by
  have ta := Tch.alloc (fun _ => False) w (.cells #[e, a, s, r, l, n] 29)
  have tb := Tch.alloc (fun _ => False) (w.alloc (.cells #[e, a, s, r, l, n] 29)) (.cells #[.int .i64 c1, .int .i64 c2, .int .i64 c3, .int .i64 c4, .int .i64 c5, .int .i64 c6] 31)
  have tw := ta.trans tb
  have hbB := (Blk.new w 29 #[e, a, s, r, l, n]).keep tb id
  have hbC := Blk.new2 w (.cells #[e, a, s, r, l, n] 29) 31 #[.int .i64 c1, .int .i64 c2, .int .i64 c3, .int .i64 c4, .int .i64 c5, .int .i64 c6]
  have HF := Lib.hid (few26_any (h.keep tw))
  have HW := Lib.hid (h.keep tw)
  have hsz : ((w.alloc (.cells #[e, a, s, r, l, n] 29)).alloc (.cells #[.int .i64 c1, .int .i64 c2, .int .i64 c3, .int .i64 c4, .int .i64 c5, .int .i64 c6] 31)).heap.size = w.heap.size + 2 := by simp
  obtain ⟨Ae, ce, rfl, _, _⟩ := h.ents.form
  obtain ⟨Aa, ca, rfl, _, _⟩ := h.accs.form
  obtain ⟨As, cs, rfl, _, _⟩ := h.stakes.form
  obtain ⟨Ar, cr, rfl, _, _⟩ := h.rates.form
  obtain ⟨Al, cl, rfl, _, _⟩ := h.locks.form
  obtain ⟨An, cn, rfl, _, _⟩ := h.ent.row.form
  clear ta tb h
  obtain ⟨fw, hfw⟩ : ∃ fw, few26 b = fw := ⟨_, rfl⟩
  rw [hfw] at HF
  go_enter Tryz.func4, Tryz.ntmps4
  go_wp2_with fail
  generalize (w.alloc (.cells #[.slice Ae b.ents.length ce, .slice Aa b.accs.length ca, .slice As b.stakes.length cs, .slice Ar b.rates.length cr, .slice Al b.locks.length cl, .slice An us.length cn] 29)).alloc (.cells #[.int .i64 c1, .int .i64 c2, .int .i64 c3, .int .i64 c4, .int .i64 c5, .int .i64 c6] 31) = W at *
  generalize hzw : w.heap.size = z at *
  have HZW := Lib.hid hzw
  clear hzw
  refine HF.out.mono ?_
  rintro _ w1 ⟨rfl, t1⟩
  clear HF
  have tt1 := tw.trans t1
  cases fw
  · clear hfw
    go_wp2_with fail
    refine (awake36_any w1).mono ?_
    rintro _ w2 ⟨rfl, t2⟩
    go_wp2
    go_ret
    exact ⟨rfl, tt1.trans t2⟩
  have hfew := few26_few hfw
  have hB1 := hbB.keep t1 id
  have hC1 := hbC.keep t1 id
  have h1 := HW.out.keep t1
  have hk1 : z + 2 ≤ w1.heap.size := by have := t1.size; omega
  clear hbB hbC HW tw t1 hfw hsz
  have g0 : w1.cell? ⟨z, 0, none⟩ = some (.slice Ae b.ents.length ce) := hB1.cell 0
  have g1 : w1.cell? ⟨z, 1, none⟩ = some (.slice Aa b.accs.length ca) := hB1.cell 1
  have g2 : w1.cell? ⟨z, 2, none⟩ = some (.slice As b.stakes.length cs) := hB1.cell 2
  have g3 : w1.cell? ⟨z, 3, none⟩ = some (.slice Ar b.rates.length cr) := hB1.cell 3
  have g4 : w1.cell? ⟨z, 4, none⟩ = some (.slice Al b.locks.length cl) := hB1.cell 4
  have g5 : w1.cell? ⟨z, 5, none⟩ = some (.slice An us.length cn) := hB1.cell 5
  go_wp2_with fail
  refine (see_far h1 hfew h64).mono ?_
  rintro _ w2 ⟨hsee, t2⟩
  have tt2 := tt1.trans t2
  rcases hsee with ⟨_, m, rfl, hm⟩ | ⟨hok, bv, bi, B, t, mr, mp, e', a', s', r', l', n', lv, fs, us', rfl, hV, hFar⟩
  · have hm2 : (m != 0) = true := by simpa using hm
    clear g0 g1 g2 g3 g4 g5 hm
    go_wp2_with fail
    refine (awake36_any w2).mono ?_
    rintro _ w3 ⟨rfl, t3⟩
    go_wp2
    go_ret
    exact ⟨rfl, tt2.trans t3⟩
  have hk5 : z + 2 ≤ w2.heap.size := Nat.le_trans hk1 t2.size
  have hC2 := hC1.keep t2 id
  clear g0 g1 g2 g3 g4 g5 hB1 hC1 h1 tt1 t2
  have hn := leaves_few hfew
  obtain ⟨h40, h400, hstk⟩ := ok_stakes hok
  have hac : b.accs.length ≤ 1000 := by have := hfew.accs; omega
  clear hfew h64 hok
  -- the key becomes that of what a node has
  go_wp2_with (refine wpList_store_cell rfl _ _ _ rfl (z + 1) 0 (.int .i64 7) (by rfl) (by rfl) rfl (by rfl) hC2 (by simp) ?_; refine Hid.out ?_)
  refine Lib.hid ?_
  intro w3 hC3 ts3
  (try simp only [List.setIfInBounds_toArray, List.set_cons_succ, List.set_cons_zero] at hC3)
  go_wp2_with (refine wpList_store_cell rfl _ _ _ rfl (z + 1) 5 (.int .i64 0) (by rfl) (by rfl) rfl (by rfl) hC3 (by simp) ?_; refine Hid.out ?_)
  refine Lib.hid ?_
  intro w5 hC5 ts4
  (try simp only [List.setIfInBounds_toArray, List.set_cons_succ, List.set_cons_zero] at hC5)
  have tS := ts3.trans ts4
  have hz5 : z + 2 ≤ w5.heap.size := by have := tS.size; have := hk5; omega
  have tt5 := tt2.trans' tS (fun i hi => .inr (by have hi : i = z + 1 := hi; have := HZW.out; omega))
  obtain ⟨us5, hV5⟩ := hFar.view hV tS (fun g hg => by have hg : g = z + 1 := hg; omega)
  clear hC2 hC3 ts3 ts4 tS tt2 hV hFar
  have q0 : w5.cell? ⟨z + 1, 0, none⟩ = some (.int .i64 7) := hC5.cell 0
  have q1 : w5.cell? ⟨z + 1, 1, none⟩ = some (.int .i64 c2) := hC5.cell 1
  have q2 : w5.cell? ⟨z + 1, 2, none⟩ = some (.int .i64 c3) := hC5.cell 2
  have q3 : w5.cell? ⟨z + 1, 3, none⟩ = some (.int .i64 c4) := hC5.cell 3
  have q4 : w5.cell? ⟨z + 1, 4, none⟩ = some (.int .i64 c5) := hC5.cell 4
  have q5 : w5.cell? ⟨z + 1, 5, none⟩ = some (.int .i64 0) := hC5.cell 5
  go_wp2_with fail
  refine (consrec_any hV5 hn h40 hac 7 c2 c3 c4 c5 0).mono ?_
  rintro _ w6 ⟨v1, rfl, hr1, t6⟩
  have tt6 := tt5.trans t6
  have hC6 := hC5.keep t6 id
  have hV6 := hV5.keep t6
  have hz6 : z + 2 ≤ w6.heap.size := Nat.le_trans hz5 t6.size
  have HLO := Lib.hid (show consOf b (7, c2, c3, c4, c5, 0) = if mayOf b (7, c2, c3, c4, c5, 0) 7 7 = 0 then ({ Rcp.none with plus := consPlus (7, c2, c3, c4, c5, 0) (kidsOf b c2 c4) (splitsOf b) }, 0) else (Rcp.none, mayOf b (7, c2, c3, c4, c5, 0) 7 7) from rfl)
  have HPO := Lib.hid (fun (h0 : mayOf b (7, c2, c3, c4, c5, 0) 7 7 = 0) d hd => part_ok (d := d) hstk h0 hd)
  have HFA := Lib.hid (fun h => may_facts (b := b) (c := (7, c2, c3, c4, c5, 0)) (lo := 7) (hi := 7) h)
  generalize mayOf b (7, c2, c3, c4, c5, 0) 7 7 = m at *
  rw [HLO.out] at hr1 ⊢
  clear q0 q1 q2 q3 q4 q5 hC5 hV5 tt5 t6 HLO
  by_cases hm : m = 0
  rotate_left
  · rw [if_neg hm] at hr1 ⊢
    have hm2 : (m != 0) = true := by simpa using hm
    simp only at hr1 ⊢
    obtain ⟨p1, m1, rfl, hp1, hm1⟩ := hr1
    obtain ⟨P1, k1, rfl, _, _⟩ := hp1.form
    obtain ⟨M1, d1, rfl, _, _⟩ := hm1.form
    unfold rcpV Rcp.none
    simp only [List.length_nil]
    clear hp1 hm1 hm
    have tA := Tch.alloc (fun _ => False) w6 (.cells #[.int .i64 0, .int .i64 0, .slice P1 0 k1, .slice M1 0 d1, .int .i64 0, .int .i64 0, .int .i64 0, .int .i64 0, .int .i64 0, .int .i64 0, .bool false, .int .i64 0, .int .i64 0, .bool false] 46)
    have tE := tt6.trans tA
    have hC7 := hC6.keep tA id
    have HFO := Lib.hid (vwforest_any (hV6.keep tA) c4)
    have x3 : (w6.alloc (.cells #[.int .i64 0, .int .i64 0, .slice P1 0 k1, .slice M1 0 d1, .int .i64 0, .int .i64 0, .int .i64 0, .int .i64 0, .int .i64 0, .int .i64 0, .bool false, .int .i64 0, .int .i64 0, .bool false] 46)).cell? ⟨z + 1, 3, none⟩ = some (.int .i64 c4) := hC7.cell 3
    clear hC6 hC7 hV6 tA
    go_wp2_with fail
    refine HFO.out.mono ?_
    rintro _ _ ⟨q, rfl, rfl, _⟩
    go_wp2_with fail
    refine (awake36_any _).mono ?_
    rintro _ w7 ⟨rfl, t7⟩
    go_wp2
    go_ret
    exact ⟨rfl, tE.trans t7⟩
  rw [if_pos hm] at hr1 ⊢
  have HPM := Lib.hid (fun d => HPO.out hm d)
  obtain ⟨_, ⟨hp0, hp1⟩, hent, _⟩ := HFA.out hm
  clear HPO HFA
  subst hm
  simp only at hr1 hp0 hp1 hent ⊢
  obtain ⟨p, rfl⟩ : ∃ p : Nat, c4 = (p : Int) := ⟨c4.toNat, by omega⟩
  have hp : p < 24 := by omega
  obtain ⟨gf, hgf, hFB⟩ := hV6.forests p hp
  have hgf6 := hFB.lt
  have HRU := Lib.hid (cons_rules (7, c2, c3, (p : Int), c5, 0) (kidsOf b c2 p) (splitsOf b))
  have HND := Lib.hid (cons_nodup (7, c2, c3, (p : Int), c5, 0) (kids_nodup b c2 p) (splits_nodup b))
  have hln := cons_len_le (7, c2, c3, (p : Int), c5, 0) (kidsOf b c2 p) (splitsOf b)
  have hkl := kids_len b c2 p
  have hsl := splits_len b
  have hkl2 : (kidsOf b c2 p).length ≤ 40 := by omega
  have hsl2 : (splitsOf b).length ≤ 1000 := by omega
  have hks : (kidsOf b c2 p).length * (splitsOf b).length ≤ 40000 := Nat.mul_le_mul hkl2 hsl2
  have HKD := Lib.hid (show kidsOf b c2 p = (if 1 ≤ c2 ∧ c2 ≤ (b.ents.length : Int) then (accIds b.ents.length).filter (fun i => stkUp b.stakes i p == c2) else []) from rfl)
  have HCH := Lib.hid (fun w' (t : Tch (fun _ => False) w6 w') => fchildren_any (hFB.keep t id) h40 c2)
  rw [← HKD.out] at HCH
  have HSP := Lib.hid (fun w' (t : Tch (fun _ => False) w6 w') => conssplit_any (hV6.keep t) hn)
  simp only at HRU
  generalize kidsOf b c2 p = kids at *
  generalize splitsOf b = splits at *
  have hpl : (consPlus (7, c2, c3, (p : Int), c5, 0) kids splits).length ≤ 50000 := by omega
  generalize consPlus (7, c2, c3, (p : Int), c5, 0) kids splits = pl at *
  clear HKD hln hkl hsl
  obtain ⟨p1, m1, rfl, hp1, hm1⟩ := hr1
  obtain ⟨P1, k1, rfl, _, _⟩ := hp1.form
  obtain ⟨M1, d1, rfl, _, _⟩ := hm1.form
  unfold rcpV Rcp.none
  simp only [List.length_nil]
  have tA := Tch.alloc (fun _ => False) w6 (.cells #[.int .i64 0, .int .i64 0, .slice P1 pl.length k1, .slice M1 0 d1, .int .i64 0, .int .i64 0, .int .i64 0, .int .i64 0, .int .i64 0, .int .i64 0, .bool false, .int .i64 0, .int .i64 0, .bool false] 46)
  have bX := Blk.new w6 46 #[.int .i64 0, .int .i64 0, .slice P1 pl.length k1, .slice M1 0 d1, .int .i64 0, .int .i64 0, .int .i64 0, .int .i64 0, .int .i64 0, .int .i64 0, .bool false, .int .i64 0, .int .i64 0, .bool false]
  have hC7 := hC6.keep tA id
  have HFO := Lib.hid (vwforest_any (hV6.keep tA) (p : Int))
  have HRD := Lib.hid (reads_any (r := { Rcp.none with plus := pl }) (show RcpIs (w6.alloc (.cells #[.int .i64 0, .int .i64 0, .slice P1 pl.length k1, .slice M1 0 d1, .int .i64 0, .int .i64 0, .int .i64 0, .int .i64 0, .int .i64 0, .int .i64 0, .bool false, .int .i64 0, .int .i64 0, .bool false] 46)) (.agg #[.int .i64 0, .int .i64 0, .slice P1 pl.length k1, .slice M1 0 d1, .int .i64 0, .int .i64 0, .int .i64 0, .int .i64 0, .int .i64 0, .int .i64 0, .bool false, .int .i64 0, .int .i64 0, .bool false]) { Rcp.none with plus := pl } from ⟨_, _, rfl, hp1.keep tA, hm1.keep tA⟩) (by simpa [Rcp.none] using hpl))
  have hrd : readsOf { Rcp.none with plus := pl } = pl := by
    unfold readsOf rcpAll
    simp only [Rcp.none, List.append_nil, Bool.false_eq_true, if_false]
    exact uniq_of HND.out
  rw [hrd] at HRD
  have x3 : (w6.alloc (.cells #[.int .i64 0, .int .i64 0, .slice P1 pl.length k1, .slice M1 0 d1, .int .i64 0, .int .i64 0, .int .i64 0, .int .i64 0, .int .i64 0, .int .i64 0, .bool false, .int .i64 0, .int .i64 0, .bool false] 46)).cell? ⟨z + 1, 3, none⟩ = some (.int .i64 (p : Int)) := hC7.cell 3
  have x0 : (w6.alloc (.cells #[.int .i64 0, .int .i64 0, .slice P1 pl.length k1, .slice M1 0 d1, .int .i64 0, .int .i64 0, .int .i64 0, .int .i64 0, .int .i64 0, .int .i64 0, .bool false, .int .i64 0, .int .i64 0, .bool false] 46)).cell? ⟨w6.heap.size, 0, none⟩ = some (.int .i64 0) := bX.cell 0
  have x1 : (w6.alloc (.cells #[.int .i64 0, .int .i64 0, .slice P1 pl.length k1, .slice M1 0 d1, .int .i64 0, .int .i64 0, .int .i64 0, .int .i64 0, .int .i64 0, .int .i64 0, .bool false, .int .i64 0, .int .i64 0, .bool false] 46)).cell? ⟨w6.heap.size, 1, none⟩ = some (.int .i64 0) := bX.cell 1
  have x2 : (w6.alloc (.cells #[.int .i64 0, .int .i64 0, .slice P1 pl.length k1, .slice M1 0 d1, .int .i64 0, .int .i64 0, .int .i64 0, .int .i64 0, .int .i64 0, .int .i64 0, .bool false, .int .i64 0, .int .i64 0, .bool false] 46)).cell? ⟨w6.heap.size, 2, none⟩ = some (.slice P1 pl.length k1) := bX.cell 2
  have x4 : (w6.alloc (.cells #[.int .i64 0, .int .i64 0, .slice P1 pl.length k1, .slice M1 0 d1, .int .i64 0, .int .i64 0, .int .i64 0, .int .i64 0, .int .i64 0, .int .i64 0, .bool false, .int .i64 0, .int .i64 0, .bool false] 46)).cell? ⟨w6.heap.size, 3, none⟩ = some (.slice M1 0 d1) := bX.cell 3
  have x5 : (w6.alloc (.cells #[.int .i64 0, .int .i64 0, .slice P1 pl.length k1, .slice M1 0 d1, .int .i64 0, .int .i64 0, .int .i64 0, .int .i64 0, .int .i64 0, .int .i64 0, .bool false, .int .i64 0, .int .i64 0, .bool false] 46)).cell? ⟨w6.heap.size, 4, none⟩ = some (.int .i64 0) := bX.cell 4
  have x6 : (w6.alloc (.cells #[.int .i64 0, .int .i64 0, .slice P1 pl.length k1, .slice M1 0 d1, .int .i64 0, .int .i64 0, .int .i64 0, .int .i64 0, .int .i64 0, .int .i64 0, .bool false, .int .i64 0, .int .i64 0, .bool false] 46)).cell? ⟨w6.heap.size, 5, none⟩ = some (.int .i64 0) := bX.cell 5
  have x7 : (w6.alloc (.cells #[.int .i64 0, .int .i64 0, .slice P1 pl.length k1, .slice M1 0 d1, .int .i64 0, .int .i64 0, .int .i64 0, .int .i64 0, .int .i64 0, .int .i64 0, .bool false, .int .i64 0, .int .i64 0, .bool false] 46)).cell? ⟨w6.heap.size, 6, none⟩ = some (.int .i64 0) := bX.cell 6
  have x8 : (w6.alloc (.cells #[.int .i64 0, .int .i64 0, .slice P1 pl.length k1, .slice M1 0 d1, .int .i64 0, .int .i64 0, .int .i64 0, .int .i64 0, .int .i64 0, .int .i64 0, .bool false, .int .i64 0, .int .i64 0, .bool false] 46)).cell? ⟨w6.heap.size, 7, none⟩ = some (.int .i64 0) := bX.cell 7
  have x9 : (w6.alloc (.cells #[.int .i64 0, .int .i64 0, .slice P1 pl.length k1, .slice M1 0 d1, .int .i64 0, .int .i64 0, .int .i64 0, .int .i64 0, .int .i64 0, .int .i64 0, .bool false, .int .i64 0, .int .i64 0, .bool false] 46)).cell? ⟨w6.heap.size, 8, none⟩ = some (.int .i64 0) := bX.cell 8
  have x10 : (w6.alloc (.cells #[.int .i64 0, .int .i64 0, .slice P1 pl.length k1, .slice M1 0 d1, .int .i64 0, .int .i64 0, .int .i64 0, .int .i64 0, .int .i64 0, .int .i64 0, .bool false, .int .i64 0, .int .i64 0, .bool false] 46)).cell? ⟨w6.heap.size, 9, none⟩ = some (.int .i64 0) := bX.cell 9
  have x11 : (w6.alloc (.cells #[.int .i64 0, .int .i64 0, .slice P1 pl.length k1, .slice M1 0 d1, .int .i64 0, .int .i64 0, .int .i64 0, .int .i64 0, .int .i64 0, .int .i64 0, .bool false, .int .i64 0, .int .i64 0, .bool false] 46)).cell? ⟨w6.heap.size, 10, none⟩ = some (.bool false) := bX.cell 10
  have x12 : (w6.alloc (.cells #[.int .i64 0, .int .i64 0, .slice P1 pl.length k1, .slice M1 0 d1, .int .i64 0, .int .i64 0, .int .i64 0, .int .i64 0, .int .i64 0, .int .i64 0, .bool false, .int .i64 0, .int .i64 0, .bool false] 46)).cell? ⟨w6.heap.size, 11, none⟩ = some (.int .i64 0) := bX.cell 11
  have x13 : (w6.alloc (.cells #[.int .i64 0, .int .i64 0, .slice P1 pl.length k1, .slice M1 0 d1, .int .i64 0, .int .i64 0, .int .i64 0, .int .i64 0, .int .i64 0, .int .i64 0, .bool false, .int .i64 0, .int .i64 0, .bool false] 46)).cell? ⟨w6.heap.size, 12, none⟩ = some (.int .i64 0) := bX.cell 12
  have x14 : (w6.alloc (.cells #[.int .i64 0, .int .i64 0, .slice P1 pl.length k1, .slice M1 0 d1, .int .i64 0, .int .i64 0, .int .i64 0, .int .i64 0, .int .i64 0, .int .i64 0, .bool false, .int .i64 0, .int .i64 0, .bool false] 46)).cell? ⟨w6.heap.size, 13, none⟩ = some (.bool false) := bX.cell 13
  have hszA : (w6.alloc (.cells #[.int .i64 0, .int .i64 0, .slice P1 pl.length k1, .slice M1 0 d1, .int .i64 0, .int .i64 0, .int .i64 0, .int .i64 0, .int .i64 0, .int .i64 0, .bool false, .int .i64 0, .int .i64 0, .bool false] 46)).heap.size = w6.heap.size + 1 := by simp
  clear hp1 hm1 hC6 hrd HND
  go_wp2_with fail
  generalize w6.alloc _ = W6 at *
  generalize hy1e : w6.heap.size = y1 at *
  have HY1 := Lib.hid hy1e
  clear hy1e
  refine HFO.out.mono ?_
  rintro _ _ ⟨q, rfl, rfl, hq⟩
  obtain rfl := hq p gf rfl hp hgf
  clear HFO hq hgf x3
  go_wp2_with fail
  refine HRD.out.mono ?_
  rintro _ w7 ⟨u, rfl, hl7, t7⟩
  obtain ⟨L, kl, rfl, _, _⟩ := hl7.form
  have t67 := tA.trans t7
  have hC8 := hC7.keep t7 id
  have bX7 := bX.keep t7 id
  have hs7 := t7.size
  have tC := Tch.alloc (fun _ => False) w7 (.cells (cntL []) 3)
  have bK := Blk.new w7 3 (cntL [])
  have hK8 := bX7.keep tC id
  have hC9 := hC8.keep tC id
  have hszC : (w7.alloc (.cells (cntL []) 3)).heap.size = w7.heap.size + 1 := by simp
  have tt7 := tt6.trans t67
  have HL := Lib.hid (fun wr (ht : Tch (fun g => g = w7.heap.size) (w7.alloc (.cells (cntL []) 3)) wr) => Row.keepTo (P' := fun _ => True) hl7 ((Exn.touch tC).trans ht) (fun g hg _ => ⟨fun e => by have e : g = w7.heap.size := e; omega, trivial⟩))
  have HT6 := Lib.hid (fun wr (ht : Tch (fun g => g = w7.heap.size) (w7.alloc (.cells (cntL []) 3)) wr) => show Tch (fun _ => False) w6 wr from (t67.trans tC).trans' ht (fun i hi => .inr (by have hi : i = w7.heap.size := hi; have := HY1.out; omega)))
  have HTT := Lib.hid (fun wr (ht : Tch (fun g => g = w7.heap.size) (w7.alloc (.cells (cntL []) 3)) wr) => tt6.trans (HT6.out wr ht))
  have HCB := Lib.hid (fun wr (ht : Tch (fun g => g = w7.heap.size) (w7.alloc (.cells (cntL []) 3)) wr) => hC9.keep ht (by omega))
  have HXB := Lib.hid (fun wr (ht : Tch (fun g => g = w7.heap.size) (w7.alloc (.cells (cntL []) 3)) wr) => hK8.keep ht (by have := HY1.out; omega))
  have HPA := Lib.hid (fun wr (ht : Tch (fun _ => False) w6 wr) x => fparent_any (hFB.keep ht id) h40 x)
  have HAC := Lib.hid (fun wr (ht : Tch (fun _ => False) w6 wr) k hk x hx => vwaccount_any (hV6.keep ht) (k := k) hk x hx)
  have hlow : z + 1 < w7.heap.size := by omega
  have hbig : w6.heap.size ≤ w7.heap.size := t67.size
  have HSIZ := Lib.hid (fun wr (ht : Tch (fun g => g = w7.heap.size) (w7.alloc (.cells (cntL []) 3)) wr) => show w7.heap.size < wr.heap.size by have := ht.size; omega)
  unfold cntL at bK tC HL HT6 HTT HCB HXB hszC HSIZ
  simp only [ruleN, List.filter_nil, List.length_nil] at bK tC HL HT6 HTT HCB HXB hszC HSIZ
  clear HRD hl7 bX hC7 x0 x1 x2 x4 x5 x6 x7 x8 x9 x10 x11 x12 x13 x14 t67 tA hC8 bX7 t7 hK8 hC9 hFB hV6
  go_wp2_with fail
  generalize w7.alloc _ = W7 at *
  generalize w7.heap.size = cb at *
  go_loopw [12] (fun i wr => ∃ j : Nat, j ≤ pl.length ∧ i = .int .i64 j ∧ Blk wr cb 3 (cntL (pl.take j)) ∧ Tch (fun g => g = cb) W7 wr) (fun i _ => pl.length - (intOf i).toNat)
  case atStart => exact ⟨0, Nat.zero_le _, rfl, bK, Tch.refl _ _⟩
  case round =>
    obtain ⟨j, hj, rfl, hK, ht⟩ := hrel
    by_cases hlt : j < pl.length
    · have hlt' : (j : Int) < (pl.length : Int) := by omega
      have hj0 : (0 : Int) ≤ (j : Int) := Int.natCast_nonneg _
      have hj9 : (j : Int) ≤ 50000 := by omega
      have hl9 := HL.out wr ht
      obtain ⟨gL, oL, rfl⟩ := hl9.head (by omega)
      obtain ⟨l0, l1, l2, l3, l4, l5⟩ := Row.six hl9 int6_len hlt rfl
      have HCN := Lib.hid (show pl.take (j + 1) = pl.take j ++ [pl[j]] from List.take_succ_eq_append_getElem hlt)
      have HSZ := HSIZ.out wr ht
      obtain ⟨E, A, k, ⟨hk, hak⟩, hE, hd⟩ := HPM.out pl[j] (List.getElem_mem _)
      have HAK := Lib.hid hak
      clear hak
      generalize pl[j] = d at *
      clear hl9
      rcases hd with ⟨rfl, he1, ha1, hu⟩ | ⟨rfl, he1, ha1, hu⟩ | ⟨rfl, he1, ha1, hu⟩ | ⟨rfl, he1, ha1, hu⟩
      · simp only at l0 l1 l2 l3 l4 l5
        have HN2 := Lib.hid (show cntL (pl.take (j + 1)) = (cntL (pl.take j)).setIfInBounds 3 (.int .i64 ((ruleN (pl.take j) 3 : Int) + 1)) by rw [HCN.out]; exact cnt_snoc _ _ 3 (by decide) (by decide) rfl)
        have hcr : wr.cell? ⟨cb, 3, none⟩ = some (.int .i64 (ruleN (pl.take j) 3 : Int)) := hK.cell 3
        have hcl : ruleN (pl.take j) 3 ≤ 50000 := Nat.le_trans (ruleN_le _ _) (by rw [List.length_take]; omega)
        have tD := Tch.alloc (fun _ => False) wr (.cells #[.int .i64 3, .int .i64 E, .int .i64 A, .int .i64 (p : Int), .int .i64 c5, .int .i64 0] 31)
        have bD := Blk.new wr 31 #[.int .i64 3, .int .i64 E, .int .i64 A, .int .i64 (p : Int), .int .i64 c5, .int .i64 0]
        have hK1 := hK.keep tD id
        have hCr := (HCB.out wr ht).keep tD id
        have hcr1 : (wr.alloc (.cells #[.int .i64 3, .int .i64 E, .int .i64 A, .int .i64 (p : Int), .int .i64 c5, .int .i64 0] 31)).cell? ⟨cb, 3, none⟩ = some (.int .i64 (ruleN (pl.take j) 3 : Int)) := hK1.cell 3
        have d0 : (wr.alloc (.cells #[.int .i64 3, .int .i64 E, .int .i64 A, .int .i64 (p : Int), .int .i64 c5, .int .i64 0] 31)).cell? ⟨wr.heap.size, 0, none⟩ = some (.int .i64 3) := bD.cell 0
        have d1 : (wr.alloc (.cells #[.int .i64 3, .int .i64 E, .int .i64 A, .int .i64 (p : Int), .int .i64 c5, .int .i64 0] 31)).cell? ⟨wr.heap.size, 1, none⟩ = some (.int .i64 E) := bD.cell 1
        have d2 : (wr.alloc (.cells #[.int .i64 3, .int .i64 E, .int .i64 A, .int .i64 (p : Int), .int .i64 c5, .int .i64 0] 31)).cell? ⟨wr.heap.size, 2, none⟩ = some (.int .i64 A) := bD.cell 2
        have d3 : (wr.alloc (.cells #[.int .i64 3, .int .i64 E, .int .i64 A, .int .i64 (p : Int), .int .i64 c5, .int .i64 0] 31)).cell? ⟨wr.heap.size, 3, none⟩ = some (.int .i64 (p : Int)) := bD.cell 3
        have d4 : (wr.alloc (.cells #[.int .i64 3, .int .i64 E, .int .i64 A, .int .i64 (p : Int), .int .i64 c5, .int .i64 0] 31)).cell? ⟨wr.heap.size, 4, none⟩ = some (.int .i64 c5) := bD.cell 4
        have d5 : (wr.alloc (.cells #[.int .i64 3, .int .i64 E, .int .i64 A, .int .i64 (p : Int), .int .i64 c5, .int .i64 0] 31)).cell? ⟨wr.heap.size, 5, none⟩ = some (.int .i64 0) := bD.cell 5
        have e1 : (wr.alloc (.cells #[.int .i64 3, .int .i64 E, .int .i64 A, .int .i64 (p : Int), .int .i64 c5, .int .i64 0] 31)).cell? ⟨z + 1, 1, none⟩ = some (.int .i64 c2) := hCr.cell 1
        have e2 : (wr.alloc (.cells #[.int .i64 3, .int .i64 E, .int .i64 A, .int .i64 (p : Int), .int .i64 c5, .int .i64 0] 31)).cell? ⟨z + 1, 2, none⟩ = some (.int .i64 c3) := hCr.cell 2
        have e3 : (wr.alloc (.cells #[.int .i64 3, .int .i64 E, .int .i64 A, .int .i64 (p : Int), .int .i64 c5, .int .i64 0] 31)).cell? ⟨z + 1, 3, none⟩ = some (.int .i64 (p : Int)) := hCr.cell 3
        have e4 : (wr.alloc (.cells #[.int .i64 3, .int .i64 E, .int .i64 A, .int .i64 (p : Int), .int .i64 c5, .int .i64 0] 31)).cell? ⟨z + 1, 4, none⟩ = some (.int .i64 c5) := hCr.cell 4
        generalize hcnt : ruleN (pl.take j) 3 = cn9 at *
        have hcn0 : (0 : Int) ≤ (cn9 : Int) := Int.natCast_nonneg _
        have hcn1 : (cn9 : Int) ≤ 50000 := by omega
        clear hcnt hcr hK
        go_wp2_with (refine wpList_store_cell rfl _ _ _ rfl cb 3 (.int .i64 ((cn9 : Int) + 1)) (by rfl) (by first | rfl | go_num) rfl (by rfl) hK1 (by simp [cntL]) ?_; refine Hid.out ?_)
        refine Lib.hid ?_
        intro w2 hK2 ts
        have HK2 := Lib.hid hK2
        have bD2 := bD.keep ts (by omega)
        have hC2 := hCr.keep ts (by omega)
        have ht2 := Lib.hid ((ht.trans (Exn.touch tD)).trans ts)
        have HP := Lib.hid (fun w' (t : Tch (fun _ => False) w2 w') => HPA.out w' ((HT6.out w2 ht2.out).trans t) E)
        simp only [if_pos hE] at HP
        have HS2 := HSIZ.out w2 ht2.out
        clear hK1 hK2 hCr bD tD ts hcr1 d0 d1 d2 d3 d4 d5 e1 e2 e3 e4
        generalize wr.heap.size = zd at *
        have y1 := within_cell (F := fun _ => False) (show w2.cell? ⟨zd, 1, none⟩ = some (.int .i64 E) from bD2.cell 1) id
        have u1 := within_cell (F := fun _ => False) (show w2.cell? ⟨z + 1, 1, none⟩ = some (.int .i64 c2) from hC2.cell 1) id
        generalize stkUp b.stakes E p = pu at *
        go_wp2_with fail
        refine wp_region_touch (fun _ => False) [] 6 [(3, .inl (.int .i64 pu))] [] (by kernel_rfl) rfl (by kernel_rfl) rfl (fun d _ _ _ _ h => by cases d <;> exact h) ?_ ?_
        · exact trivial
        (intro bef ops hbef hops; clear hbef; subst hops; simp only [List.take_succ_cons, List.take_zero, List.drop_succ_cons, List.drop_zero])
        iterate 3 (refine t_det (by rfl) (by rfl) (by rfl) (by rfl) (fun K hK => ?_); go_big_quiet_op; (first | refine hK _ ?_ | refine ⟨_, fun _ => rfl, hK _ ?_⟩); clear hK K; (try simp only [Act.put, List.setIfInBounds_toArray, List.set_cons_succ, List.set_cons_zero]))
        refine t_fix (.int .i64 pu) (by rfl) (by rfl) (fun w3 hr hf => ?_) ?_
        · refine yields_of_wp (d := 104) rfl (by simp) (fun K hK => ?_)
          go_step
          refine (HP.out w3 ((Tch.drew _ w2).trans hr)).mono ?_
          rintro _ _ ⟨rfl, rfl⟩
          exact hK _ _ ⟨⟨rfl, Tch.refl _ _⟩, newAt_no⟩
        simp only [Act.put, List.setIfInBounds_toArray, List.set_cons_succ, List.set_cons_zero]
        iterate 2 (refine t_det (by rfl) (by rfl) (by rfl) (by rfl) (fun K hK => ?_); go_big_quiet_op; (first | refine hK _ ?_ | refine ⟨_, fun _ => rfl, hK _ ?_⟩); clear hK K; (try simp only [Act.put, List.setIfInBounds_toArray, List.set_cons_succ, List.set_cons_zero]))
        refine t_nil ?_
        intro w3 hr hp9 hap
        have t3 := (Tch.drew (fun _ => False) w2).trans hr
        have bD3 := bD2.keep t3 id
        have hC3 := hC2.keep t3 id
        have ht3 := ht2.out.trans (Exn.touch t3)
        have HA := Lib.hid (HAC.out w3 (HT6.out w3 ht3) k hk A HAK.out)
        have HSA := Lib.hid (show accSplit b A = b.accs[k].2.2.1 from split_is (hk := hk) (by rw [show (A - 1).toNat = k by have := HAK.out; omega]; exact List.getElem?_eq_getElem hk))
        generalize b.accs[k] = acc at *
        obtain ⟨ac1, ac2, ac3, ac4⟩ := acc
        simp only at HSA
        have z2 : w3.cell? ⟨zd, 2, none⟩ = some (.int .i64 A) := bD3.cell 2
        have HK3 := Lib.hid (HK2.out.keep t3 id)
        clear HP y1 u1 hr hp9 hap bD2 hC2 t3 HK2
        go_wp2_with fail
        refine HA.out.mono ?_
        rintro _ w4 ⟨rfl, t4⟩
        have bD4 := bD3.keep t4 id
        have hC4 := hC3.keep t4 id
        have HK4 := Lib.hid (HK3.out.keep t4 id)
        have ht4 := ht3.trans (Exn.touch t4)
        have tB := Tch.alloc (fun _ => False) w4 (.cells #[.int .i64 ac1, .int .i64 ac2, .bool ac3, .bool ac4] 64)
        have bB := Blk.new w4 64 #[.int .i64 ac1, .int .i64 ac2, .bool ac3, .bool ac4]
        have bD5 := bD4.keep tB id
        have hC5 := hC4.keep tB id
        have d0 : (w4.alloc (.cells #[.int .i64 ac1, .int .i64 ac2, .bool ac3, .bool ac4] 64)).cell? ⟨zd, 0, none⟩ = some (.int .i64 3) := bD5.cell 0
        have d1 : (w4.alloc (.cells #[.int .i64 ac1, .int .i64 ac2, .bool ac3, .bool ac4] 64)).cell? ⟨zd, 1, none⟩ = some (.int .i64 E) := bD5.cell 1
        have d2 : (w4.alloc (.cells #[.int .i64 ac1, .int .i64 ac2, .bool ac3, .bool ac4] 64)).cell? ⟨zd, 2, none⟩ = some (.int .i64 A) := bD5.cell 2
        have e1 : (w4.alloc (.cells #[.int .i64 ac1, .int .i64 ac2, .bool ac3, .bool ac4] 64)).cell? ⟨z + 1, 1, none⟩ = some (.int .i64 c2) := hC5.cell 1
        have e2 : (w4.alloc (.cells #[.int .i64 ac1, .int .i64 ac2, .bool ac3, .bool ac4] 64)).cell? ⟨z + 1, 2, none⟩ = some (.int .i64 c3) := hC5.cell 2
        have b2 : (w4.alloc (.cells #[.int .i64 ac1, .int .i64 ac2, .bool ac3, .bool ac4] 64)).cell? ⟨w4.heap.size, 2, none⟩ = some (.bool ac3) := bB.cell 2
        have HK5 := Lib.hid (HK4.out.keep tB id)
        have ht5 := Lib.hid (ht4.trans (Exn.touch tB))
        clear HA HSA z2 bD3 hC3 bD4 hC4 bD5 hC5 bB tB HK3 HK4 ht3 ht4 t4 ht2
        unfold acc4
        go_wp2
        go_roundw
        case rel => exact ⟨j + 1, by omega, by go_num, by rw [HN2.out]; exact HK5.out, ht5.out⟩
        case measure => simp [intOf]; omega
      · simp only at l0 l1 l2 l3 l4 l5
        have HN2 := Lib.hid (show cntL (pl.take (j + 1)) = (cntL (pl.take j)).setIfInBounds 6 (.int .i64 ((ruleN (pl.take j) 6 : Int) + 1)) by rw [HCN.out]; exact cnt_snoc _ _ 6 (by decide) (by decide) rfl)
        have hcr : wr.cell? ⟨cb, 6, none⟩ = some (.int .i64 (ruleN (pl.take j) 6 : Int)) := hK.cell 6
        have hcl : ruleN (pl.take j) 6 ≤ 50000 := Nat.le_trans (ruleN_le _ _) (by rw [List.length_take]; omega)
        have tD := Tch.alloc (fun _ => False) wr (.cells #[.int .i64 6, .int .i64 E, .int .i64 A, .int .i64 (p : Int), .int .i64 c5, .int .i64 0] 31)
        have bD := Blk.new wr 31 #[.int .i64 6, .int .i64 E, .int .i64 A, .int .i64 (p : Int), .int .i64 c5, .int .i64 0]
        have hK1 := hK.keep tD id
        have hCr := (HCB.out wr ht).keep tD id
        have hcr1 : (wr.alloc (.cells #[.int .i64 6, .int .i64 E, .int .i64 A, .int .i64 (p : Int), .int .i64 c5, .int .i64 0] 31)).cell? ⟨cb, 6, none⟩ = some (.int .i64 (ruleN (pl.take j) 6 : Int)) := hK1.cell 6
        have d0 : (wr.alloc (.cells #[.int .i64 6, .int .i64 E, .int .i64 A, .int .i64 (p : Int), .int .i64 c5, .int .i64 0] 31)).cell? ⟨wr.heap.size, 0, none⟩ = some (.int .i64 6) := bD.cell 0
        have d1 : (wr.alloc (.cells #[.int .i64 6, .int .i64 E, .int .i64 A, .int .i64 (p : Int), .int .i64 c5, .int .i64 0] 31)).cell? ⟨wr.heap.size, 1, none⟩ = some (.int .i64 E) := bD.cell 1
        have d2 : (wr.alloc (.cells #[.int .i64 6, .int .i64 E, .int .i64 A, .int .i64 (p : Int), .int .i64 c5, .int .i64 0] 31)).cell? ⟨wr.heap.size, 2, none⟩ = some (.int .i64 A) := bD.cell 2
        have d3 : (wr.alloc (.cells #[.int .i64 6, .int .i64 E, .int .i64 A, .int .i64 (p : Int), .int .i64 c5, .int .i64 0] 31)).cell? ⟨wr.heap.size, 3, none⟩ = some (.int .i64 (p : Int)) := bD.cell 3
        have d4 : (wr.alloc (.cells #[.int .i64 6, .int .i64 E, .int .i64 A, .int .i64 (p : Int), .int .i64 c5, .int .i64 0] 31)).cell? ⟨wr.heap.size, 4, none⟩ = some (.int .i64 c5) := bD.cell 4
        have d5 : (wr.alloc (.cells #[.int .i64 6, .int .i64 E, .int .i64 A, .int .i64 (p : Int), .int .i64 c5, .int .i64 0] 31)).cell? ⟨wr.heap.size, 5, none⟩ = some (.int .i64 0) := bD.cell 5
        have e1 : (wr.alloc (.cells #[.int .i64 6, .int .i64 E, .int .i64 A, .int .i64 (p : Int), .int .i64 c5, .int .i64 0] 31)).cell? ⟨z + 1, 1, none⟩ = some (.int .i64 c2) := hCr.cell 1
        have e2 : (wr.alloc (.cells #[.int .i64 6, .int .i64 E, .int .i64 A, .int .i64 (p : Int), .int .i64 c5, .int .i64 0] 31)).cell? ⟨z + 1, 2, none⟩ = some (.int .i64 c3) := hCr.cell 2
        have e3 : (wr.alloc (.cells #[.int .i64 6, .int .i64 E, .int .i64 A, .int .i64 (p : Int), .int .i64 c5, .int .i64 0] 31)).cell? ⟨z + 1, 3, none⟩ = some (.int .i64 (p : Int)) := hCr.cell 3
        have e4 : (wr.alloc (.cells #[.int .i64 6, .int .i64 E, .int .i64 A, .int .i64 (p : Int), .int .i64 c5, .int .i64 0] 31)).cell? ⟨z + 1, 4, none⟩ = some (.int .i64 c5) := hCr.cell 4
        generalize hcnt : ruleN (pl.take j) 6 = cn9 at *
        have hcn0 : (0 : Int) ≤ (cn9 : Int) := Int.natCast_nonneg _
        have hcn1 : (cn9 : Int) ≤ 50000 := by omega
        clear hcnt hcr hK
        go_wp2_with (refine wpList_store_cell rfl _ _ _ rfl cb 6 (.int .i64 ((cn9 : Int) + 1)) (by rfl) (by first | rfl | go_num) rfl (by rfl) hK1 (by simp [cntL]) ?_; refine Hid.out ?_)
        refine Lib.hid ?_
        intro w2 hK2 ts
        have HK2 := Lib.hid hK2
        have bD2 := bD.keep ts (by omega)
        have hC2 := hCr.keep ts (by omega)
        have ht2 := Lib.hid ((ht.trans (Exn.touch tD)).trans ts)
        have HP := Lib.hid (fun w' (t : Tch (fun _ => False) w2 w') => HPA.out w' ((HT6.out w2 ht2.out).trans t) E)
        simp only [if_pos hE] at HP
        have HS2 := HSIZ.out w2 ht2.out
        clear hK1 hK2 hCr bD tD ts hcr1 d0 d1 d2 d3 d4 d5 e1 e2 e3 e4
        generalize wr.heap.size = zd at *
        have y1 := within_cell (F := fun _ => False) (show w2.cell? ⟨zd, 1, none⟩ = some (.int .i64 E) from bD2.cell 1) id
        have u1 := within_cell (F := fun _ => False) (show w2.cell? ⟨z + 1, 1, none⟩ = some (.int .i64 c2) from hC2.cell 1) id
        generalize stkUp b.stakes E p = pu at *
        go_wp2_with fail
        refine wp_region_touch (fun _ => False) [] 6 [(3, .inl (.int .i64 pu))] [] (by kernel_rfl) rfl (by kernel_rfl) rfl (fun d _ _ _ _ h => by cases d <;> exact h) ?_ ?_
        · exact trivial
        (intro bef ops hbef hops; clear hbef; subst hops; simp only [List.take_succ_cons, List.take_zero, List.drop_succ_cons, List.drop_zero])
        iterate 3 (refine t_det (by rfl) (by rfl) (by rfl) (by rfl) (fun K hK => ?_); go_big_quiet_op; (first | refine hK _ ?_ | refine ⟨_, fun _ => rfl, hK _ ?_⟩); clear hK K; (try simp only [Act.put, List.setIfInBounds_toArray, List.set_cons_succ, List.set_cons_zero]))
        refine t_fix (.int .i64 pu) (by rfl) (by rfl) (fun w3 hr hf => ?_) ?_
        · refine yields_of_wp (d := 104) rfl (by simp) (fun K hK => ?_)
          go_step
          refine (HP.out w3 ((Tch.drew _ w2).trans hr)).mono ?_
          rintro _ _ ⟨rfl, rfl⟩
          exact hK _ _ ⟨⟨rfl, Tch.refl _ _⟩, newAt_no⟩
        simp only [Act.put, List.setIfInBounds_toArray, List.set_cons_succ, List.set_cons_zero]
        iterate 2 (refine t_det (by rfl) (by rfl) (by rfl) (by rfl) (fun K hK => ?_); go_big_quiet_op; (first | refine hK _ ?_ | refine ⟨_, fun _ => rfl, hK _ ?_⟩); clear hK K; (try simp only [Act.put, List.setIfInBounds_toArray, List.set_cons_succ, List.set_cons_zero]))
        refine t_nil ?_
        intro w3 hr hp9 hap
        have t3 := (Tch.drew (fun _ => False) w2).trans hr
        have bD3 := bD2.keep t3 id
        have hC3 := hC2.keep t3 id
        have ht3 := ht2.out.trans (Exn.touch t3)
        have HA := Lib.hid (HAC.out w3 (HT6.out w3 ht3) k hk A HAK.out)
        have HSA := Lib.hid (show accSplit b A = b.accs[k].2.2.1 from split_is (hk := hk) (by rw [show (A - 1).toNat = k by have := HAK.out; omega]; exact List.getElem?_eq_getElem hk))
        generalize b.accs[k] = acc at *
        obtain ⟨ac1, ac2, ac3, ac4⟩ := acc
        simp only at HSA
        have z2 : w3.cell? ⟨zd, 2, none⟩ = some (.int .i64 A) := bD3.cell 2
        have HK3 := Lib.hid (HK2.out.keep t3 id)
        clear HP y1 u1 hr hp9 hap bD2 hC2 t3 HK2
        go_wp2_with fail
        refine HA.out.mono ?_
        rintro _ w4 ⟨rfl, t4⟩
        have bD4 := bD3.keep t4 id
        have hC4 := hC3.keep t4 id
        have HK4 := Lib.hid (HK3.out.keep t4 id)
        have ht4 := ht3.trans (Exn.touch t4)
        have tB := Tch.alloc (fun _ => False) w4 (.cells #[.int .i64 ac1, .int .i64 ac2, .bool ac3, .bool ac4] 64)
        have bB := Blk.new w4 64 #[.int .i64 ac1, .int .i64 ac2, .bool ac3, .bool ac4]
        have bD5 := bD4.keep tB id
        have hC5 := hC4.keep tB id
        have d0 : (w4.alloc (.cells #[.int .i64 ac1, .int .i64 ac2, .bool ac3, .bool ac4] 64)).cell? ⟨zd, 0, none⟩ = some (.int .i64 6) := bD5.cell 0
        have d1 : (w4.alloc (.cells #[.int .i64 ac1, .int .i64 ac2, .bool ac3, .bool ac4] 64)).cell? ⟨zd, 1, none⟩ = some (.int .i64 E) := bD5.cell 1
        have d2 : (w4.alloc (.cells #[.int .i64 ac1, .int .i64 ac2, .bool ac3, .bool ac4] 64)).cell? ⟨zd, 2, none⟩ = some (.int .i64 A) := bD5.cell 2
        have e1 : (w4.alloc (.cells #[.int .i64 ac1, .int .i64 ac2, .bool ac3, .bool ac4] 64)).cell? ⟨z + 1, 1, none⟩ = some (.int .i64 c2) := hC5.cell 1
        have e2 : (w4.alloc (.cells #[.int .i64 ac1, .int .i64 ac2, .bool ac3, .bool ac4] 64)).cell? ⟨z + 1, 2, none⟩ = some (.int .i64 c3) := hC5.cell 2
        have b2 : (w4.alloc (.cells #[.int .i64 ac1, .int .i64 ac2, .bool ac3, .bool ac4] 64)).cell? ⟨w4.heap.size, 2, none⟩ = some (.bool ac3) := bB.cell 2
        have HK5 := Lib.hid (HK4.out.keep tB id)
        have ht5 := Lib.hid (ht4.trans (Exn.touch tB))
        clear HA HSA z2 bD3 hC3 bD4 hC4 bD5 hC5 bB tB HK3 HK4 ht3 ht4 t4 ht2
        unfold acc4
        go_wp2
        go_roundw
        case rel => exact ⟨j + 1, by omega, by go_num, by rw [HN2.out]; exact HK5.out, ht5.out⟩
        case measure => simp [intOf]; omega
      · simp only at l0 l1 l2 l3 l4 l5
        have HN2 := Lib.hid (show cntL (pl.take (j + 1)) = (cntL (pl.take j)).setIfInBounds 4 (.int .i64 ((ruleN (pl.take j) 4 : Int) + 1)) by rw [HCN.out]; exact cnt_snoc _ _ 4 (by decide) (by decide) rfl)
        have hcr : wr.cell? ⟨cb, 4, none⟩ = some (.int .i64 (ruleN (pl.take j) 4 : Int)) := hK.cell 4
        have hcl : ruleN (pl.take j) 4 ≤ 50000 := Nat.le_trans (ruleN_le _ _) (by rw [List.length_take]; omega)
        have tD := Tch.alloc (fun _ => False) wr (.cells #[.int .i64 4, .int .i64 E, .int .i64 A, .int .i64 (p : Int), .int .i64 c5, .int .i64 0] 31)
        have bD := Blk.new wr 31 #[.int .i64 4, .int .i64 E, .int .i64 A, .int .i64 (p : Int), .int .i64 c5, .int .i64 0]
        have hK1 := hK.keep tD id
        have hCr := (HCB.out wr ht).keep tD id
        have hcr1 : (wr.alloc (.cells #[.int .i64 4, .int .i64 E, .int .i64 A, .int .i64 (p : Int), .int .i64 c5, .int .i64 0] 31)).cell? ⟨cb, 4, none⟩ = some (.int .i64 (ruleN (pl.take j) 4 : Int)) := hK1.cell 4
        have d0 : (wr.alloc (.cells #[.int .i64 4, .int .i64 E, .int .i64 A, .int .i64 (p : Int), .int .i64 c5, .int .i64 0] 31)).cell? ⟨wr.heap.size, 0, none⟩ = some (.int .i64 4) := bD.cell 0
        have d1 : (wr.alloc (.cells #[.int .i64 4, .int .i64 E, .int .i64 A, .int .i64 (p : Int), .int .i64 c5, .int .i64 0] 31)).cell? ⟨wr.heap.size, 1, none⟩ = some (.int .i64 E) := bD.cell 1
        have d2 : (wr.alloc (.cells #[.int .i64 4, .int .i64 E, .int .i64 A, .int .i64 (p : Int), .int .i64 c5, .int .i64 0] 31)).cell? ⟨wr.heap.size, 2, none⟩ = some (.int .i64 A) := bD.cell 2
        have d3 : (wr.alloc (.cells #[.int .i64 4, .int .i64 E, .int .i64 A, .int .i64 (p : Int), .int .i64 c5, .int .i64 0] 31)).cell? ⟨wr.heap.size, 3, none⟩ = some (.int .i64 (p : Int)) := bD.cell 3
        have d4 : (wr.alloc (.cells #[.int .i64 4, .int .i64 E, .int .i64 A, .int .i64 (p : Int), .int .i64 c5, .int .i64 0] 31)).cell? ⟨wr.heap.size, 4, none⟩ = some (.int .i64 c5) := bD.cell 4
        have d5 : (wr.alloc (.cells #[.int .i64 4, .int .i64 E, .int .i64 A, .int .i64 (p : Int), .int .i64 c5, .int .i64 0] 31)).cell? ⟨wr.heap.size, 5, none⟩ = some (.int .i64 0) := bD.cell 5
        have e1 : (wr.alloc (.cells #[.int .i64 4, .int .i64 E, .int .i64 A, .int .i64 (p : Int), .int .i64 c5, .int .i64 0] 31)).cell? ⟨z + 1, 1, none⟩ = some (.int .i64 c2) := hCr.cell 1
        have e2 : (wr.alloc (.cells #[.int .i64 4, .int .i64 E, .int .i64 A, .int .i64 (p : Int), .int .i64 c5, .int .i64 0] 31)).cell? ⟨z + 1, 2, none⟩ = some (.int .i64 c3) := hCr.cell 2
        have e3 : (wr.alloc (.cells #[.int .i64 4, .int .i64 E, .int .i64 A, .int .i64 (p : Int), .int .i64 c5, .int .i64 0] 31)).cell? ⟨z + 1, 3, none⟩ = some (.int .i64 (p : Int)) := hCr.cell 3
        have e4 : (wr.alloc (.cells #[.int .i64 4, .int .i64 E, .int .i64 A, .int .i64 (p : Int), .int .i64 c5, .int .i64 0] 31)).cell? ⟨z + 1, 4, none⟩ = some (.int .i64 c5) := hCr.cell 4
        generalize hcnt : ruleN (pl.take j) 4 = cn9 at *
        have hcn0 : (0 : Int) ≤ (cn9 : Int) := Int.natCast_nonneg _
        have hcn1 : (cn9 : Int) ≤ 50000 := by omega
        clear hcnt hcr hK
        go_wp2_with (refine wpList_store_cell rfl _ _ _ rfl cb 4 (.int .i64 ((cn9 : Int) + 1)) (by rfl) (by first | rfl | go_num) rfl (by rfl) hK1 (by simp [cntL]) ?_; refine Hid.out ?_)
        refine Lib.hid ?_
        intro w2 hK2 ts
        have HK2 := Lib.hid hK2
        have bD2 := bD.keep ts (by omega)
        have hC2 := hCr.keep ts (by omega)
        have ht2 := Lib.hid ((ht.trans (Exn.touch tD)).trans ts)
        have HP := Lib.hid (fun w' (t : Tch (fun _ => False) w2 w') => HPA.out w' ((HT6.out w2 ht2.out).trans t) E)
        simp only [if_pos hE] at HP
        have HS2 := HSIZ.out w2 ht2.out
        clear hK1 hK2 hCr bD tD ts hcr1 d0 d1 d2 d3 d4 d5 e1 e2 e3 e4
        generalize wr.heap.size = zd at *
        have y1 := within_cell (F := fun _ => False) (show w2.cell? ⟨zd, 1, none⟩ = some (.int .i64 E) from bD2.cell 1) id
        have u1 := within_cell (F := fun _ => False) (show w2.cell? ⟨z + 1, 1, none⟩ = some (.int .i64 c2) from hC2.cell 1) id
        generalize stkUp b.stakes E p = pu at *
        go_wp2_with fail
        refine wp_region_touch (fun _ => False) [] 6 [(3, .inl (.int .i64 pu))] [] (by kernel_rfl) rfl (by kernel_rfl) rfl (fun d _ _ _ _ h => by cases d <;> exact h) ?_ ?_
        · exact trivial
        (intro bef ops hbef hops; clear hbef; subst hops; simp only [List.take_succ_cons, List.take_zero, List.drop_succ_cons, List.drop_zero])
        iterate 3 (refine t_det (by rfl) (by rfl) (by rfl) (by rfl) (fun K hK => ?_); go_big_quiet_op; (first | refine hK _ ?_ | refine ⟨_, fun _ => rfl, hK _ ?_⟩); clear hK K; (try simp only [Act.put, List.setIfInBounds_toArray, List.set_cons_succ, List.set_cons_zero]))
        refine t_fix (.int .i64 pu) (by rfl) (by rfl) (fun w3 hr hf => ?_) ?_
        · refine yields_of_wp (d := 104) rfl (by simp) (fun K hK => ?_)
          go_step
          refine (HP.out w3 ((Tch.drew _ w2).trans hr)).mono ?_
          rintro _ _ ⟨rfl, rfl⟩
          exact hK _ _ ⟨⟨rfl, Tch.refl _ _⟩, newAt_no⟩
        simp only [Act.put, List.setIfInBounds_toArray, List.set_cons_succ, List.set_cons_zero]
        iterate 2 (refine t_det (by rfl) (by rfl) (by rfl) (by rfl) (fun K hK => ?_); go_big_quiet_op; (first | refine hK _ ?_ | refine ⟨_, fun _ => rfl, hK _ ?_⟩); clear hK K; (try simp only [Act.put, List.setIfInBounds_toArray, List.set_cons_succ, List.set_cons_zero]))
        refine t_nil ?_
        intro w3 hr hp9 hap
        have t3 := (Tch.drew (fun _ => False) w2).trans hr
        have bD3 := bD2.keep t3 id
        have hC3 := hC2.keep t3 id
        have ht3 := ht2.out.trans (Exn.touch t3)
        have HA := Lib.hid (HAC.out w3 (HT6.out w3 ht3) k hk A HAK.out)
        have HSA := Lib.hid (show accSplit b A = b.accs[k].2.2.1 from split_is (hk := hk) (by rw [show (A - 1).toNat = k by have := HAK.out; omega]; exact List.getElem?_eq_getElem hk))
        generalize b.accs[k] = acc at *
        obtain ⟨ac1, ac2, ac3, ac4⟩ := acc
        simp only at HSA
        have z2 : w3.cell? ⟨zd, 2, none⟩ = some (.int .i64 A) := bD3.cell 2
        have HK3 := Lib.hid (HK2.out.keep t3 id)
        clear HP y1 u1 hr hp9 hap bD2 hC2 t3 HK2
        go_wp2_with fail
        refine HA.out.mono ?_
        rintro _ w4 ⟨rfl, t4⟩
        have bD4 := bD3.keep t4 id
        have hC4 := hC3.keep t4 id
        have HK4 := Lib.hid (HK3.out.keep t4 id)
        have ht4 := ht3.trans (Exn.touch t4)
        have tB := Tch.alloc (fun _ => False) w4 (.cells #[.int .i64 ac1, .int .i64 ac2, .bool ac3, .bool ac4] 64)
        have bB := Blk.new w4 64 #[.int .i64 ac1, .int .i64 ac2, .bool ac3, .bool ac4]
        have bD5 := bD4.keep tB id
        have hC5 := hC4.keep tB id
        have d0 : (w4.alloc (.cells #[.int .i64 ac1, .int .i64 ac2, .bool ac3, .bool ac4] 64)).cell? ⟨zd, 0, none⟩ = some (.int .i64 4) := bD5.cell 0
        have d1 : (w4.alloc (.cells #[.int .i64 ac1, .int .i64 ac2, .bool ac3, .bool ac4] 64)).cell? ⟨zd, 1, none⟩ = some (.int .i64 E) := bD5.cell 1
        have d2 : (w4.alloc (.cells #[.int .i64 ac1, .int .i64 ac2, .bool ac3, .bool ac4] 64)).cell? ⟨zd, 2, none⟩ = some (.int .i64 A) := bD5.cell 2
        have e1 : (w4.alloc (.cells #[.int .i64 ac1, .int .i64 ac2, .bool ac3, .bool ac4] 64)).cell? ⟨z + 1, 1, none⟩ = some (.int .i64 c2) := hC5.cell 1
        have e2 : (w4.alloc (.cells #[.int .i64 ac1, .int .i64 ac2, .bool ac3, .bool ac4] 64)).cell? ⟨z + 1, 2, none⟩ = some (.int .i64 c3) := hC5.cell 2
        have b2 : (w4.alloc (.cells #[.int .i64 ac1, .int .i64 ac2, .bool ac3, .bool ac4] 64)).cell? ⟨w4.heap.size, 2, none⟩ = some (.bool ac3) := bB.cell 2
        have HK5 := Lib.hid (HK4.out.keep tB id)
        have ht5 := Lib.hid (ht4.trans (Exn.touch tB))
        clear HA HSA z2 bD3 hC3 bD4 hC4 bD5 hC5 bB tB HK3 HK4 ht3 ht4 t4 ht2
        unfold acc4
        go_wp2
        go_roundw
        case rel => exact ⟨j + 1, by omega, by go_num, by rw [HN2.out]; exact HK5.out, ht5.out⟩
        case measure => simp [intOf]; omega
      · simp only at l0 l1 l2 l3 l4 l5
        have HN2 := Lib.hid (show cntL (pl.take (j + 1)) = (cntL (pl.take j)).setIfInBounds 5 (.int .i64 ((ruleN (pl.take j) 5 : Int) + 1)) by rw [HCN.out]; exact cnt_snoc _ _ 5 (by decide) (by decide) rfl)
        have hcr : wr.cell? ⟨cb, 5, none⟩ = some (.int .i64 (ruleN (pl.take j) 5 : Int)) := hK.cell 5
        have hcl : ruleN (pl.take j) 5 ≤ 50000 := Nat.le_trans (ruleN_le _ _) (by rw [List.length_take]; omega)
        have tD := Tch.alloc (fun _ => False) wr (.cells #[.int .i64 5, .int .i64 E, .int .i64 A, .int .i64 (p : Int), .int .i64 c5, .int .i64 0] 31)
        have bD := Blk.new wr 31 #[.int .i64 5, .int .i64 E, .int .i64 A, .int .i64 (p : Int), .int .i64 c5, .int .i64 0]
        have hK1 := hK.keep tD id
        have hCr := (HCB.out wr ht).keep tD id
        have hcr1 : (wr.alloc (.cells #[.int .i64 5, .int .i64 E, .int .i64 A, .int .i64 (p : Int), .int .i64 c5, .int .i64 0] 31)).cell? ⟨cb, 5, none⟩ = some (.int .i64 (ruleN (pl.take j) 5 : Int)) := hK1.cell 5
        have d0 : (wr.alloc (.cells #[.int .i64 5, .int .i64 E, .int .i64 A, .int .i64 (p : Int), .int .i64 c5, .int .i64 0] 31)).cell? ⟨wr.heap.size, 0, none⟩ = some (.int .i64 5) := bD.cell 0
        have d1 : (wr.alloc (.cells #[.int .i64 5, .int .i64 E, .int .i64 A, .int .i64 (p : Int), .int .i64 c5, .int .i64 0] 31)).cell? ⟨wr.heap.size, 1, none⟩ = some (.int .i64 E) := bD.cell 1
        have d2 : (wr.alloc (.cells #[.int .i64 5, .int .i64 E, .int .i64 A, .int .i64 (p : Int), .int .i64 c5, .int .i64 0] 31)).cell? ⟨wr.heap.size, 2, none⟩ = some (.int .i64 A) := bD.cell 2
        have d3 : (wr.alloc (.cells #[.int .i64 5, .int .i64 E, .int .i64 A, .int .i64 (p : Int), .int .i64 c5, .int .i64 0] 31)).cell? ⟨wr.heap.size, 3, none⟩ = some (.int .i64 (p : Int)) := bD.cell 3
        have d4 : (wr.alloc (.cells #[.int .i64 5, .int .i64 E, .int .i64 A, .int .i64 (p : Int), .int .i64 c5, .int .i64 0] 31)).cell? ⟨wr.heap.size, 4, none⟩ = some (.int .i64 c5) := bD.cell 4
        have d5 : (wr.alloc (.cells #[.int .i64 5, .int .i64 E, .int .i64 A, .int .i64 (p : Int), .int .i64 c5, .int .i64 0] 31)).cell? ⟨wr.heap.size, 5, none⟩ = some (.int .i64 0) := bD.cell 5
        have e1 : (wr.alloc (.cells #[.int .i64 5, .int .i64 E, .int .i64 A, .int .i64 (p : Int), .int .i64 c5, .int .i64 0] 31)).cell? ⟨z + 1, 1, none⟩ = some (.int .i64 c2) := hCr.cell 1
        have e2 : (wr.alloc (.cells #[.int .i64 5, .int .i64 E, .int .i64 A, .int .i64 (p : Int), .int .i64 c5, .int .i64 0] 31)).cell? ⟨z + 1, 2, none⟩ = some (.int .i64 c3) := hCr.cell 2
        have e3 : (wr.alloc (.cells #[.int .i64 5, .int .i64 E, .int .i64 A, .int .i64 (p : Int), .int .i64 c5, .int .i64 0] 31)).cell? ⟨z + 1, 3, none⟩ = some (.int .i64 (p : Int)) := hCr.cell 3
        have e4 : (wr.alloc (.cells #[.int .i64 5, .int .i64 E, .int .i64 A, .int .i64 (p : Int), .int .i64 c5, .int .i64 0] 31)).cell? ⟨z + 1, 4, none⟩ = some (.int .i64 c5) := hCr.cell 4
        generalize hcnt : ruleN (pl.take j) 5 = cn9 at *
        have hcn0 : (0 : Int) ≤ (cn9 : Int) := Int.natCast_nonneg _
        have hcn1 : (cn9 : Int) ≤ 50000 := by omega
        clear hcnt hcr hK
        go_wp2_with (refine wpList_store_cell rfl _ _ _ rfl cb 5 (.int .i64 ((cn9 : Int) + 1)) (by rfl) (by first | rfl | go_num) rfl (by rfl) hK1 (by simp [cntL]) ?_; refine Hid.out ?_)
        refine Lib.hid ?_
        intro w2 hK2 ts
        have HK2 := Lib.hid hK2
        have bD2 := bD.keep ts (by omega)
        have hC2 := hCr.keep ts (by omega)
        have ht2 := Lib.hid ((ht.trans (Exn.touch tD)).trans ts)
        have HP := Lib.hid (fun w' (t : Tch (fun _ => False) w2 w') => HPA.out w' ((HT6.out w2 ht2.out).trans t) E)
        simp only [if_pos hE] at HP
        have HS2 := HSIZ.out w2 ht2.out
        clear hK1 hK2 hCr bD tD ts hcr1 d0 d1 d2 d3 d4 d5 e1 e2 e3 e4
        generalize wr.heap.size = zd at *
        have y1 := within_cell (F := fun _ => False) (show w2.cell? ⟨zd, 1, none⟩ = some (.int .i64 E) from bD2.cell 1) id
        have u1 := within_cell (F := fun _ => False) (show w2.cell? ⟨z + 1, 1, none⟩ = some (.int .i64 c2) from hC2.cell 1) id
        generalize stkUp b.stakes E p = pu at *
        go_wp2_with fail
        refine wp_region_touch (fun _ => False) [] 6 [(3, .inl (.int .i64 pu))] [] (by kernel_rfl) rfl (by kernel_rfl) rfl (fun d _ _ _ _ h => by cases d <;> exact h) ?_ ?_
        · exact trivial
        (intro bef ops hbef hops; clear hbef; subst hops; simp only [List.take_succ_cons, List.take_zero, List.drop_succ_cons, List.drop_zero])
        iterate 3 (refine t_det (by rfl) (by rfl) (by rfl) (by rfl) (fun K hK => ?_); go_big_quiet_op; (first | refine hK _ ?_ | refine ⟨_, fun _ => rfl, hK _ ?_⟩); clear hK K; (try simp only [Act.put, List.setIfInBounds_toArray, List.set_cons_succ, List.set_cons_zero]))
        refine t_fix (.int .i64 pu) (by rfl) (by rfl) (fun w3 hr hf => ?_) ?_
        · refine yields_of_wp (d := 104) rfl (by simp) (fun K hK => ?_)
          go_step
          refine (HP.out w3 ((Tch.drew _ w2).trans hr)).mono ?_
          rintro _ _ ⟨rfl, rfl⟩
          exact hK _ _ ⟨⟨rfl, Tch.refl _ _⟩, newAt_no⟩
        simp only [Act.put, List.setIfInBounds_toArray, List.set_cons_succ, List.set_cons_zero]
        iterate 2 (refine t_det (by rfl) (by rfl) (by rfl) (by rfl) (fun K hK => ?_); go_big_quiet_op; (first | refine hK _ ?_ | refine ⟨_, fun _ => rfl, hK _ ?_⟩); clear hK K; (try simp only [Act.put, List.setIfInBounds_toArray, List.set_cons_succ, List.set_cons_zero]))
        refine t_nil ?_
        intro w3 hr hp9 hap
        have t3 := (Tch.drew (fun _ => False) w2).trans hr
        have bD3 := bD2.keep t3 id
        have hC3 := hC2.keep t3 id
        have ht3 := ht2.out.trans (Exn.touch t3)
        have HA := Lib.hid (HAC.out w3 (HT6.out w3 ht3) k hk A HAK.out)
        have HSA := Lib.hid (show accSplit b A = b.accs[k].2.2.1 from split_is (hk := hk) (by rw [show (A - 1).toNat = k by have := HAK.out; omega]; exact List.getElem?_eq_getElem hk))
        generalize b.accs[k] = acc at *
        obtain ⟨ac1, ac2, ac3, ac4⟩ := acc
        simp only at HSA
        have z2 : w3.cell? ⟨zd, 2, none⟩ = some (.int .i64 A) := bD3.cell 2
        have HK3 := Lib.hid (HK2.out.keep t3 id)
        clear HP y1 u1 hr hp9 hap bD2 hC2 t3 HK2
        go_wp2_with fail
        refine HA.out.mono ?_
        rintro _ w4 ⟨rfl, t4⟩
        have bD4 := bD3.keep t4 id
        have hC4 := hC3.keep t4 id
        have HK4 := Lib.hid (HK3.out.keep t4 id)
        have ht4 := ht3.trans (Exn.touch t4)
        have tB := Tch.alloc (fun _ => False) w4 (.cells #[.int .i64 ac1, .int .i64 ac2, .bool ac3, .bool ac4] 64)
        have bB := Blk.new w4 64 #[.int .i64 ac1, .int .i64 ac2, .bool ac3, .bool ac4]
        have bD5 := bD4.keep tB id
        have hC5 := hC4.keep tB id
        have d0 : (w4.alloc (.cells #[.int .i64 ac1, .int .i64 ac2, .bool ac3, .bool ac4] 64)).cell? ⟨zd, 0, none⟩ = some (.int .i64 5) := bD5.cell 0
        have d1 : (w4.alloc (.cells #[.int .i64 ac1, .int .i64 ac2, .bool ac3, .bool ac4] 64)).cell? ⟨zd, 1, none⟩ = some (.int .i64 E) := bD5.cell 1
        have d2 : (w4.alloc (.cells #[.int .i64 ac1, .int .i64 ac2, .bool ac3, .bool ac4] 64)).cell? ⟨zd, 2, none⟩ = some (.int .i64 A) := bD5.cell 2
        have e1 : (w4.alloc (.cells #[.int .i64 ac1, .int .i64 ac2, .bool ac3, .bool ac4] 64)).cell? ⟨z + 1, 1, none⟩ = some (.int .i64 c2) := hC5.cell 1
        have e2 : (w4.alloc (.cells #[.int .i64 ac1, .int .i64 ac2, .bool ac3, .bool ac4] 64)).cell? ⟨z + 1, 2, none⟩ = some (.int .i64 c3) := hC5.cell 2
        have b2 : (w4.alloc (.cells #[.int .i64 ac1, .int .i64 ac2, .bool ac3, .bool ac4] 64)).cell? ⟨w4.heap.size, 2, none⟩ = some (.bool ac3) := bB.cell 2
        obtain rfl : ac3 = true := by rw [← HSA.out]; exact ha1
        have HK5 := Lib.hid (HK4.out.keep tB id)
        have ht5 := Lib.hid (ht4.trans (Exn.touch tB))
        clear HA HSA z2 bD3 hC3 bD4 hC4 bD5 hC5 bB tB HK3 HK4 ht3 ht4 t4 ht2
        unfold acc4
        go_wp2
        go_roundw
        case rel => exact ⟨j + 1, by omega, by go_num, by rw [HN2.out]; exact HK5.out, ht5.out⟩
        case measure => simp [intOf]; omega
    · obtain rfl : j = pl.length := by omega
      rw [List.take_length] at hK
      obtain ⟨hr3, hr4, hr5, hr6⟩ := HRU.out
      have HCHw := Lib.hid (HCH.out wr (HT6.out wr ht))
      have hCw := HCB.out wr ht
      have hXw := HXB.out wr ht
      have T6 := HT6.out wr ht
      have e1 : wr.cell? ⟨z + 1, 1, none⟩ = some (.int .i64 c2) := hCw.cell 1
      have HTTw := Lib.hid (HTT.out wr ht)
      clear HCH
      go_wp2_with fail
      refine HCHw.out.mono ?_
      rintro _ w8 ⟨u, rfl, hO⟩
      obtain ⟨U, cu, rfl, _, _⟩ := hO.form
      have t68 := T6.trans hO.tch
      have tt8 := Lib.hid (HTTw.out.trans hO.tch)
      have hC8 := hCw.keep hO.tch id
      have hX8 := hXw.keep hO.tch id
      have hK8 := hK.keep hO.tch id
      have e2 : w8.cell? ⟨z + 1, 2, none⟩ = some (.int .i64 c3) := hC8.cell 2
      have hkl9 : (kids.length : Int) ≤ 40 := by omega
      clear HCHw hO e1 hCw hXw hK T6 HTTw
      by_cases h2 : c3 = 2
      · subst h2
        rw [if_pos rfl] at hr5
        have HSPw := Lib.hid (HSP.out w8 t68)
        have hmul : IntKind.i64.wrap ((kids.length : Int) * (splits.length : Int)) = ((kids.length * splits.length : Nat) : Int) := by
          rw [IntKind.wrap_i64, ← Int.natCast_mul]; omega
        have hmul2 : wrap64 ((kids.length : Int) * (splits.length : Int)) = ((kids.length * splits.length : Nat) : Int) := by
          rw [← Int.natCast_mul]; unfold wrap64; omega
        go_wp2_with fail
        refine HSPw.out.mono ?_
        rintro _ w9 ⟨u9, rfl, hO9⟩
        obtain ⟨U9, cu9, rfl, _, _⟩ := hO9.form
        have hX9 := hX8.keep hO9.tch id
        have hK9 := hK8.keep hO9.tch id
        have tt9 := Lib.hid (tt8.out.trans hO9.tch)
        clear HSPw hO9 hX8 hK8 hC8 e2
        have f3 : w9.cell? ⟨cb, 3, none⟩ = some (.int .i64 1) := by have h9 : w9.cell? ⟨cb, 3, none⟩ = some (.int .i64 (ruleN pl 3 : Int)) := hK9.cell 3; rw [hr3] at h9; exact h9
        have f4 : w9.cell? ⟨cb, 4, none⟩ = some (.int .i64 (kids.length : Int)) := by have h9 : w9.cell? ⟨cb, 4, none⟩ = some (.int .i64 (ruleN pl 4 : Int)) := hK9.cell 4; rw [hr4] at h9; exact h9
        have f5 : w9.cell? ⟨cb, 5, none⟩ = some (.int .i64 ((kids.length * splits.length : Nat) : Int)) := by have h9 : w9.cell? ⟨cb, 5, none⟩ = some (.int .i64 (ruleN pl 5 : Int)) := hK9.cell 5; rw [hr5] at h9; exact h9
        have f6 : w9.cell? ⟨cb, 6, none⟩ = some (.int .i64 1) := by have h9 : w9.cell? ⟨cb, 6, none⟩ = some (.int .i64 (ruleN pl 6 : Int)) := hK9.cell 6; rw [hr6] at h9; exact h9
        have x2 : w9.cell? ⟨y1, 2, none⟩ = some (.slice P1 pl.length k1) := hX9.cell 2
        clear hX9 hK9 hr3 hr4 hr5 hr6
        go_wp2_with fail
        refine (awake36_any _).mono ?_
        rintro _ w11 ⟨rfl, t11⟩
        go_wp2
        go_ret
        exact ⟨rfl, tt9.out.trans t11⟩
      · have h2' : (c3 == 2) = false := by simpa using h2
        rw [if_neg h2] at hr5
        clear hC8
        have f3 : w8.cell? ⟨cb, 3, none⟩ = some (.int .i64 1) := by have h9 : w8.cell? ⟨cb, 3, none⟩ = some (.int .i64 (ruleN pl 3 : Int)) := hK8.cell 3; rw [hr3] at h9; exact h9
        have f4 : w8.cell? ⟨cb, 4, none⟩ = some (.int .i64 (kids.length : Int)) := by have h9 : w8.cell? ⟨cb, 4, none⟩ = some (.int .i64 (ruleN pl 4 : Int)) := hK8.cell 4; rw [hr4] at h9; exact h9
        have f5 : w8.cell? ⟨cb, 5, none⟩ = some (.int .i64 0) := by have h9 : w8.cell? ⟨cb, 5, none⟩ = some (.int .i64 (ruleN pl 5 : Int)) := hK8.cell 5; rw [hr5] at h9; exact h9
        have f6 : w8.cell? ⟨cb, 6, none⟩ = some (.int .i64 1) := by have h9 : w8.cell? ⟨cb, 6, none⟩ = some (.int .i64 (ruleN pl 6 : Int)) := hK8.cell 6; rw [hr6] at h9; exact h9
        have x2 : w8.cell? ⟨y1, 2, none⟩ = some (.slice P1 pl.length k1) := hX8.cell 2
        clear hX8 hK8 hr3 hr4 hr5 hr6
        go_wp2_with fail
        refine (awake36_any _).mono ?_
        rintro _ w11 ⟨rfl, t11⟩
        go_wp2
        go_ret
        exact ⟨rfl, tt8.out.trans t11⟩

theorem consholds_row {w : World} {u v : Value} (hu : ∃ b, BooksIs (fun _ => True) w u b ∧ Bks64 b) (hv : ∃ c : Rt6, v = cellV c ∧ (I64 c.1 ∧ I64 c.2.1 ∧ I64 c.2.2.1 ∧ I64 c.2.2.2.1 ∧ I64 c.2.2.2.2.1 ∧ I64 c.2.2.2.2.2)) :
    Calls Tryz.prog 4 #[u, v] w fun x w' => x = .returned (.bool true) ∧ Tch (fun _ => False) w w' := by
  obtain ⟨b, hb, h64⟩ := hu
  obtain ⟨⟨c1, c2, c3, c4, c5, c6⟩, rfl, _⟩ := hv
  obtain ⟨e, a, s, r, l, n, us, rfl, h⟩ := hb.at
  exact consholds_any h h64 c1 c2 c3 c4 c5 c6
end Go.Proofs.YtnmogbhmelpbnaaGreat
