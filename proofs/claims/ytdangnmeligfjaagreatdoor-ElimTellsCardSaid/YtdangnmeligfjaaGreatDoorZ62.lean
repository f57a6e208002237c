/-
  Plain: where two meet, by going through all. No program in sight.
-/
import Derived.Test.YtdangnmeligfjaaGreatDoorZ64
import Derived.Test.YtdangnmeligfjaaGreatDoorZ27
namespace Go.Gk.V33
section
variable {l : List Stk4} {n : Int} {p : Nat}
theorem chain_full (hp : p < 24) (hok : stakesOK l n = true) (e : Int) : ∃ out, Chain (fun y => stkUp l y p) e out 0 := by
  have h : ∀ k : Nat, (∃ out, Chain (fun y => stkUp l y p) e out 0) ∨ ∃ out x, Chain (fun y => stkUp l y p) e out x ∧ out.length = k ∧ x ≠ 0 := by
    intro k
    induction k with
    | zero =>
      have hs : Chain (fun y => stkUp l y p) e [] (stkUp l e p) := .start
      by_cases h0 : stkUp l e p = 0
      · rw [h0] at hs
        exact .inl ⟨_, hs⟩
      · exact .inr ⟨_, _, hs, rfl, h0⟩
    | succ k ih =>
      rcases ih with h | ⟨out, x, hc, hl, h0⟩
      · exact .inl h
      · have hs : Chain (fun y => stkUp l y p) e (out ++ [x]) (stkUp l x p) := .step hc h0 (chain_new hp hok hc)
        by_cases h1 : stkUp l x p = 0
        · rw [h1] at hs
          exact .inl ⟨_, hs⟩
        · exact .inr ⟨_, _, hs, by simp [hl], h1⟩
  rcases h (l.length + 1) with h | ⟨out, x, hc, hl, _⟩
  · exact h
  · have := chain_len hc
    omega
/-- One and those above it. -/
def wayOf (l : List Stk4) (p : Int) (e : Int) : List Int := e :: upsOf l p e
theorem way_self (l : List Stk4) (p e : Int) : e ∈ wayOf l p e := List.mem_cons_self ..
theorem under_way {p t e : Int} : underOf l p t e = true ↔ t ∈ wayOf l p e := by
  unfold underOf wayOf
  rw [Bool.or_eq_true, beq_iff_eq, List.contains_iff_mem, List.mem_cons]
theorem ups_step (hp : p < 24) (hok : stakesOK l n = true) (e : Int) : upsOf l p e = if stkUp l e p = 0 then [] else wayOf l p (stkUp l e p) := by
  by_cases h0 : stkUp l e p = 0
  · unfold upsOf
    rw [h0, upsG_zero, if_pos rfl]
  · rw [if_neg h0]
    obtain ⟨out, hc⟩ := chain_full hp hok (stkUp l e p)
    have hL := chain_len hc
    have e1 := chain_ups hc (l.length - out.length)
    rw [show out.length + (l.length - out.length) = l.length by omega, upsG_zero, List.append_nil] at e1
    have e2 := ups_chain hc
    unfold wayOf
    rw [e2, ← e1]
    unfold upsOf
    conv => lhs; unfold upsG
    rw [if_neg h0]
theorem way_split (hp : p < 24) (hok : stakesOK l n = true) : ∀ (m : Nat) (e t : Int), (upsOf l p e).length = m → t ∈ wayOf l p e → wayOf l p t <:+ wayOf l p e := by
  intro m
  induction m with
  | zero =>
    intro e t hm ht
    unfold wayOf at ht
    rw [List.eq_nil_of_length_eq_zero hm, List.mem_singleton] at ht
    subst ht
    exact List.suffix_refl _
  | succ m ih =>
    intro e t hm ht
    rcases List.mem_cons.1 ht with rfl | ht
    · exact List.suffix_refl _
    · have hs := ups_step hp hok e
      by_cases h0 : stkUp l e p = 0
      · rw [if_pos h0] at hs
        rw [hs] at ht
        cases ht
      · rw [if_neg h0] at hs
        rw [hs] at ht
        have hl : (upsOf l p (stkUp l e p)).length = m := by
          have h9 := congrArg List.length hs
          unfold wayOf at h9
          rw [hm, List.length_cons] at h9
          omega
        have h1 := ih _ t hl ht
        refine h1.trans ?_
        show wayOf l p (stkUp l e p) <:+ e :: upsOf l p e
        rw [hs]
        exact List.suffix_cons ..
theorem way_sub (hp : p < 24) (hok : stakesOK l n = true) {e t : Int} (h : t ∈ wayOf l p e) : wayOf l p t <:+ wayOf l p e := way_split hp hok _ e t rfl h
theorem way_trans (hp : p < 24) (hok : stakesOK l n = true) {e t x : Int} (h1 : t ∈ wayOf l p e) (h2 : e ∈ wayOf l p x) : t ∈ wayOf l p x := (way_sub hp hok h2).subset h1
theorem way_anti (hp : p < 24) (hok : stakesOK l n = true) {e t : Int} (h1 : t ∈ wayOf l p e) (h2 : e ∈ wayOf l p t) : t = e := by
  have s1 := way_sub hp hok h1
  have s2 := way_sub hp hok h2
  have h := s1.eq_of_length (Nat.le_antisymm s1.length_le s2.length_le)
  unfold wayOf at h
  exact (List.cons.inj h).1
theorem way_comp (hp : p < 24) (hok : stakesOK l n = true) {a i j : Int} (h1 : i ∈ wayOf l p a) (h2 : j ∈ wayOf l p a) : i ∈ wayOf l p j ∨ j ∈ wayOf l p i := by
  rcases List.suffix_or_suffix_of_suffix (way_sub hp hok h1) (way_sub hp hok h2) with h | h
  · exact .inl (h.subset (way_self ..))
  · exact .inr (h.subset (way_self ..))
theorem first_low (hp : p < 24) (hok : stakesOK l n = true) (F : Int → Bool) {best : Int} (h1 : F best = true) : ∀ (m : Nat) (a : Int), (upsOf l p a).length = m → best ∈ wayOf l p a → (∀ t ∈ wayOf l p a, F t = true → t ∈ wayOf l p best) → (wayOf l p a).find? F = some best := by
  intro m
  induction m with
  | zero =>
    intro a hm hb hall
    have hb2 := hb
    unfold wayOf at hb ⊢
    rw [List.eq_nil_of_length_eq_zero hm] at hb ⊢
    rw [List.mem_singleton] at hb
    subst hb
    rw [List.find?_cons_of_pos h1]
  | succ m ih =>
    intro a hm hb hall
    by_cases ha : F a = true
    · have := way_anti hp hok (hall a (way_self ..) ha) hb
      subst this
      unfold wayOf
      rw [List.find?_cons_of_pos ha]
    · have hs := ups_step hp hok a
      by_cases h0 : stkUp l a p = 0
      · rw [if_pos h0] at hs
        rw [hs] at hm
        cases hm
      · rw [if_neg h0] at hs
        have hl : (upsOf l p (stkUp l a p)).length = m := by
          have h9 := congrArg List.length hs
          unfold wayOf at h9
          rw [hm, List.length_cons] at h9
          omega
        have hbu : best ∈ upsOf l p a := by
          rcases List.mem_cons.1 hb with e | e
          · exact absurd (e ▸ h1) ha
          · exact e
        rw [hs] at hbu
        have := ih _ hl hbu (fun t ht => hall t (List.mem_cons_of_mem _ (by rw [hs]; exact ht)))
        show (a :: upsOf l p a).find? F = some best
        rw [List.find?_cons_of_neg ha, hs]
        exact this
/-- Whether one stands above another, or is it. -/
def aboveD (l : List Stk4) (p : Int) (n : Nat) (top x : Int) : Bool := ((decide (1 ≤ top) && decide (top ≤ n)) && (decide (1 ≤ x) && decide (x ≤ n))) && underOf l p top x
def meetStep (l : List Stk4) (p : Int) (n : Nat) (a b best i : Int) : Int := if (aboveD l p n i a && aboveD l p n i b && (best == 0 || aboveD l p n best i)) = true then i else best
def meetD (l : List Stk4) (p : Int) (n : Nat) (a b : Int) : Int := (accIds n).foldl (meetStep l p n a b) 0
theorem above_in {l : List Stk4} {p : Int} {n : Nat} {top x : Int} (h1 : 1 ≤ top ∧ top ≤ n) (h2 : 1 ≤ x ∧ x ≤ n) : aboveD l p n top x = true ↔ top ∈ wayOf l p x := by
  unfold aboveD
  rw [Bool.and_eq_true, under_way]
  simp [h1.1, h1.2, h2.1, h2.2]
def MeetInv (l : List Stk4) (p : Int) (a b : Int) (xs : List Int) (best : Int) : Prop := (best = 0 ∧ ∀ i ∈ xs, ¬ (i ∈ wayOf l p a ∧ i ∈ wayOf l p b)) ∨ (best ∈ xs ∧ (best ∈ wayOf l p a ∧ best ∈ wayOf l p b) ∧ ∀ i ∈ xs, i ∈ wayOf l p a ∧ i ∈ wayOf l p b → i ∈ wayOf l p best)
theorem meet_inv {n : Nat} (hp : p < 24) (hok : stakesOK l n = true) {a b : Int} (ha : 1 ≤ a ∧ a ≤ (n : Int)) (hb : 1 ≤ b ∧ b ≤ (n : Int)) : ∀ (ys xs : List Int) (best : Int), (∀ y ∈ xs ++ ys, 1 ≤ y ∧ y ≤ (n : Int)) → MeetInv l p a b xs best → MeetInv l p a b (xs ++ ys) (ys.foldl (meetStep l p n a b) best)
  | [], xs, best, _, h => by rw [List.append_nil]; exact h
  | y :: ys, xs, best, hr, h => by
    have hy := hr y (List.mem_append.2 (.inr (List.mem_cons_self ..)))
    rw [show xs ++ y :: ys = (xs ++ [y]) ++ ys by simp, List.foldl_cons]
    refine meet_inv hp hok ha hb ys (xs ++ [y]) _ (by simpa using hr) ?_
    have e1 := above_in (l := l) (p := p) hy ha
    have e2 := above_in (l := l) (p := p) hy hb
    unfold meetStep
    by_cases hc : y ∈ wayOf l p a ∧ y ∈ wayOf l p b
    · rw [e1.2 hc.1, e2.2 hc.2]
      rcases h with ⟨rfl, h⟩ | ⟨hm, hcb, h⟩
      · rw [if_pos (by simp)]
        refine .inr ⟨by simp, hc, fun i hi hci => ?_⟩
        rcases List.mem_append.1 hi with hi | hi
        · exact absurd hci (h i hi)
        · rw [List.mem_singleton] at hi
          subst hi
          exact way_self ..
      · have hbr := hr best (List.mem_append.2 (.inl hm))
        have e3 := above_in (l := l) (p := p) hbr hy
        by_cases hby : best ∈ wayOf l p y
        · rw [e3.2 hby, if_pos (by simp)]
          refine .inr ⟨by simp, hc, fun i hi hci => ?_⟩
          rcases List.mem_append.1 hi with hi | hi
          · exact way_trans hp hok (h i hi hci) hby
          · rw [List.mem_singleton] at hi
            subst hi
            exact way_self ..
        · have h3 : aboveD l p n best y = false := by
            cases h9 : aboveD l p n best y with
            | false => rfl
            | true => exact absurd (e3.1 h9) hby
          have hb0 : (best == 0) = false := by rw [beq_eq_false_iff_ne]; omega
          rw [h3, hb0, if_neg (by simp)]
          refine .inr ⟨List.mem_append.2 (.inl hm), hcb, fun i hi hci => ?_⟩
          rcases List.mem_append.1 hi with hi | hi
          · exact h i hi hci
          · rw [List.mem_singleton] at hi
            subst hi
            exact (way_comp hp hok hc.1 hcb.1).resolve_right hby
    · have h3 : (aboveD l p n y a && aboveD l p n y b) = false := by
        cases h9 : aboveD l p n y a with
        | false => rfl
        | true =>
          cases h8 : aboveD l p n y b with
          | false => rfl
          | true => exact absurd ⟨e1.1 h9, e2.1 h8⟩ hc
      rw [h3, if_neg (by simp)]
      rcases h with ⟨rfl, h⟩ | ⟨hm, hcb, h⟩
      · refine .inl ⟨rfl, fun i hi => ?_⟩
        rcases List.mem_append.1 hi with hi | hi
        · exact h i hi
        · rw [List.mem_singleton] at hi
          subst hi
          exact hc
      · refine .inr ⟨List.mem_append.2 (.inl hm), hcb, fun i hi hci => ?_⟩
        rcases List.mem_append.1 hi with hi | hi
        · exact h i hi hci
        · rw [List.mem_singleton] at hi
          subst hi
          exact absurd hci hc
theorem meet_is {n : Nat} (hp : p < 24) (hok : stakesOK l n = true) {a b : Int} (ha : 1 ≤ a ∧ a ≤ (n : Int)) (hb : 1 ≤ b ∧ b ≤ (n : Int)) : meetD l p n a b = meetOf l p a b := by
  have hi := meet_inv hp hok ha hb (accIds n) [] 0 (fun y hy => by rw [List.nil_append] at hy; exact ids_iff.1 hy) (.inl ⟨rfl, fun i hi => by cases hi⟩)
  rw [List.nil_append] at hi
  have hin : ∀ t ∈ wayOf l p a, t ∈ accIds n := fun t ht => by
    rcases List.mem_cons.1 ht with rfl | ht
    · exact ids_iff.2 ha
    · exact ids_iff.2 (ups_range hok ht)
  have hF : ∀ t, underOf l p t b = true ↔ t ∈ wayOf l p b := fun t => under_way
  unfold meetD meetOf
  show _ = ((wayOf l p a).find? fun t => underOf l p t b).getD 0
  generalize (accIds n).foldl (meetStep l p n a b) 0 = best at hi
  rcases hi with ⟨rfl, h⟩ | ⟨hm, hcb, h⟩
  · rw [List.find?_eq_none.2 fun t ht h9 => h t (hin t ht) ⟨ht, (hF t).1 h9⟩]
    rfl
  · rw [first_low hp hok (fun t => underOf l p t b) ((hF best).2 hcb.2) _ a rfl hcb.1 fun t ht h9 => h t (hin t ht) ⟨ht, (hF t).1 h9⟩]
    rfl
end
end Go.Gk.V33

/-
  The document's: who stands above an entity of a forest; where two meet.
-/
namespace Go.Gk.V33
def upsD (l : List Stk4) (p : Int) (n : Nat) (x : Int) : List Int := if 1 ≤ x ∧ x ≤ n then upsOf l p x else []
theorem above_ups {l : List Stk4} {p : Int} {n : Nat} {top x : Int} (h1 : 1 ≤ top ∧ top ≤ (n : Int)) (h2 : 1 ≤ x ∧ x ≤ (n : Int)) : aboveD l p n top x = (decide (top = x) || decide (top ∈ upsD l p n x)) := by
  unfold aboveD upsD underOf
  rw [if_pos h2]
  simp only [decide_eq_true h1.1, decide_eq_true h1.2, decide_eq_true h2.1, decide_eq_true h2.2, Bool.and_self, Bool.true_and]
  congr 1
  rw [Bool.eq_iff_iff, List.contains_iff_mem, decide_eq_true_iff]
theorem above_off {l : List Stk4} {p : Int} {n : Nat} {top x : Int} (h : ¬ ((1 ≤ top ∧ top ≤ (n : Int)) ∧ (1 ≤ x ∧ x ≤ (n : Int)))) : aboveD l p n top x = false := by
  unfold aboveD
  rw [Bool.and_eq_false_iff]
  left
  cases h9 : (decide (1 ≤ top) && decide (top ≤ (n : Int))) && (decide (1 ≤ x) && decide (x ≤ (n : Int))) with
  | false => rfl
  | true =>
    simp only [Bool.and_eq_true, decide_eq_true_eq] at h9
    exact absurd h9 h
end Go.Gk.V33
namespace Go.Proofs.YtdangnmeligfjaaGreatDoor
open Go.RowKit Go.Gk Go.Gk.V33

section
variable {w : World} {v : Value} {l : List Stk4} {n p : Nat}
set_option maxRecDepth 100000 in
set_option maxHeartbeats 1600000 in
theorem refup19_any (hl : RowsOf int4 4 (fun _ => True) w v l) (h400 : l.length ≤ 400) (hok : stakesOK l n = true) (hp : p < 24) (x : Int) :
    Calls Tryz.prog 195 #[.agg #[v, .int .i64 (n : Int), .int .i64 (p : Int)], .int .i64 x] w fun y w' => ∃ u, y = .returned u ∧ OutI w w' u (upsD l p n x) := by
  have tw := Tch.alloc (fun _ => False) w (.cells #[v, .int .i64 (n : Int), .int .i64 (p : Int)] 199)
  have bF := Blk.new w 199 #[v, .int .i64 (n : Int), .int .i64 (p : Int)]
  have HAB := Lib.hid (fun w' (t : Tch (fun _ => False) w w') => refabove_end (hl.keep t) (by omega) x (p : Int))
  have HIS := Lib.hid (fun w' => refis19_any v (n : Int) (p : Int) x w')
  have HCH := Lib.hid (fun (xs : List Int) (h : Chain (fun y => stkUp l y p) x xs 0) => ups_chain h)
  have HCN := Lib.hid (fun (xs : List Int) (y : Int) (h : Chain (fun y => stkUp l y p) x xs y) => chain_new hp hok h)
  obtain ⟨A, c, rfl, hc1, hc2⟩ := hl.form
  clear hl hok
  by_cases hin : 1 ≤ x ∧ x ≤ (n : Int)
  · have HU := Lib.hid (show upsD l p n x = upsOf l p x by unfold upsD; rw [if_pos hin])
    have hd : decide (1 ≤ x ∧ x ≤ (n : Int)) = true := by simpa using hin
    rw [hd] at HIS
    clear hd hin
    go_enter Tryz.func195, Tryz.ntmps195
    go_wp2_with fail
    generalize w.alloc _ = W at *
    generalize w.heap.size = z at *
    refine (HIS.out W).mono ?_
    rintro _ w1 ⟨rfl, t1⟩
    have bF1 := bF.keep t1 id
    have T1 := tw.trans t1
    have k0 : w1.cell? ⟨z, 0, none⟩ = some (.slice A l.length c) := bF1.cell 0
    have k2 : w1.cell? ⟨z, 2, none⟩ = some (.int .i64 (p : Int)) := bF1.cell 2
    have HAB1 := Lib.hid (HAB.out w1 T1)
    clear HIS bF tw t1 bF1 HAB
    go_wp2_with fail
    refine HAB1.out.mono ?_
    rintro _ w2 ⟨u, xs, y, rfl, hO, hc, hy⟩
    have hxs : upsD l p n x = xs := by
      rcases hy with rfl | hy
      · exact HU.out.trans (HCH.out xs hc)
      · exact absurd hy (HCN.out xs y hc)
    have HXS := Lib.hid hxs
    have HO2 := Lib.hid (hO.base T1)
    obtain ⟨O, co, rfl, _, _⟩ := hO.form
    clear hxs hc hy hO HAB1 k0 k2
    go_wp2
    go_ret
    exact ⟨_, rfl, by rw [HXS.out]; exact HO2.out⟩
  · have HU := Lib.hid (show upsD l p n x = [] by unfold upsD; rw [if_neg hin])
    have hd : decide (1 ≤ x ∧ x ≤ (n : Int)) = false := by simpa using hin
    rw [hd] at HIS
    clear hd hin
    go_enter Tryz.func195, Tryz.ntmps195
    go_wp2_with fail
    generalize w.alloc _ = W at *
    generalize w.heap.size = z at *
    refine (HIS.out W).mono ?_
    rintro _ w1 ⟨rfl, t1⟩
    have T1 := tw.trans t1
    clear HIS bF tw t1 HAB
    go_wp2
    go_ret
    exact ⟨_, rfl, by rw [HU.out]; exact Outs.start _ _ _ T1⟩

set_option maxRecDepth 100000 in
set_option maxHeartbeats 3200000 in
theorem refabove19_any (hl : RowsOf int4 4 (fun _ => True) w v l) (h400 : l.length ≤ 400) (hok : stakesOK l n = true) (hp : p < 24) (top x : Int) :
    Calls Tryz.prog 165 #[.agg #[v, .int .i64 (n : Int), .int .i64 (p : Int)], .int .i64 top, .int .i64 x] w fun y w' => y = .returned (.bool (aboveD l p n top x)) ∧ Tch (fun _ => False) w w' := by
  have tw := Tch.alloc (fun _ => False) w (.cells #[v, .int .i64 (n : Int), .int .i64 (p : Int)] 199)
  have bF := Blk.new w 199 #[v, .int .i64 (n : Int), .int .i64 (p : Int)]
  have HUP := Lib.hid (fun w' (t : Tch (fun _ => False) w w') => refup19_any (hl.keep t) h400 hok hp x)
  have HIS := Lib.hid (fun w' y => refis19_any v (n : Int) (p : Int) y w')
  have HON := Lib.hid (above_ups (l := l) (p := (p : Int)) (n := n) (top := top) (x := x))
  have HOF := Lib.hid (above_off (l := l) (p := (p : Int)) (n := n) (top := top) (x := x))
  generalize aboveD l p n top x = r at *
  generalize upsD l p n x = ys at *
  obtain ⟨A, c, rfl, hc1, hc2⟩ := hl.form
  clear hl hok
  obtain ⟨d1, hd1⟩ : ∃ d, decide (1 ≤ top ∧ top ≤ (n : Int)) = d := ⟨_, rfl⟩
  have HI1 := Lib.hid (fun w' => HIS.out w' top)
  rw [hd1] at HI1
  obtain ⟨d2, hd2⟩ : ∃ d, decide (1 ≤ x ∧ x ≤ (n : Int)) = d := ⟨_, rfl⟩
  have HI2 := Lib.hid (fun w' => HIS.out w' x)
  rw [hd2] at HI2
  clear HIS
  go_enter Tryz.func165, Tryz.ntmps165
  go_wp2_with fail
  generalize w.alloc _ = W at *
  generalize w.heap.size = z at *
  refine (HI1.out W).mono ?_
  rintro _ w1 ⟨rfl, t1⟩
  have bF1 := bF.keep t1 id
  have T1 := tw.trans t1
  have f1_0 : w1.cell? ⟨z, 0, none⟩ = some (.slice A l.length c) := bF1.cell 0
  have f1_1 : w1.cell? ⟨z, 1, none⟩ = some (.int .i64 (n : Int)) := bF1.cell 1
  have f1_2 : w1.cell? ⟨z, 2, none⟩ = some (.int .i64 (p : Int)) := bF1.cell 2
  clear HI1 bF tw t1
  cases d1
  · obtain rfl : r = false := HOF.out (fun h => by simp [h.1] at hd1)
    clear hd1 hd2 HON HOF HUP HI2 bF1
    go_wp2
    go_ret
    exact ⟨rfl, T1⟩
  go_wp2_with fail
  refine (HI2.out w1).mono ?_
  rintro _ w2 ⟨rfl, t2⟩
  have bF2 := bF1.keep t2 id
  have T2 := T1.trans t2
  clear f1_0 f1_1 f1_2 HI2 bF1 T1 t2
  have f2_0 : w2.cell? ⟨z, 0, none⟩ = some (.slice A l.length c) := bF2.cell 0
  have f2_1 : w2.cell? ⟨z, 1, none⟩ = some (.int .i64 (n : Int)) := bF2.cell 1
  have f2_2 : w2.cell? ⟨z, 2, none⟩ = some (.int .i64 (p : Int)) := bF2.cell 2
  cases d2
  · obtain rfl : r = false := HOF.out (fun h => by simp [h.2] at hd2)
    clear hd1 hd2 HON HOF HUP bF2
    go_wp2
    go_ret
    exact ⟨rfl, T2⟩
  have hr : r = (decide (top = x) || decide (top ∈ ys)) := HON.out (by simpa using hd1) (by simpa using hd2)
  clear hd1 hd2 HON HOF
  by_cases he : top = x
  · obtain rfl : r = true := by rw [hr]; simp [he]
    subst he
    clear hr HUP bF2
    go_wp2
    go_ret
    exact ⟨rfl, T2⟩
  have hr2 : r = decide (top ∈ ys) := by rw [hr]; simp [he]
  have he2 : (top == x) = false := by simpa using he
  have HR := Lib.hid hr2
  have HUP2 := Lib.hid (HUP.out w2 T2)
  clear hr hr2 HUP bF2
  go_wp2_with fail
  refine HUP2.out.mono ?_
  rintro _ w3 ⟨u, rfl, hO⟩
  have HH := Lib.hid (refhas_any hO.row top)
  rw [← HR.out] at HH
  have T3 := T2.trans hO.tch
  obtain ⟨O, co, rfl, _, _⟩ := hO.form
  clear HUP2 hO f2_0 f2_1 f2_2
  go_wp2_with fail
  refine HH.out.mono ?_
  rintro _ _ ⟨rfl, rfl⟩
  clear HH HR
  go_wp2
  go_ret
  exact ⟨rfl, T3⟩

set_option maxRecDepth 100000 in
set_option maxHeartbeats 3200000 in
theorem refmeet19_any (hl : RowsOf int4 4 (fun _ => True) w v l) (h400 : l.length ≤ 400) (hok : stakesOK l n = true) (hp : p < 24) (h40 : n ≤ 40) (x y : Int) :
    Calls Tryz.prog 127 #[.agg #[v, .int .i64 (n : Int), .int .i64 (p : Int)], .int .i64 x, .int .i64 y] w fun q w' => q = .returned (.int .i64 (meetD l p n x y)) ∧ Tch (fun _ => False) w w' := by
  have tw := Tch.alloc (fun _ => False) w (.cells #[v, .int .i64 (n : Int), .int .i64 (p : Int)] 199)
  have bF := Blk.new w 199 #[v, .int .i64 (n : Int), .int .i64 (p : Int)]
  have HAB := Lib.hid (fun w' (t : Tch (fun _ => False) w w') i j => refabove19_any (hl.keep t) h400 hok hp i j)
  have HME := Lib.hid (show meetD l p n x y = (accIds n).foldl (meetStep l p n x y) 0 from rfl)
  have HST0 := Lib.hid (fun best i => show meetStep l p n x y best i = if (aboveD l p n i x && aboveD l p n i y && (best == 0 || aboveD l p n best i)) = true then i else best from rfl)
  generalize meetD l p n x y = res at *
  generalize meetStep l p n x y = ST at *
  generalize aboveD l p n = AB at *
  obtain ⟨A, c, rfl, hc1, hc2⟩ := hl.form
  clear hl hok
  have hn40 : (n : Int) ≤ 40 := by omega
  go_enter Tryz.func127, Tryz.ntmps127
  go_wp2_with fail
  generalize w.alloc _ = W at *
  generalize w.heap.size = z at *
  go_loopw [7, 8] (fun m i wr => ∃ (j : Nat) (best : Int), j ≤ n ∧ i = .int .i64 ((j : Int) + 1) ∧ m = .int .i64 best ∧ (accIds j).foldl ST 0 = best ∧ Tch (fun _ => False) W wr) (fun _ i _ => n + 1 - (intOf i).toNat)
  case atStart => exact ⟨0, 0, Nat.zero_le _, rfl, rfl, rfl, Tch.refl _ _⟩
  case round =>
    obtain ⟨j, best, hj, rfl, rfl, hbest, tr⟩ := hrel
    have HB := Lib.hid hbest
    clear hbest
    have bFr := bF.keep tr id
    have Tr := tw.trans tr
    have hj0 : (0 : Int) ≤ (j : Int) := Int.natCast_nonneg _
    have fr_0 : wr.cell? ⟨z, 0, none⟩ = some (.slice A l.length c) := bFr.cell 0
    have fr_1 : wr.cell? ⟨z, 1, none⟩ = some (.int .i64 (n : Int)) := bFr.cell 1
    have fr_2 : wr.cell? ⟨z, 2, none⟩ = some (.int .i64 (p : Int)) := bFr.cell 2
    by_cases hlt : j < n
    · have hlt' : (j : Int) + 1 ≤ (n : Int) := by omega
      have HSN := Lib.hid (show (accIds (j + 1)).foldl ST 0 = ST best ((j : Int) + 1) by rw [accIds_succ, List.foldl_append, HB.out]; rfl)
      have HST := Lib.hid (HST0.out best ((j : Int) + 1))
      have HA1 := Lib.hid (HAB.out wr Tr ((j : Int) + 1) x)
      obtain ⟨d1, hd1⟩ : ∃ d, AB ((j : Int) + 1) x = d := ⟨_, rfl⟩
      rw [hd1] at HA1 HST
      clear hd1
      go_wp2_with fail
      refine HA1.out.mono ?_
      rintro _ w1 ⟨rfl, t1⟩
      have b1 := bFr.keep t1 id
      have T1 := Tr.trans t1
      have tr1 := tr.trans t1
      clear fr_0 fr_1 fr_2 HA1 t1
      have f3_0 : w1.cell? ⟨z, 0, none⟩ = some (.slice A l.length c) := b1.cell 0
      have f3_1 : w1.cell? ⟨z, 1, none⟩ = some (.int .i64 (n : Int)) := b1.cell 1
      have f3_2 : w1.cell? ⟨z, 2, none⟩ = some (.int .i64 (p : Int)) := b1.cell 2
      cases d1
      · have HN := Lib.hid (show (accIds (j + 1)).foldl ST 0 = best by rw [HSN.out, HST.out]; simp)
        clear b1 HSN HST
        go_wp2
        go_roundw
        case rel => exact ⟨j + 1, best, by omega, by go_num, rfl, HN.out, tr1⟩
        case measure => simp [intOf]; omega
      have HA2 := Lib.hid (HAB.out w1 T1 ((j : Int) + 1) y)
      obtain ⟨d2, hd2⟩ : ∃ d, AB ((j : Int) + 1) y = d := ⟨_, rfl⟩
      rw [hd2] at HA2 HST
      clear hd2
      go_wp2_with fail
      refine HA2.out.mono ?_
      rintro _ w2 ⟨rfl, t2⟩
      have b2 := b1.keep t2 id
      have T2 := T1.trans t2
      have tr2 := tr1.trans t2
      clear f3_0 f3_1 f3_2 b1 HA2 t2
      have f4_0 : w2.cell? ⟨z, 0, none⟩ = some (.slice A l.length c) := b2.cell 0
      have f4_1 : w2.cell? ⟨z, 1, none⟩ = some (.int .i64 (n : Int)) := b2.cell 1
      have f4_2 : w2.cell? ⟨z, 2, none⟩ = some (.int .i64 (p : Int)) := b2.cell 2
      cases d2
      · have HN := Lib.hid (show (accIds (j + 1)).foldl ST 0 = best by rw [HSN.out, HST.out]; simp)
        clear b2 HSN HST
        go_wp2
        go_roundw
        case rel => exact ⟨j + 1, best, by omega, by go_num, rfl, HN.out, tr2⟩
        case measure => simp [intOf]; omega
      by_cases hb0 : best = 0
      · subst hb0
        have HN := Lib.hid (show (accIds (j + 1)).foldl ST 0 = (j : Int) + 1 by rw [HSN.out, HST.out]; simp)
        clear b2 HSN HST
        go_wp2
        go_roundw
        case rel => exact ⟨j + 1, _, by omega, by go_num, rfl, HN.out, tr2⟩
        case measure => simp [intOf]; omega
      have hb1 : (best == 0) = false := by simpa using hb0
      have HA3 := Lib.hid (HAB.out w2 T2 best ((j : Int) + 1))
      obtain ⟨d3, hd3⟩ : ∃ d, AB best ((j : Int) + 1) = d := ⟨_, rfl⟩
      rw [hd3, hb1] at HST
      rw [hd3] at HA3
      clear hd3
      go_wp2_with fail
      refine HA3.out.mono ?_
      rintro _ w3 ⟨rfl, t3⟩
      have tr3 := tr2.trans t3
      clear f4_0 f4_1 f4_2 b2 HA3 t3
      cases d3
      · have HN := Lib.hid (show (accIds (j + 1)).foldl ST 0 = best by rw [HSN.out, HST.out]; simp)
        clear HSN HST
        go_wp2
        go_roundw
        case rel => exact ⟨j + 1, best, by omega, by go_num, rfl, HN.out, tr3⟩
        case measure => simp [intOf]; omega
      · have HN := Lib.hid (show (accIds (j + 1)).foldl ST 0 = (j : Int) + 1 by rw [HSN.out, HST.out]; simp)
        clear HSN HST
        go_wp2
        go_roundw
        case rel => exact ⟨j + 1, _, by omega, by go_num, rfl, HN.out, tr3⟩
        case measure => simp [intOf]; omega
    · obtain rfl : j = n := by omega
      obtain rfl : res = best := by rw [HME.out]; exact HB.out
      go_wp2
      go_ret
      exact ⟨rfl, Tr⟩
end
end Go.Proofs.YtdangnmeligfjaaGreatDoor
