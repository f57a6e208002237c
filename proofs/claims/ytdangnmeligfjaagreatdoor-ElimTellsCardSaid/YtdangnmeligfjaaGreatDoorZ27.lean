/-
  Plain: who stands above whom by stakes that may be; never the entity itself.
-/
import Derived.Test.YtdangnmeligfjaaGreatDoorZ4
import Derived.Test.YtdangnmeligfjaaGreatDoorZ23
import Derived.Test.YtdangnmeligfjaaGreatDoorZ20
namespace Go.Gk
def iter (f : Int → Int) : Nat → Int → Int
  | 0, x => x
  | n + 1, x => iter f n (f x)
theorem iter_out (f : Int → Int) : ∀ (n : Nat) (x : Int), iter f (n + 1) x = f (iter f n x)
  | 0, _ => rfl
  | n + 1, x => iter_out f n (f x)
/-- Those above e, gathered as far as out; at is the next one. -/
inductive Chain (f : Int → Int) (e : Int) : List Int → Int → Prop
  | start : Chain f e [] (f e)
  | step {out : List Int} {x : Int} : Chain f e out x → x ≠ 0 → x ∉ out → Chain f e (out ++ [x]) (f x)
theorem Chain.at {f : Int → Int} {e x : Int} {out : List Int} (h : Chain f e out x) : x = iter f (out.length + 1) e := by
  induction h with
  | start => rfl
  | step h h0 hn ih =>
    rw [List.length_append, List.length_singleton, iter_out, ← ih]
theorem Chain.get {f : Int → Int} {e x : Int} {out : List Int} (h : Chain f e out x) : ∀ (i : Nat) (hi : i < out.length), out[i] = iter f (i + 1) e := by
  induction h with
  | start => intro i hi; cases hi
  | @step out x h h0 hn ih =>
    intro i hi
    by_cases h1 : i < out.length
    · rw [List.getElem_append_left h1]; exact ih i h1
    · have hi' : i = out.length := by simp at hi; omega
      subst hi'
      rw [List.getElem_append_right (Nat.le_refl _)]
      simpa using h.at
theorem Chain.nodup {f : Int → Int} {e x : Int} {out : List Int} (h : Chain f e out x) : out.Nodup := by
  induction h with
  | start => exact List.nodup_nil
  | step h h0 hn ih =>
    rw [List.nodup_append]
    exact ⟨ih, by simp, fun a ha b hb => by rw [List.mem_singleton] at hb; subst hb; intro e; exact hn (e ▸ ha)⟩
theorem Chain.nonzero {f : Int → Int} {e x : Int} {out : List Int} (h : Chain f e out x) : ∀ y ∈ out, y ≠ 0 := by
  induction h with
  | start => intro y hy; cases hy
  | step h h0 hn ih =>
    intro y hy
    rcases List.mem_append.1 hy with h1 | h1
    · exact ih y h1
    · rw [List.mem_singleton] at h1; subst h1; exact h0
theorem Chain.image {f : Int → Int} {e x : Int} {out : List Int} (h : Chain f e out x) : (∃ y, x = f y) ∧ ∀ y ∈ out, ∃ z, y = f z := by
  induction h with
  | start => exact ⟨⟨e, rfl⟩, fun y hy => by cases hy⟩
  | @step out x h h0 hn ih =>
    refine ⟨⟨x, rfl⟩, fun y hy => ?_⟩
    rcases List.mem_append.1 hy with h1 | h1
    · exact ih.2 y h1
    · rw [List.mem_singleton] at h1; subst h1; exact ih.1
theorem nodup_sub : ∀ (a b : List Int), a.Nodup → (∀ x ∈ a, x ∈ b) → a.length ≤ b.length
  | [], _, _, _ => Nat.zero_le _
  | x :: a, b, hn, hs => by
    have hx := hs x List.mem_cons_self
    have h1 := nodup_sub a (b.erase x) (List.nodup_cons.1 hn).2 (fun y hy => by
      have hne : y ≠ x := fun e => (List.nodup_cons.1 hn).1 (e ▸ hy)
      exact (List.mem_erase_of_ne hne).2 (hs y (List.mem_cons_of_mem _ hy)))
    rw [List.length_erase_of_mem hx] at h1
    have h2 : 0 < b.length := List.length_pos_of_mem hx
    simp only [List.length_cons]
    omega
theorem stkAt_mem {e p : Int} : ∀ (l : List Stk4) (b : Option Stk4) (s : Stk4), l.foldl (stkStep e p) b = some s → s ∈ l ∨ b = some s
  | [], _, _, h => .inr h
  | x :: l, b, s, h => by
    rcases stkAt_mem l (stkStep e p b x) s h with h1 | h1
    · exact .inl (List.mem_cons_of_mem _ h1)
    · unfold stkStep at h1
      split at h1
      · split at h1
        · injection h1 with h1; exact .inl (h1 ▸ List.mem_cons_self)
        · split at h1
          · injection h1 with h1; exact .inl (h1 ▸ List.mem_cons_self)
          · exact .inr h1
      · exact .inr h1
theorem stkUp_mem {l : List Stk4} {e p : Int} (h : stkUp l e p ≠ 0) : stkUp l e p ∈ l.map (·.2.1) := by
  unfold stkUp at h ⊢
  cases ha : stkAt l e p with
  | none => rw [ha] at h; exact absurd rfl h
  | some s =>
    rcases stkAt_mem l none s ha with h1 | h1
    · exact List.mem_map.2 ⟨s, h1, rfl⟩
    · cases h1
/-- Those above an entity are no more than there are stakes. -/
theorem chain_len {l : List Stk4} {e p x : Int} {out : List Int} (h : Chain (fun y => stkUp l y p) e out x) : out.length ≤ l.length := by
  have := nodup_sub out (l.map (·.2.1)) h.nodup (fun y hy => by
    obtain ⟨z, hz⟩ := h.image.2 y hy
    have h0 := h.nonzero y hy
    rw [hz] at h0 ⊢
    exact stkUp_mem h0)
  rwa [List.length_map] at this
theorem stkTurn_hit {l : List Stk4} {p e : Int} : ∀ (n d : Nat) (x : Int), 1 ≤ d → d ≤ n + 1 → (∀ i, 1 ≤ i → i < d → iter (fun y => stkUp l y p) i x ≠ e ∧ iter (fun y => stkUp l y p) i x ≠ 0) → iter (fun y => stkUp l y p) d x = e → stkTurn l p e n x = e
  | n, 1, x, _, _, _, he => by
    have he : stkUp l x p = e := he
    cases n with
    | zero => exact he
    | succ n => unfold stkTurn; rw [if_pos (by simp [he])]; exact he
  | 0, d + 2, _, _, h, _, _ => by omega
  | n + 1, d + 2, x, _, h, hi, he => by
    have h1 := hi 1 (by omega) (by omega)
    have h1 : stkUp l x p ≠ e ∧ stkUp l x p ≠ 0 := h1
    unfold stkTurn
    rw [if_neg (by simpa using h1)]
    exact stkTurn_hit n (d + 1) _ (by omega) (by omega) (fun i h2 h3 => hi (i + 1) (by omega) (by omega)) he
/-- One that does not come back to itself is never above itself. -/
theorem chain_not {l : List Stk4} {e p x : Int} {out : List Int} (h : Chain (fun y => stkUp l y p) e out x) (hr : stkRound l e p = false) : e ∉ out := by
  intro hm
  obtain ⟨i, hi, he⟩ := List.getElem_of_mem hm
  have hl := chain_len h
  have hg := h.get
  have hnd := h.nodup
  have : stkTurn l p e l.length e = e := stkTurn_hit l.length (i + 1) e (by omega) (by omega) (fun k h1 h2 => by
    obtain ⟨m, rfl⟩ : ∃ m, k = m + 1 := ⟨k - 1, by omega⟩
    rw [← hg m (by omega)]
    refine ⟨fun e1 => ?_, h.nonzero _ (List.getElem_mem _)⟩
    have h3 := List.pairwise_iff_getElem.1 hnd m i (by omega) hi (by omega)
    exact h3 (e1.trans he.symm)) (by rw [← hg i hi]; exact he)
  unfold stkRound at hr
  rw [this] at hr
  simp at hr
theorem stkLast_at {l : List Stk4} {n : Int} (h : stakesOK l n = true) {i : Nat} (hi : i < l.length) : stkIn l[i] n = true ∧ ∀ p : Nat, p < 24 → stkRound (l.take (i + 1)) l[i].1 p = false := by
  unfold stakesOK stkAll at h
  rw [Bool.and_eq_true] at h
  have h1 := (List.all_eq_true.1 h.2) i (List.mem_range.2 hi)
  have hg : (l.take (i + 1)).getLast? = some l[i] := by
    rw [List.take_succ_eq_append_getElem hi, List.getLast?_append]; rfl
  unfold stkLast at h1
  rw [hg] at h1
  simp only [Bool.and_eq_true, List.all_eq_true, Bool.not_eq_true'] at h1
  exact ⟨h1.1, fun p hp => h1.2 p (List.mem_range.2 hp)⟩
end Go.Gk

/-
  The document's: who holds an entity, and who stands above it.
-/
namespace Go.Gk
open Go.RowKit
/-- What is known of the best stake so far. -/
def StkIs (o : Option Stk4) (x1 x2 x3 : Int) (f : Bool) : Prop := (o = none ∧ x1 = 0 ∧ x2 = 10000 ∧ x3 = 0 ∧ f = false) ∨ ∃ y, o = some (y, x1, x2, x3) ∧ f = true
theorem StkIs.no {l : List Stk4} {e p : Int} {j : Nat} {x1 x2 x3 : Int} {f : Bool} (h : StkIs (stkAt (l.take j) e p) x1 x2 x3 f) (hj : j < l.length) (hb : ¬ (l[j].1 = e ∧ l[j].2.2.2 ≤ p)) : StkIs (stkAt (l.take (j + 1)) e p) x1 x2 x3 f := by
  rw [stkAt_succ hj]
  have : stkStep e p (stkAt (l.take j) e p) l[j] = stkAt (l.take j) e p := by
    unfold stkStep
    rw [if_neg (by simpa using hb)]
  rwa [this]
theorem StkIs.first {l : List Stk4} {e p : Int} {j : Nat} {x1 x2 x3 : Int} (h : StkIs (stkAt (l.take j) e p) x1 x2 x3 false) (hj : j < l.length) (hb : l[j].1 = e ∧ l[j].2.2.2 ≤ p) : StkIs (stkAt (l.take (j + 1)) e p) l[j].2.1 l[j].2.2.1 l[j].2.2.2 true := by
  rw [stkAt_succ hj]
  rcases h with ⟨h0, _⟩ | ⟨y, _, h0⟩
  · rw [h0]
    unfold stkStep
    rw [if_pos (by simpa using hb)]
    exact .inr ⟨l[j].1, rfl, rfl⟩
  · cases h0
theorem StkIs.later {l : List Stk4} {e p : Int} {j : Nat} {x1 x2 x3 : Int} (h : StkIs (stkAt (l.take j) e p) x1 x2 x3 true) (hj : j < l.length) (hb : l[j].1 = e ∧ l[j].2.2.2 ≤ p) (hf : x3 ≤ l[j].2.2.2) : StkIs (stkAt (l.take (j + 1)) e p) l[j].2.1 l[j].2.2.1 l[j].2.2.2 true := by
  rw [stkAt_succ hj]
  rcases h with ⟨_, _, _, _, h0⟩ | ⟨y, h0, _⟩
  · cases h0
  · rw [h0]
    unfold stkStep
    rw [if_pos (by simpa using hb)]
    simp only
    rw [if_pos hf]
    exact .inr ⟨l[j].1, rfl, rfl⟩
theorem StkIs.old {l : List Stk4} {e p : Int} {j : Nat} {x1 x2 x3 : Int} (h : StkIs (stkAt (l.take j) e p) x1 x2 x3 true) (hj : j < l.length) (hb : l[j].1 = e ∧ l[j].2.2.2 ≤ p) (hf : ¬ x3 ≤ l[j].2.2.2) : StkIs (stkAt (l.take (j + 1)) e p) x1 x2 x3 true := by
  rw [stkAt_succ hj]
  rcases h with ⟨_, _, _, _, h0⟩ | ⟨y, h0, _⟩
  · cases h0
  · rw [h0]
    unfold stkStep
    rw [if_pos (by simpa using hb)]
    simp only
    rw [if_neg hf]
    exact .inr ⟨y, rfl, rfl⟩
theorem StkIs.up {l : List Stk4} {e p : Int} {x1 x2 x3 : Int} {f : Bool} (h : StkIs (stkAt l e p) x1 x2 x3 f) : stkUp l e p = x1 ∧ stkShare l e p = x2 := by
  unfold stkUp stkShare
  rcases h with ⟨h0, rfl, rfl, _⟩ | ⟨y, h0, _⟩
  · rw [h0]; exact ⟨rfl, rfl⟩
  · rw [h0]; exact ⟨rfl, rfl⟩
def lenOf : Value → Nat
  | .slice _ n _ => n
  | _ => 0
end Go.Gk
namespace Go.Proofs.YtdangnmeligfjaaGreatDoor
open Go.RowKit Go.Gk

set_option maxRecDepth 100000 in
set_option maxHeartbeats 800000 in
theorem refhas_any {w : World} {v : Value} {l : List Int} (hl : RowsOf int1 1 (fun _ => True) w v l) (x : Int) :
    Calls Tryz.prog 166 #[v, .int .i64 x] w fun e w' => e = .returned (.bool (decide (x ∈ l))) ∧ w = w' := by
  obtain ⟨A, c, rfl, hc1, hc2⟩ := hl.form
  have hmax : l.length ≤ maxLen := Nat.le_trans hc1 hc2
  unfold maxLen at hmax
  obtain ⟨R, hR⟩ : ∃ R, decide (x ∈ l) = R := ⟨_, rfl⟩
  rw [hR]
  have HR := Lib.hid hR
  clear hR
  go_enter Tryz.func166, Tryz.ntmps166
  go_wp2_with fail
  go_loopw [5] (fun i wr => ∃ j : Nat, j ≤ l.length ∧ i = .int .i64 j ∧ x ∉ l.take j ∧ w = wr) (fun i _ => l.length - (intOf i).toNat)
  case atStart => exact ⟨0, Nat.zero_le _, rfl, by simp, rfl⟩
  case round =>
    obtain ⟨j, hj, rfl, hn, rfl⟩ := hrel
    have HN := Lib.hid hn
    clear hn
    by_cases hlt : j < l.length
    · have hlt' : (j : Int) < (l.length : Int) := by omega
      have hj0 : (0 : Int) ≤ (j : Int) := Int.natCast_nonneg _
      obtain ⟨g, o, rfl⟩ := hl.head (by omega)
      have q0 := Row.one hl int1_len hlt rfl
      have HS := Lib.hid (show x ∈ l.take (j + 1) ↔ x = l[j] by
        rw [List.take_succ_eq_append_getElem hlt, List.mem_append, List.mem_singleton]
        exact ⟨fun h => h.resolve_left HN.out, .inr⟩)
      have HY := Lib.hid (show l[j] ∈ l from List.getElem_mem _)
      generalize l[j] = y at *
      by_cases he : y = x
      · subst he
        obtain rfl : R = true := by rw [← HR.out, decide_eq_true HY.out]
        clear HR
        go_wp2
        go_ret
        exact ⟨rfl, rfl⟩
      · go_wp2
        go_roundw
        case rel => exact ⟨j + 1, by omega, by go_num, fun h => he (HS.out.1 h).symm, trivial⟩
        case measure => simp [intOf]; omega
    · obtain rfl : l.length = j := by omega
      rw [List.take_length] at HN
      obtain rfl : R = false := by rw [← HR.out, decide_eq_false HN.out]
      clear HR
      go_wp2
      go_ret
      exact ⟨rfl, rfl⟩

set_option maxRecDepth 100000 in
set_option maxHeartbeats 1600000 in
theorem refstkat_any {w : World} {v : Value} {l : List Stk4} (hl : RowsOf int4 4 (fun _ => True) w v l) (hn : l.length ≤ 100000) (e p : Int) :
    Calls Tryz.prog 231 #[v, .int .i64 e, .int .i64 p] w fun x w' => x = .returned (.tuple #[.int .i64 (stkUp l e p), .int .i64 (stkShare l e p)]) ∧ Tch (fun _ => False) w w' := by
  obtain ⟨A, c, rfl, hc1, hc2⟩ := hl.form
  obtain ⟨U, hU⟩ : ∃ U, stkUp l e p = U := ⟨_, rfl⟩
  obtain ⟨V, hV⟩ : ∃ V, stkShare l e p = V := ⟨_, rfl⟩
  rw [hU, hV]
  have HU := Lib.hid hU
  have HV := Lib.hid hV
  clear hU hV
  go_enter Tryz.func231, Tryz.ntmps231
  go_wp2_with fail
  go_loopw [8, 9, 10, 11, 12] (fun v1 v2 v3 v4 i wr => ∃ (j : Nat) (x1 x2 x3 : Int) (f : Bool), j ≤ l.length ∧ i = .int .i64 j ∧ v1 = .int .i64 x1 ∧ v2 = .int .i64 x2 ∧ v3 = .int .i64 x3 ∧ v4 = .bool f ∧ StkIs (stkAt (l.take j) e p) x1 x2 x3 f ∧ Tch (fun _ => False) w wr) (fun _ _ _ _ i _ => l.length - (intOf i).toNat)
  case atStart => exact ⟨0, 0, 10000, 0, false, Nat.zero_le _, rfl, rfl, rfl, rfl, rfl, .inl ⟨rfl, rfl, rfl, rfl, rfl⟩, Tch.refl _ _⟩
  case round =>
    obtain ⟨j, x1, x2, x3, f, hj, rfl, rfl, rfl, rfl, rfl, hs, ht⟩ := hrel
    have HS := Lib.hid hs
    clear hs
    by_cases hlt : j < l.length
    · have hlt' : (j : Int) < (l.length : Int) := by omega
      have hj0 : (0 : Int) ≤ (j : Int) := Int.natCast_nonneg _
      obtain ⟨g, o, rfl⟩ := hl.head (by omega)
      obtain ⟨q0, q1, q2, q3⟩ := Row.four (hl.keep ht) int4_len hlt rfl
      have HNO := Lib.hid (fun h => HS.out.no hlt h)
      have HFI := Lib.hid (fun (h : StkIs (stkAt (l.take j) e p) x1 x2 x3 false) hb => h.first hlt hb)
      have HLA := Lib.hid (fun (h : StkIs (stkAt (l.take j) e p) x1 x2 x3 true) hb hf => h.later hlt hb hf)
      have HOL := Lib.hid (fun (h : StkIs (stkAt (l.take j) e p) x1 x2 x3 true) hb hf => h.old hlt hb hf)
      generalize l[j] = s at *
      obtain ⟨a, b, c', d⟩ := s
      simp only at q0 q1 q2 q3 HNO HFI HLA HOL
      have tb := ht.trans (Tch.alloc (fun _ => False) wr (.cells #[.int .i64 a, .int .i64 b, .int .i64 c', .int .i64 d] 118))
      have hbs := Blk.new wr 118 #[.int .i64 a, .int .i64 b, .int .i64 c', .int .i64 d]
      by_cases h1 : a = e
      rotate_left
      · have HX := Lib.hid (HNO.out (fun h => h1 h.1))
        clear HNO HFI HLA HOL HS
        go_wp2
        go_roundw
        case rel => exact ⟨j + 1, x1, x2, x3, f, by omega, by go_num, rfl, rfl, rfl, rfl, HX.out, tb⟩
        case measure => simp [intOf]; omega
      by_cases h2 : d ≤ p
      rotate_left
      · have HX := Lib.hid (HNO.out (fun h => h2 h.2))
        clear HNO HFI HLA HOL HS
        subst h1
        go_wp2
        go_roundw
        case rel => exact ⟨j + 1, x1, x2, x3, f, by omega, by go_num, rfl, rfl, rfl, rfl, HX.out, tb⟩
        case measure => simp [intOf]; omega
      cases f
      · have HX := Lib.hid (HFI.out HS.out ⟨h1, h2⟩)
        clear HNO HFI HLA HOL HS
        subst h1
        go_wp2_with fail
        generalize wr.alloc (.cells #[.int .i64 a, .int .i64 b, .int .i64 c', .int .i64 d] 118) = W2 at *
        generalize wr.heap.size = N at *
        have y1 := within_cell (F := fun _ => False) (show W2.cell? ⟨N, 1, none⟩ = some (.int .i64 b) from hbs.cell 1) id
        have y2 := within_cell (F := fun _ => False) (show W2.cell? ⟨N, 2, none⟩ = some (.int .i64 c') from hbs.cell 2) id
        have y3 := within_cell (F := fun _ => False) (show W2.cell? ⟨N, 3, none⟩ = some (.int .i64 d) from hbs.cell 3) id
        refine wp_region_touch (fun _ => False) [] 8 [] [] (by kernel_rfl) rfl (by kernel_rfl) rfl (fun d _ _ _ _ h => by cases d <;> exact h) ?_ ?_
        · exact trivial
        (intro bef ops hbef hops; clear hbef; subst hops; simp only [List.take_succ_cons, List.take_zero, List.drop_succ_cons, List.drop_zero])
        iterate 8 (refine t_det (by rfl) (by rfl) (by rfl) (by rfl) (fun K hK => ?_); go_big_quiet_op; (first | refine hK _ ?_ | refine ⟨_, fun _ => rfl, hK _ ?_⟩); clear hK K; (try simp only [Act.put, List.setIfInBounds_toArray, List.set_cons_succ, List.set_cons_zero]))
        refine t_nil ?_
        intro w1 hr hp1 hap
        have tb := tb.trans ((Tch.drew _ W2).trans hr)
        clear hap hp1 y1 y2 y3 hr hbs q0 q1 q2 q3
        go_wp2
        go_roundw
        case rel => exact ⟨j + 1, b, c', d, true, by omega, by go_num, rfl, rfl, rfl, rfl, HX.out, tb⟩
        case measure => simp [intOf]; omega
      · by_cases h3 : x3 ≤ d
        · have HX := Lib.hid (HLA.out HS.out ⟨h1, h2⟩ h3)
          clear HNO HFI HLA HOL HS
          subst h1
          go_wp2_with fail
          generalize wr.alloc (.cells #[.int .i64 a, .int .i64 b, .int .i64 c', .int .i64 d] 118) = W2 at *
          generalize wr.heap.size = N at *
          have y1 := within_cell (F := fun _ => False) (show W2.cell? ⟨N, 1, none⟩ = some (.int .i64 b) from hbs.cell 1) id
          have y2 := within_cell (F := fun _ => False) (show W2.cell? ⟨N, 2, none⟩ = some (.int .i64 c') from hbs.cell 2) id
          have y3 := within_cell (F := fun _ => False) (show W2.cell? ⟨N, 3, none⟩ = some (.int .i64 d) from hbs.cell 3) id
          refine wp_region_touch (fun _ => False) [] 8 [] [] (by kernel_rfl) rfl (by kernel_rfl) rfl (fun d _ _ _ _ h => by cases d <;> exact h) ?_ ?_
          · exact trivial
          (intro bef ops hbef hops; clear hbef; subst hops; simp only [List.take_succ_cons, List.take_zero, List.drop_succ_cons, List.drop_zero])
          iterate 8 (refine t_det (by rfl) (by rfl) (by rfl) (by rfl) (fun K hK => ?_); go_big_quiet_op; (first | refine hK _ ?_ | refine ⟨_, fun _ => rfl, hK _ ?_⟩); clear hK K; (try simp only [Act.put, List.setIfInBounds_toArray, List.set_cons_succ, List.set_cons_zero]))
          refine t_nil ?_
          intro w1 hr hp1 hap
          have tb := tb.trans ((Tch.drew _ W2).trans hr)
          clear hap hp1 y1 y2 y3 hr hbs q0 q1 q2 q3
          go_wp2
          go_roundw
          case rel => exact ⟨j + 1, b, c', d, true, by omega, by go_num, rfl, rfl, rfl, rfl, HX.out, tb⟩
          case measure => simp [intOf]; omega
        · have HX := Lib.hid (HOL.out HS.out ⟨h1, h2⟩ h3)
          clear HNO HFI HLA HOL HS
          subst h1
          go_wp2
          go_roundw
          case rel => exact ⟨j + 1, x1, x2, x3, true, by omega, by go_num, rfl, rfl, rfl, rfl, HX.out, tb⟩
          case measure => simp [intOf]; omega
    · obtain rfl : l.length = j := by omega
      rw [List.take_length] at HS
      obtain ⟨e1, e2⟩ := HS.out.up
      obtain rfl : U = x1 := HU.out.symm.trans e1
      obtain rfl : V = x2 := HV.out.symm.trans e2
      clear e1 e2 HU HV HS
      go_wp2
      go_ret2
      exact ⟨rfl, ht⟩

set_option maxRecDepth 100000 in
set_option maxHeartbeats 1600000 in
theorem refabove_end {w : World} {v : Value} {l : List Stk4} (hl : RowsOf int4 4 (fun _ => True) w v l) (hn : l.length ≤ 100000) (e p : Int) :
    Calls Tryz.prog 219 #[v, .int .i64 e, .int .i64 p] w fun x w' => ∃ u xs y, x = .returned u ∧ OutI w w' u xs ∧ Chain (fun y => stkUp l y p) e xs y ∧ (y = 0 ∨ y ∈ xs) := by
  have HA := Lib.hid (fun x w' (t : Tch (fun _ => False) w w') => refstkat_any (hl.keep t) hn x p)
  obtain ⟨A, c, rfl, hc1, hc2⟩ := hl.form
  have HL := Lib.hid (fun (xs : List Int) (x : Int) (h : Chain (fun y => stkUp l y p) e xs x) => chain_len h)
  have HC0 := Lib.hid (show Chain (fun y => stkUp l y p) e [] (stkUp l e p) from .start)
  have HCN := Lib.hid (fun (xs : List Int) (x : Int) (h : Chain (fun y => stkUp l y p) e xs x) (h0 : x ≠ 0) (h1 : x ∉ xs) => show Chain (fun y => stkUp l y p) e (xs ++ [x]) (stkUp l x p) from .step h h0 h1)
  obtain ⟨C, hC⟩ : ∃ C : List Int → Int → Prop, (fun xs y => Chain (fun y => stkUp l y p) e xs y) = C := ⟨_, rfl⟩
  have HCE := Lib.hid (fun xs y => show C xs y = Chain (fun y => stkUp l y p) e xs y by rw [← hC])
  simp only [← HCE.out] at HL HC0 HCN ⊢
  clear hC hl
  go_enter Tryz.func219, Tryz.ntmps219
  go_wp2_with fail
  refine (HA.out e w (Tch.refl _ _)).mono ?_
  rintro _ w1 ⟨rfl, t1⟩
  go_wp2_with fail
  go_loopw [7, 8] (fun out i wr => ∃ (xs : List Int) (x : Int), i = .int .i64 x ∧ C xs x ∧ OutI w wr out xs) (fun out _ _ => l.length + 1 - lenOf out)
  case atStart => exact ⟨[], _, rfl, HC0.out, Outs.start _ _ _ t1⟩
  case round =>
    obtain ⟨xs, x, rfl, hc, hO⟩ := hrel
    obtain ⟨O, co, rfl, ho1, ho2⟩ := hO.form
    have hxl := HL.out xs x hc
    have HC := Lib.hid hc
    clear hc
    by_cases h0 : x = 0
    · subst h0
      go_wp2
      go_ret
      exact ⟨_, xs, 0, rfl, hO, HC.out, .inl rfl⟩
    · have h0' : (x != 0) = true := by simpa using h0
      have HH := Lib.hid (refhas_any hO.row x)
      obtain ⟨d, hd⟩ : ∃ d, decide (x ∈ xs) = d := ⟨_, rfl⟩
      rw [hd] at HH
      go_wp2_with fail
      refine HH.out.mono ?_
      rintro _ _ ⟨rfl, rfl⟩
      clear HH
      cases d
      · have hni : x ∉ xs := by simpa using hd
        have HC2 := Lib.hid (HCN.out xs x HC.out h0 hni)
        clear hd hni
        go_wp2_with ((at_builtin; refine wpList_append _ rfl _ _ 22 rfl rowInts (own_base (hO.own.alloc _)) (by rfl) (Go.Gk.Src.one (news := [.int .i64 (x)]) rfl (fun m9 u9 hu9 => by rw [(Blk.new (wr) 3 #[.int .i64 (x)]).cell m9]; simpa using hu9)) (by rfl) (by simp; rfl) (by unfold maxLen; omega) (by omega) ?_; intro v2 w2 ho2 hg2 hl2; have hO2 := hO.step (x := x) (Tch.alloc _ _ _) ho2 hg2 hl2; obtain ⟨O2, co2, rfl, _, _⟩ := own_form ho2))
        refine (HA.out x w2 hO2.tch).mono ?_
        rintro _ w3 ⟨rfl, t3⟩
        have hO3 := hO2.keep t3
        go_wp2_with fail
        go_roundw
        case rel => exact ⟨xs ++ [x], _, rfl, HC2.out, hO3⟩
        case measure => simp [lenOf]; omega
      · have HIN := Lib.hid (show x ∈ xs by simpa using hd)
        clear hd
        go_wp2
        go_ret
        exact ⟨_, xs, x, rfl, hO, HC.out, .inr HIN.out⟩
theorem refabove_any {w : World} {v : Value} {l : List Stk4} (hl : RowsOf int4 4 (fun _ => True) w v l) (hn : l.length ≤ 100000) (e p : Int) :
    Calls Tryz.prog 219 #[v, .int .i64 e, .int .i64 p] w fun x w' => ∃ u xs y, x = .returned u ∧ OutI w w' u xs ∧ Chain (fun y => stkUp l y p) e xs y :=
  (refabove_end hl hn e p).mono fun _ _ ⟨u, xs, y, h1, h2, h3, _⟩ => ⟨u, xs, y, h1, h2, h3⟩
end Go.Proofs.YtdangnmeligfjaaGreatDoor

/-
  The document's: stakes that may be; forests.
-/
namespace Go.Gk
open Go.RowKit
theorem stkIn_bd {a b c d n : Int} (h : stkIn (a, b, c, d) n = true) : 1 ≤ a ∧ a ≤ n ∧ 0 ≤ b ∧ b ≤ n ∧ 0 ≤ c ∧ c ≤ 10000 ∧ (b = 0 → c = 10000) ∧ 0 ≤ d ∧ d < 24 := by
  unfold stkIn at h
  simp only [Bool.and_eq_true, decide_eq_true_eq] at h
  obtain ⟨⟨⟨⟨⟨h1, h2⟩, h3⟩, h4⟩, ⟨⟨h5, h6⟩, h7⟩⟩, h8, h9⟩ := h
  refine ⟨h1, h2, h3, h4, h5, h6, fun hb => ?_, h8, h9⟩
  subst hb
  simpa using h7
end Go.Gk
namespace Go.Proofs.YtdangnmeligfjaaGreatDoor
open Go.RowKit Go.Gk

set_option maxRecDepth 100000 in
set_option maxHeartbeats 3200000 in
theorem reflast_any {w : World} {v : Value} {l : List Stk4} (hl : RowsOf int4 4 (fun _ => True) w v l) (hn : l.length ≤ 100000) {m : Nat} (hm : l.length = m + 1) (hlt : m < l.length) (n : Int) (hin : stkIn l[m] n = true) (hr : ∀ p : Nat, p < 24 → stkRound l l[m].1 p = false) :
    Calls Tryz.prog 218 #[v, .int .i64 n] w fun x w' => x = .returned (.int .i64 0) ∧ Tch (fun _ => False) w w' := by
  have HA := Lib.hid (fun e p w' (t : Tch (fun _ => False) w w') => refabove_any (hl.keep t) hn e p)
  obtain ⟨A, c, rfl, hc1, hc2⟩ := hl.form
  obtain ⟨g, o, rfl⟩ := hl.head (by omega)
  obtain ⟨q0, q1, q2, q3⟩ := Row.four hl int4_len hlt rfl
  have HNO := Lib.hid (fun (p : Nat) (hp : p < 24) (xs : List Int) (y : Int) (h : Chain (fun y => stkUp l y p) l[m].1 xs y) => chain_not h (hr p hp))
  generalize l[m] = s at *
  obtain ⟨a, b, c', d⟩ := s
  simp only at q0 q1 q2 q3 HNO
  obtain ⟨h1, h2, h3, h4, h5, h6, h7, h8, h9⟩ := stkIn_bd hin
  rw [hm] at hc1 ⊢
  have hm0 : (0 : Int) ≤ (m : Int) := Int.natCast_nonneg _
  have hm9 : (m : Int) ≤ 100000 := by omega
  have hbs := Blk.new w 118 #[.int .i64 a, .int .i64 b, .int .i64 c', .int .i64 d]
  have tw := Tch.alloc (fun _ => False) w (.cells #[.int .i64 a, .int .i64 b, .int .i64 c', .int .i64 d] 118)
  obtain ⟨W, hW⟩ : ∃ W, W = w.alloc (.cells #[.int .i64 a, .int .i64 b, .int .i64 c', .int .i64 d] 118) := ⟨_, rfl⟩
  rw [← hW] at hbs tw
  have HW := Lib.hid hW
  have H7 := Lib.hid h7
  rw [hm] at HA
  clear hW hin hr hl h7 hm hlt hn
  have hbb : (b = 0 ∧ c' = 10000) ∨ (b == 0) = false := by
    by_cases hb : b = 0
    · exact .inl ⟨hb, H7.out hb⟩
    · exact .inr (by simpa using hb)
  rcases hbb with ⟨rfl, rfl⟩ | hb0
  all_goals
    go_enter Tryz.func218, Tryz.ntmps218
    go_wp2_with fail
    rw [← HW.out]
    generalize w.heap.size = z at *
    go_loopw [6] (fun i wr => ∃ j : Nat, j ≤ 24 ∧ i = .int .i64 j ∧ Tch (fun _ => False) W wr) (fun i _ => 24 - (intOf i).toNat)
    case atStart => exact ⟨0, by omega, rfl, Tch.refl _ _⟩
    case round =>
      obtain ⟨j, hj, rfl, ht⟩ := hrel
      clear q0 q1 q2 q3
      by_cases hlt : j < 24
      · have hlt' : (j : Int) < 24 := by omega
        have hj0 : (0 : Int) ≤ (j : Int) := Int.natCast_nonneg _
        have y0 := within_cell (F := fun _ => False) (show wr.cell? ⟨z, 0, none⟩ = some (.int .i64 a) from (hbs.keep ht id).cell 0) id
        have HX := Lib.hid (fun w' (t : Tch (fun _ => False) wr w') => HA.out a (j : Int) w' ((tw.trans ht).trans t))
        have HN := Lib.hid (HNO.out j hlt)
        obtain ⟨V, hV⟩ : ∃ V : Value → World → Prop, V = fun u w' => ∃ xs, RowsOf int1 1 (fun _ => True) w' u xs ∧ a ∉ xs := ⟨_, rfl⟩
        have HV := Lib.hid hV
        clear hV
        go_wp2_with fail
        refine wp_region_touch (fun _ => False) [] 7 [(4, .inr V)] [] (by kernel_rfl) rfl (by kernel_rfl) rfl (fun d _ _ _ _ h => by cases d <;> exact h) ?_ ?_
        · rw [HV.out]
          exact ⟨fun u a b hr ⟨xs, h, hx⟩ => ⟨xs, h.keep hr, hx⟩, trivial⟩
        (intro bef ops hbef hops; clear hbef; subst hops; simp only [List.take_succ_cons, List.take_zero, List.drop_succ_cons, List.drop_zero])
        iterate 4 (refine t_det (by rfl) (by rfl) (by rfl) (by rfl) (fun K hK => ?_); go_big_quiet_op; (first | refine hK _ ?_ | refine ⟨_, fun _ => rfl, hK _ ?_⟩); clear hK K; (try simp only [Act.put, List.setIfInBounds_toArray, List.set_cons_succ, List.set_cons_zero]))
        refine t_loose (by rfl) (by rfl) (fun w1 hr hf => ?_) (fun u => ?_)
        · refine yields_of_wp (d := 67) rfl (by simp) (fun K hK => ?_)
          go_step
          refine (HX.out w1 ((Tch.drew _ wr).trans hr)).mono ?_
          rintro _ w2 ⟨u, xs, y, rfl, hO, hC⟩
          refine hK _ _ ⟨⟨?_, hO.tch⟩, newAt_no⟩
          rw [HV.out]
          exact ⟨xs, hO.row, HN.out xs y hC⟩
        simp only [Act.put, List.setIfInBounds_toArray, List.set_cons_succ, List.set_cons_zero]
        iterate 2 (refine t_det (by rfl) (by rfl) (by rfl) (by rfl) (fun K hK => ?_); go_big_quiet_op; (first | refine hK _ ?_ | refine ⟨_, fun _ => rfl, hK _ ?_⟩); clear hK K; (try simp only [Act.put, List.setIfInBounds_toArray, List.set_cons_succ, List.set_cons_zero]))
        refine t_nil ?_
        intro w1 hr hp9 hap
        have hv := hp9 _ (List.mem_singleton.2 rfl)
        dsimp only at hv
        rw [HV.out] at hv
        obtain ⟨xs, hx, hni⟩ := hv
        have HH := Lib.hid (refhas_any hx a)
        rw [decide_eq_false hni] at HH
        have t1 := ht.trans ((Tch.drew _ wr).trans hr)
        obtain ⟨Ax, cx, rfl, _, _⟩ := hx.form
        clear hap hp9 hr y0 HX HN HV hni hx
        go_wp2_with fail
        refine HH.out.mono ?_
        rintro _ _ ⟨rfl, rfl⟩
        clear HH
        go_wp2
        go_roundw
        case rel => exact ⟨j + 1, by omega, by go_num, t1⟩
        case measure => simp [intOf]; omega
      · obtain rfl : j = 24 := by omega
        go_wp2
        go_ret
        exact ⟨rfl, tw.trans ht⟩

set_option maxRecDepth 100000 in
set_option maxHeartbeats 1600000 in
theorem refcheck18_any {w : World} {v : Value} {l : List Stk4} (hl : RowsOf int4 4 (fun _ => True) w v l) (hn : l.length ≤ 400) (n : Int) (hok : stakesOK l n = true) :
    Calls Tryz.prog 193 #[v, .int .i64 n] w fun x w' => x = .returned (.tuple #[.int .i64 l.length, .int .i64 0]) ∧ Tch (fun _ => False) w w' := by
  obtain ⟨A, c, rfl, hc1, hc2⟩ := hl.form
  have hn' : (l.length : Int) ≤ 400 := by omega
  have HOK := Lib.hid (fun i (hi : i < l.length) => stkLast_at hok hi)
  clear hok
  go_enter Tryz.func193, Tryz.ntmps193
  go_wp2_with fail
  go_loopw [6] (fun i wr => ∃ j : Nat, j ≤ l.length ∧ i = .int .i64 j ∧ Tch (fun _ => False) w wr) (fun i _ => l.length - (intOf i).toNat)
  case atStart => exact ⟨0, by omega, rfl, Tch.refl _ _⟩
  case round =>
    obtain ⟨j, hj, rfl, ht⟩ := hrel
    by_cases hlt : j < l.length
    · have hlt' : (j : Int) < (l.length : Int) := by omega
      have hj0 : (0 : Int) ≤ (j : Int) := Int.natCast_nonneg _
      have hjc : ((j + 1 : Nat) : Int) ≤ (c : Int) := by omega
      have hk := HOK.out j hlt
      have hlen : (l.take (j + 1)).length = j + 1 := by rw [List.length_take]; omega
      have hge : (l.take (j + 1))[j]'(by omega) = l[j] := by simp
      have HC := reflast_any (Row.takes' int4_len (hl.keep ht) (show j + 1 ≤ l.length by omega)) (by omega) hlen (by omega) n (by rw [hge]; exact hk.1) (by rw [hge]; exact hk.2)
      clear hk hge hlen
      go_wp2_with fail
      refine HC.mono ?_
      rintro _ w1 ⟨rfl, t1⟩
      clear HC
      go_wp2
      go_roundw
      case rel => exact ⟨j + 1, by omega, by go_num, ht.trans t1⟩
      case measure => simp [intOf]; omega
    · obtain rfl : l.length = j := by omega
      go_wp2
      go_ret2
      exact ⟨rfl, ht⟩

set_option maxRecDepth 100000 in
set_option maxHeartbeats 1600000 in
theorem refforest19_any {w : World} {v : Value} {l : List Stk4} (hl : RowsOf int4 4 (fun _ => True) w v l) (hn : l.length ≤ 400) (n : Nat) (h40 : n ≤ 40) (hok : stakesOK l n = true) (p : Int) (hp0 : 0 ≤ p) (hp1 : p ≤ 23) :
    Calls Tryz.prog 164 #[v, .int .i64 n, .int .i64 p] w fun x w' => x = .returned (.tuple #[.agg #[v, .int .i64 n, .int .i64 p], .int .i64 0]) ∧ Tch (fun _ => False) w w' := by
  have tw := Tch.alloc (fun _ => False) w (.cells #[.slice none 0 0, .int .i64 0, .int .i64 0] 199)
  have bF := Blk.new w 199 #[.slice none 0 0, .int .i64 0, .int .i64 0]
  have HC := Lib.hid (refcheck18_any (hl.keep tw) hn n hok)
  obtain ⟨A, c, rfl, hc1, hc2⟩ := hl.form
  have hn0 : (0 : Int) ≤ (n : Int) := Int.natCast_nonneg _
  have hn1 : (n : Int) ≤ 40 := by omega
  have hsz : (w.alloc (.cells #[.slice none 0 0, .int .i64 0, .int .i64 0] 199)).heap.size = w.heap.size + 1 := by simp
  clear hl hok
  go_enter Tryz.func164, Tryz.ntmps164
  go_wp2_with fail
  generalize w.alloc _ = W at *
  generalize hzw : w.heap.size = z at *
  have HZW := Lib.hid hzw
  clear hzw
  refine HC.out.mono ?_
  rintro _ w1 ⟨rfl, t1⟩
  clear HC
  have b1 := bF.keep t1 id
  have tt := tw.trans t1
  clear bF tw
  go_wp2_with (refine wpList_store_blk rfl _ _ _ rfl z #[.slice A l.length c, .int .i64 n, .int .i64 p] (by rfl) (by rfl) b1 (by kernel_rfl) rfl (by simp [Value.oneCell']) ?_; refine Hid.out ?_)
  refine Lib.hid ?_
  intro w9 hF tF
  have HBF := Lib.hid hF
  have HTF := Lib.hid tF
  clear hF tF b1
  go_wp2
  (try simp only [Exit.inBlock, Exit.then])
  (try rw [Exit.noGoto_ret])
  refine bodyPost_ret (results_row_tmp (P := Tryz.prog) rfl _ _ z 199 _ (0, 0) _ rfl HBF.out Tryz.underlying199 rfl (by kernel_rfl)) rfl ?_
  exact ⟨rfl, tt.trans' (F' := fun g => g = z) HTF.out (fun i hi => .inr (by have hi : i = z := hi; have := HZW.out; omega))⟩

set_option maxRecDepth 100000 in
set_option maxHeartbeats 800000 in
theorem refis19_any (v : Value) (n p x : Int) (w : World) :
    Calls Tryz.prog 194 #[.agg #[v, .int .i64 n, .int .i64 p], .int .i64 x] w fun e w' => e = .returned (.bool (decide (1 ≤ x ∧ x ≤ n))) ∧ Tch (fun _ => False) w w' := by
  have tw := Tch.alloc (fun _ => False) w (.cells #[v, .int .i64 n, .int .i64 p] 199)
  by_cases h1 : 1 ≤ x
  · by_cases h2 : x ≤ n
    · rw [decide_eq_true ⟨h1, h2⟩]
      go_enter Tryz.func194, Tryz.ntmps194
      go_wp2
      go_ret
      exact ⟨rfl, tw⟩
    · rw [decide_eq_false (fun h => h2 h.2)]
      go_enter Tryz.func194, Tryz.ntmps194
      go_wp2
      go_ret
      exact ⟨rfl, tw⟩
  · rw [decide_eq_false (fun h => h1 h.1)]
    go_enter Tryz.func194, Tryz.ntmps194
    go_wp2
    go_ret
    exact ⟨rfl, tw⟩

set_option maxRecDepth 100000 in
set_option maxHeartbeats 1600000 in
theorem refforest30_any {w : World} {e a s r l n : Value} {b : Bks} {us : List (Ent × Value)} (h : BksAt w e a s r l n b us) (h40 : b.ents.length ≤ 40) (h400 : b.stakes.length ≤ 400) (hok : stakesOK b.stakes b.ents.length = true) (p : Int) (hp0 : 0 ≤ p) (hp1 : p ≤ 23) :
    Calls Tryz.prog 126 #[.agg #[e, a, s, r, l, n], .int .i64 p] w fun x w' => x = .returned (.agg #[s, .int .i64 b.ents.length, .int .i64 p]) ∧ Tch (fun _ => False) w w' := by
  have ta := Tch.alloc (fun _ => False) w (.cells #[e, a, s, r, l, n] 29)
  have tb := Tch.alloc (fun _ => False) (w.alloc (.cells #[e, a, s, r, l, n] 29)) (.cells #[.slice none 0 0, .int .i64 0, .int .i64 0] 199)
  have tw := ta.trans tb
  have hbF := Blk.new2 w (.cells #[e, a, s, r, l, n] 29) 199 #[.slice none 0 0, .int .i64 0, .int .i64 0]
  have HC := Lib.hid (refforest19_any (h.keep tw).stakes h400 b.ents.length h40 hok p hp0 hp1)
  have hsz : ((w.alloc (.cells #[e, a, s, r, l, n] 29)).alloc (.cells #[.slice none 0 0, .int .i64 0, .int .i64 0] 199)).heap.size = w.heap.size + 2 := by simp
  obtain ⟨Ae, ce, rfl, _, _⟩ := h.ents.form
  obtain ⟨Aa, ca, rfl, _, _⟩ := h.accs.form
  obtain ⟨As, cs, rfl, _, _⟩ := h.stakes.form
  obtain ⟨Ar, cr, rfl, _, _⟩ := h.rates.form
  obtain ⟨Al, cl, rfl, _, _⟩ := h.locks.form
  obtain ⟨An, cn, rfl, _, _⟩ := h.ent.row.form
  clear ta tb h hok
  go_enter Tryz.func126, Tryz.ntmps126
  go_wp2_with fail
  generalize (w.alloc _).alloc _ = W at *
  generalize hzw : w.heap.size = z at *
  have HZW := Lib.hid hzw
  clear hzw
  refine HC.out.mono ?_
  rintro _ w1 ⟨rfl, t1⟩
  clear HC
  have tc := Tch.alloc (fun _ => False) w1 (.cells #[.slice As b.stakes.length cs, .int .i64 b.ents.length, .int .i64 p] 199)
  have b1 := (hbF.keep t1 id).keep tc id
  have tt := (tw.trans t1).trans tc
  clear hbF tw tc
  go_wp2_with (refine wpList_store_blk rfl _ _ _ rfl (z + 1) #[.slice As b.stakes.length cs, .int .i64 b.ents.length, .int .i64 p] (by rfl) (by rfl) b1 (by kernel_rfl) rfl (by simp [Value.oneCell']) ?_; refine Hid.out ?_)
  refine Lib.hid ?_
  intro w9 hF tF
  have HBF := Lib.hid hF
  have HTF := Lib.hid tF
  clear hF tF b1
  go_wp2
  refine bodyPost_ret (results_cell_row (P := Tryz.prog) rfl _ _ (z + 1) 199 _ (0, 0) _ rfl HBF.out Tryz.underlying199 rfl (by kernel_rfl)) rfl ?_
  exact ⟨rfl, tt.trans' (F' := fun g => g = z + 1) HTF.out (fun i hi => .inr (by have hi : i = z + 1 := hi; have := HZW.out; omega))⟩
end Go.Proofs.YtdangnmeligfjaaGreatDoor
