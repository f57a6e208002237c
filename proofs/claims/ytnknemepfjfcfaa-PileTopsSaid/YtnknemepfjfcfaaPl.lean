/-
  A pile beside the document's list: its calls.
-/
import Derived.Test.YtnknemepfjfcfaaPz
namespace Go.Proofs.Ytnknemepfjfcfaa
open Go.RowKit Go.Gk

/-- A pile in block b, all of whose blocks are in F; the document's list of it. -/
def PileX (w : World) (F : Nat → Prop) (b : Nat) (x : KV) (n : Nat) : Prop :=
  ∃ rv row next, PileIs w b rv row next ∧ PSim row x next ∧ (0 ≤ next ∧ next ≤ n) ∧ ∀ k, pfoot b rv k → F k

theorem PileX.keep {w w' : World} {F G : Nat → Prop} {b : Nat} {x : KV} {n : Nat} (h : PileX w F b x n) (t : Tch G w w') (hG : ∀ k, F k → ¬ G k) : PileX w' F b x n :=
  let ⟨rv, row, next, h1, h2, h3, h4⟩ := h
  ⟨rv, row, next, h1.keep t (hG b (h4 b (.inl rfl))) (fun g hg => hG g (h4 g (.inr hg))), h2, h3, h4⟩
theorem PileX.weak {w : World} {F G : Nat → Prop} {b : Nat} {x : KV} {n : Nat} (h : PileX w F b x n) (hG : ∀ k, k < w.heap.size → F k → G k) : PileX w G b x n :=
  let ⟨rv, row, next, h1, h2, h3, h4⟩ := h
  ⟨rv, row, next, h1, h2, h3, fun k hk => hG k (by
    rcases hk with rfl | hk
    · exact h1.blk.lt
    · exact own_lt h1.rows hk) (h4 k hk)⟩
theorem PileX.more {w : World} {F : Nat → Prop} {b : Nat} {x : KV} {n m : Nat} (h : PileX w F b x n) (hm : n ≤ m) : PileX w F b x m :=
  let ⟨rv, row, next, g1, g2, g3, g4⟩ := h
  ⟨rv, row, next, g1, g2, by omega, g4⟩
/-- The call has turned the pile, and nothing else that was there. -/
def PTurn (w w' : World) (F : Nat → Prop) (b : Nat) (x : KV) (n : Nat) : Prop := PileX w' (fun k => F k ∨ w.heap.size ≤ k) b x n ∧ Tch F w w'

theorem push_x {w : World} {F : Nat → Prop} {b : Nat} {x : KV} {n : Nat} {a v : Int} (h : PileX w F b x n) (hx : x.length ≤ 10000) (hn : n ≤ 999999) :
    Calls Try.prog 18 #[.pointer (some ⟨b, 0, none⟩), .agg #[.int .i64 a, .int .i64 v]] w fun e w' => e = .returned (.int .i64 0) ∧ PTurn w w' F b (x ++ [(a, v)]) (n + 1) := by
  obtain ⟨rv, row, next, h1, h2, h3, h4⟩ := h
  refine (push_any h1 h2.1 (by rw [h2.len]; exact hx) h3.1 (by omega)).mono ?_
  rintro e w' ⟨rfl, ⟨rv', row', g1, g2, g3, g4⟩, t⟩
  refine ⟨rfl, ⟨rv', row', next + 1, g1, h2.push g2 g3, by omega, fun k hk => ?_⟩, t.mono fun k _ hk => h4 k hk⟩
  rcases hk with rfl | hk
  · exact .inl (h4 _ (.inl rfl))
  · exact (g4 k hk).imp (fun h => h4 k (.inr h)) id

theorem peek_x {w : World} {F : Nat → Prop} {b : Nat} {x : KV} {n : Nat} (h : PileX w F b x n) :
    Calls Try.prog 32 #[.pointer (some ⟨b, 0, none⟩)] w fun e w' => e = .returned (.tuple #[topOf x, .bool (firstTo x x.length).isSome]) ∧ Tch (fun _ => False) w w' := by
  obtain ⟨rv, row, next, h1, h2, h3, h4⟩ := h
  refine (peek_any h1).mono ?_
  rintro e w' ⟨rfl, t⟩
  exact ⟨by rw [topOf_eq, h2.top.1, h2.top.2]; rfl, t⟩

theorem pop_x {w : World} {F : Nat → Prop} {b : Nat} {x : KV} {n : Nat} (h : PileX w F b x n) (hx : x.length ≤ 10000) :
    Calls Try.prog 19 #[.pointer (some ⟨b, 0, none⟩)] w fun e w' => e = .returned (.tuple #[topOf x, .bool (firstTo x x.length).isSome]) ∧ PileX w' F b (restOf x) n ∧ Tch F w w' := by
  obtain ⟨rv, row, next, h1, h2, h3, h4⟩ := h
  by_cases hl : 0 < row.length
  · refine (pop_some h1 h2.1 hl (by rw [h2.len]; omega)).mono ?_
    rintro e w' ⟨rfl, ⟨rv', row', g1, g2, g3, g4⟩, t⟩
    refine ⟨by rw [topOf_eq, h2.top.1, h2.top.2, decide_eq_true hl]; rfl, ⟨rv', row', next, g1, h2.pop hl g2 g3, h3, fun k hk => ?_⟩, t.mono fun k _ hk => h4 k hk⟩
    rcases hk with rfl | hk
    · exact h4 _ (.inl rfl)
    · exact h4 k (.inr (g4 ▸ hk))
  · obtain rfl : row = [] := List.eq_nil_of_length_eq_zero (by omega)
    obtain ⟨hx0, hr⟩ := h2.none
    refine (pop_none h1).mono ?_
    rintro e w' ⟨rfl, t⟩
    refine ⟨by rw [hx0]; rfl, ⟨rv, [], next, h1.keep t id (fun _ _ => id), by rw [hr]; rw [hx0] at h2; exact h2, h3, h4⟩, Exn.touch t⟩

theorem plen_x {w : World} {F : Nat → Prop} {b : Nat} {x : KV} {n : Nat} (h : PileX w F b x n) :
    Calls Try.prog 14 #[.pointer (some ⟨b, 0, none⟩)] w fun e w' => e = .returned (.int .i64 x.length) ∧ w = w' := by
  obtain ⟨rv, row, next, h1, h2, h3, h4⟩ := h
  rw [← h2.len]
  exact plen_any h1

set_option maxRecDepth 100000 in
set_option maxHeartbeats 400000 in
theorem pnew_any (w : World) : Calls Try.prog 9 #[.func (.func 10) #[] #[]] w fun e w' => ∃ b, e = .returned (.pointer (some ⟨b, 0, none⟩)) ∧ PileX w' (fun k => k = b) b [] 0 ∧ w.heap.size ≤ b ∧ Tch (fun _ => False) w w' := by
  have hq := run_eql_less
  go_enter Try.func9, Try.ntmps9
  go_wp2
  go_ret
  refine ⟨_, rfl, ⟨.slice none 0 0, [], 0, ⟨Blk.new w 67 #[.slice none 0 0, .func (.func 10) #[] #[], .int .i64 0], World.ownsRow_nil _ _ _ _⟩, PSim.start, by omega, fun k hk => ?_⟩, Nat.le_refl _, Tch.alloc _ _ _⟩
  rcases hk with h | h
  · exact h
  · cases h

theorem World.alloc_size (w : World) (o : Obj) : (w.alloc o).heap.size = w.heap.size + 1 := by simp
/-- A call: the list behind it, what is told. -/
def doX (x : KV) (k a v : Int) : KV × Value × Bool := if k = 0 then (x ++ [(a, v)], .agg #[.int .i64 0, .int .i64 0], true) else if k = 1 then (restOf x, topOf x, (firstTo x x.length).isSome) else (x, topOf x, (firstTo x x.length).isSome)
theorem doX_len (x : KV) (k a v : Int) : (doX x k a v).1.length ≤ x.length + 1 := by
  unfold doX
  split
  · simp
  · split
    · simp only [restOf_len]; omega
    · simp

set_option maxRecDepth 100000 in
set_option maxHeartbeats 1600000 in
theorem do9_x {w : World} {F : Nat → Prop} {b : Nat} {x : KV} {n : Nat} {k a v : Int} (h : PileX w F b x n) (hF : ∀ g, F g → g < w.heap.size) (hx : x.length ≤ 10000) (hn : n ≤ 999999) :
    Calls Try.prog 12 #[.pointer (some ⟨b, 0, none⟩), .agg #[.int .i64 k, .int .i64 a, .int .i64 v]] w fun e w' => e = .returned (.tuple #[(doX x k a v).2.1, .bool (doX x k a v).2.2]) ∧ PTurn w w' F b (doX x k a v).1 (n + 1) := by
  have ha := Blk.new w 32 #[.int .i64 k, .int .i64 a, .int .i64 v]
  have hr := Blk.new2 w (.cells #[.int .i64 k, .int .i64 a, .int .i64 v] 32) 25 #[.int .i64 0, .int .i64 0]
  have ha := ha.alloc (.cells #[.int .i64 0, .int .i64 0] 25)
  have tr : Tch (fun _ => False) w _ := (Tch.alloc (fun _ => False) w (.cells #[.int .i64 k, .int .i64 a, .int .i64 v] 32)).trans (Tch.alloc _ _ (.cells #[.int .i64 0, .int .i64 0] 25))
  have hk := h.keep tr (fun _ _ => id)
  have hsz : w.heap.size + 1 < ((w.alloc (.cells #[.int .i64 k, .int .i64 a, .int .i64 v] 32)).alloc (.cells #[.int .i64 0, .int .i64 0] 25)).heap.size := hr.lt
  have hpk := peek_x hk
  have hpo := pop_x hk hx
  have hpu := push_x (a := a) (v := v) hk hx hn
  unfold doX
  rw [topOf_eq] at *
  generalize topP x = p at *
  clear h
  by_cases h0 : k = 0
  · subst h0
    simp only [if_true]
    go_enter Try.func12, Try.ntmps12
    go_wp2_with fail
    generalize hWd : ((w.alloc (.cells #[.int .i64 0, .int .i64 a, .int .i64 v] 32)).alloc (.cells #[.int .i64 0, .int .i64 0] 25)) = W at *
    generalize hz : w.heap.size = z at *
    have HZ := Hid.out (p := Hid (w.heap.size = z)) hz
    clear hz hWd
    refine hpu.mono ?_
    rintro e w1 ⟨rfl, hp, t1⟩
    have hr1 := hr.keep t1 (fun hf => by have := hF _ hf; omega)
    have r0 := hr1.frozen 0
    have r1 := hr1.frozen 1
    have r2 : w1.cell? ⟨z + 1, 0, none⟩ = some (.int .i64 0) := hr1.cell 0
    have r3 : w1.cell? ⟨z + 1, 1, none⟩ = some (.int .i64 0) := hr1.cell 1
    clear hpk hpo hpu hr ha
    go_wp2
    have hbF := (hr1.set_ 0 (.int .i64 0)).set_ 1 (.int .i64 0)
    simp only [List.setIfInBounds_toArray, List.set_cons_succ, List.set_cons_zero] at hbF
    (try simp only [Exit.inBlock, Exit.then])
    (try rw [Exit.noGoto_ret])
    refine bodyPost_ret (results_row_tmp (P := Try.prog) rfl _ _ (z + 1) 25 _ (0, 0) _ rfl hbF Try.underlying25 rfl (by kernel_rfl)) rfl ?_
    have t2 := Tch.sets2 w1 (z + 1) (.int .i64 0) (.int .i64 0)
    refine ⟨rfl, ?_, ?_⟩
    · rw [HZ.out]
      refine (hp.keep t2 (fun g hg e => ?_)).weak (fun g _ hg => ?_)
      · rcases hg with h | h
        · have := hF g h; omega
        · omega
      · exact hg.imp id (fun h => by omega)
    · exact ((Exn.touch tr).trans t1).trans' t2 (fun g e => .inr (by rw [HZ.out]; omega))
  by_cases h1 : k = 1
  · subst h1
    simp only [if_neg h0, if_true]
    go_enter Try.func12, Try.ntmps12
    go_wp2_with fail
    generalize hWd : ((w.alloc (.cells #[.int .i64 1, .int .i64 a, .int .i64 v] 32)).alloc (.cells #[.int .i64 0, .int .i64 0] 25)) = W at *
    generalize hz : w.heap.size = z at *
    have HZ := Hid.out (p := Hid (w.heap.size = z)) hz
    clear hz hWd
    refine hpo.mono ?_
    rintro e w1 ⟨rfl, hp, t1⟩
    have hr1 := hr.keep t1 (fun hf => by have := hF _ hf; omega)
    have r0 := hr1.frozen 0
    have r1 := hr1.frozen 1
    have r2 : w1.cell? ⟨z + 1, 0, none⟩ = some (.int .i64 0) := hr1.cell 0
    have r3 : w1.cell? ⟨z + 1, 1, none⟩ = some (.int .i64 0) := hr1.cell 1
    clear hpk hpo hpu hr ha
    go_wp2
    have hbF := (hr1.set_ 0 (.int .i64 p.1)).set_ 1 (.int .i64 p.2)
    simp only [List.setIfInBounds_toArray, List.set_cons_succ, List.set_cons_zero] at hbF
    (try simp only [Exit.inBlock, Exit.then])
    (try rw [Exit.noGoto_ret])
    refine bodyPost_ret (results_row_tmp (P := Try.prog) rfl _ _ (z + 1) 25 _ (0, 0) _ rfl hbF Try.underlying25 rfl (by kernel_rfl)) rfl ?_
    have t2 := Tch.sets2 w1 (z + 1) (.int .i64 p.1) (.int .i64 p.2)
    refine ⟨rfl, ?_, ?_⟩
    · refine PileX.more ?_ (Nat.le_succ n)
      rw [HZ.out]
      refine (hp.keep t2 (fun g hg e => ?_)).weak (fun g _ hg => ?_)
      · have := hF g hg; omega
      · exact .inl hg
    · exact ((Exn.touch tr).trans t1).trans' t2 (fun g e => .inr (by rw [HZ.out]; omega))
  · have h0' : (k == 0) = false := by simpa using h0
    have h1' : (k == 1) = false := by simpa using h1
    simp only [if_neg h0, if_neg h1]
    clear h0 h1
    go_enter Try.func12, Try.ntmps12
    go_wp2_with fail
    generalize hWd : ((w.alloc (.cells #[.int .i64 k, .int .i64 a, .int .i64 v] 32)).alloc (.cells #[.int .i64 0, .int .i64 0] 25)) = W at *
    generalize hz : w.heap.size = z at *
    have HZ := Hid.out (p := Hid (w.heap.size = z)) hz
    clear hz hWd
    refine hpk.mono ?_
    rintro e w1 ⟨rfl, t1⟩
    have hr1 := hr.keep t1 (id)
    have r0 := hr1.frozen 0
    have r1 := hr1.frozen 1
    have r2 : w1.cell? ⟨z + 1, 0, none⟩ = some (.int .i64 0) := hr1.cell 0
    have r3 : w1.cell? ⟨z + 1, 1, none⟩ = some (.int .i64 0) := hr1.cell 1
    clear hpk hpo hpu hr ha
    go_wp2
    have hbF := (hr1.set_ 0 (.int .i64 p.1)).set_ 1 (.int .i64 p.2)
    simp only [List.setIfInBounds_toArray, List.set_cons_succ, List.set_cons_zero] at hbF
    (try simp only [Exit.inBlock, Exit.then])
    (try rw [Exit.noGoto_ret])
    refine bodyPost_ret (results_row_tmp (P := Try.prog) rfl _ _ (z + 1) 25 _ (0, 0) _ rfl hbF Try.underlying25 rfl (by kernel_rfl)) rfl ?_
    have t2 := Tch.sets2 w1 (z + 1) (.int .i64 p.1) (.int .i64 p.2)
    refine ⟨rfl, ?_, ?_⟩
    · refine PileX.more ?_ (Nat.le_succ n)
      rw [HZ.out]
      refine ((hk.keep t1 (fun _ _ => id)).keep t2 (fun g hg e => ?_)).weak (fun g _ hg => ?_)
      · have := hF g hg; omega
      · exact .inl hg
    · exact (Exn.touch (tr.trans t1)).trans' t2 (fun g e => .inr (by rw [HZ.out]; omega))

set_option maxRecDepth 100000 in
set_option maxHeartbeats 3200000 in
theorem refdo9_x {B : Nat → Prop} {w : World} {lv : Value} {x : KV} {k a v : Int} (h : Prs B w lv x) (hx : x.length ≤ 10000) (hB : ∀ g, w.heap.size ≤ g → B g) :
    Calls Try.prog 13 #[lv, .agg #[.int .i64 k, .int .i64 a, .int .i64 v]] w fun e w' => ∃ v', e = .returned (.tuple #[v', (doX x k a v).2.1, .bool (doX x k a v).2.2]) ∧ Prs B w' v' (doX x k a v).1 ∧ Tch (fun _ => False) w w' := by
  have ha := Blk.new w 32 #[.int .i64 k, .int .i64 a, .int .i64 v]
  have hr := Blk.new2 w (.cells #[.int .i64 k, .int .i64 a, .int .i64 v] 32) 25 #[.int .i64 0, .int .i64 0]
  have ha := ha.alloc (.cells #[.int .i64 0, .int .i64 0] 25)
  have tr : Tch (fun _ => False) w _ := (Tch.alloc (fun _ => False) w (.cells #[.int .i64 k, .int .i64 a, .int .i64 v] 32)).trans (Tch.alloc _ _ (.cells #[.int .i64 0, .int .i64 0] 25))
  have hk := h.keep tr
  have hsz : w.heap.size + 1 < ((w.alloc (.cells #[.int .i64 k, .int .i64 a, .int .i64 v] 32)).alloc (.cells #[.int .i64 0, .int .i64 0] 25)).heap.size := hr.lt
  have hpk := rpeek_any hk (by omega)
  have hk' := h.keepTo (P' := fun g => B g ∧ g ≠ w.heap.size + 1) tr (fun g hg hb => ⟨id, hb, by omega⟩)
  have hpo := rpop_any hk' (by omega) (fun g hg => ⟨hB g (Nat.le_trans tr.size hg), by omega⟩)
  obtain ⟨A, c, rfl, hc1, hc2⟩ := h.form
  unfold doX
  rw [topOf_eq] at *
  generalize topP x = p at *
  by_cases h0 : k = 0
  · subst h0
    simp only [if_true]
    clear hpk hpo hk' h
    have a1 := ha.cell 1
    have a2 := ha.cell 2
    have r0 := hr.frozen 0
    have r1 := hr.frozen 1
    have r2 := hr.cell 0
    have r3 := hr.cell 1
    go_enter Try.func13, Try.ntmps13
    go_wp2_with fail
    generalize hWd : ((w.alloc (.cells #[.int .i64 0, .int .i64 a, .int .i64 v] 32)).alloc (.cells #[.int .i64 0, .int .i64 0] 25)) = W at *
    generalize hz : w.heap.size = z at *
    have HZ := Hid.out (p := Hid (w.heap.size = z)) hz
    clear hz hWd
    have hbn : ∀ (W : World) (N : Nat), N = W.heap.size → ∀ j u, (flatP (a, v))[j]? = some u → (W.alloc (.cells #[.int .i64 a, .int .i64 v] 25)).cell? ⟨N, j, none⟩ = some u := fun W N e j u hu => by
      rw [e, (Blk.new W 25 #[.int .i64 a, .int .i64 v]).cell j]; simpa [flatP] using hu
    have hmd : ∀ (W : World) (N : Nat), N = W.heap.size → (W.alloc (.cells #[] 25)).ownsRow 0 25 2 (.slice (some ⟨N, 0, none⟩) 0 0) 0 [] := fun W N e => by
      rw [e]; exact own_base (own_made W 25 2 0 #[] (Nat.zero_le _) rfl)
    have f1 : W.cell? ⟨z, 1, none⟩ = some (.int .i64 a) := a1
    have f2 : W.cell? ⟨z, 2, none⟩ = some (.int .i64 v) := a2
    clear a1 a2 r0 r1 r2 r3
    go_region_held3 (fun w' => w'.cell? ⟨z, 1, none⟩ = some (.int .i64 a) ∧ w'.cell? ⟨z, 2, none⟩ = some (.int .i64 v))
      (first
        | go_keep
        | (go_split_ands; exact ⟨t6.cell_some f1 (by show ¬ z + 1 < z; omega), t6.cell_some f2 (by show ¬ z + 1 < z; omega)⟩)
        | (go_split_ands; exact ⟨t2.cell_some f1 (by show ¬ z + 1 < z; omega), t2.cell_some f2 (by show ¬ z + 1 < z; omega)⟩))
      (first
        | (refine step_append _ (by rfl) (.tmp 21) (.tmp 22) _ (by rfl) rowPr ((Tch.drew (fun _ => False) _).own (hmd W W.heap.size rfl) (fun _ _ => id)) (by rfl) ((hk.keep (by repeat (first | exact Tch.refl _ _ | refine Tch.trans ?_ (Tch.drew _ _) | refine Tch.trans ?_ (Tch.alloc _ _ _)))).src) (by rfl) (flatP_one _) (by unfold maxLen; omega) (by omega) ?_; intro v2 w2 ho2 hg2 hl2; rw [Nat.zero_add, List.nil_append] at ho2; obtain ⟨A2, c2, rfl, _, _, _⟩ := own_form ho2; have t2 : Tch (fun k => z + 1 < k) W w2 := Tch.trans (by repeat (first | exact Tch.refl _ _ | refine Tch.trans ?_ (Tch.drew _ _) | refine Tch.trans ?_ (Tch.alloc _ _ _))) (Tch.grown hg2 (fun k e => .inl (by have e' := own_at e; omega))); have n2 : ∀ k, (Value.slice A2 x.length c2).ownBlock = some k → z + 1 < k := fun k e => (hl2 k e).elim (fun h => by have e' := own_at h; omega) (fun h => by (try simp at h); omega))
        | (refine step_append _ (by rfl) (.tmp 21) (.tmp 22) _ (by rfl) rowPr (((Tch.alloc (fun _ => False) _ _).trans (Tch.drew _ _)).own (hmd W W.heap.size rfl) (fun _ _ => id)) (by rfl) ((hk.keep (by repeat (first | exact Tch.refl _ _ | refine Tch.trans ?_ (Tch.drew _ _) | refine Tch.trans ?_ (Tch.alloc _ _ _)))).src) (by rfl) (flatP_one _) (by unfold maxLen; omega) (by omega) ?_; intro v2 w2 ho2 hg2 hl2; rw [Nat.zero_add, List.nil_append] at ho2; obtain ⟨A2, c2, rfl, _, _, _⟩ := own_form ho2; have t2 : Tch (fun k => z + 1 < k) W w2 := Tch.trans (by repeat (first | exact Tch.refl _ _ | refine Tch.trans ?_ (Tch.drew _ _) | refine Tch.trans ?_ (Tch.alloc _ _ _))) (Tch.grown hg2 (fun k e => .inl (by have e' := own_at e; omega))); have n2 : ∀ k, (Value.slice A2 x.length c2).ownBlock = some k → z + 1 < k := fun k e => (hl2 k e).elim (fun h => by have e' := own_at h; omega) (fun h => by (try simp at h); omega))
        | (refine step_append _ (by rfl) (.tmp 21) (.tmp 22) _ (by rfl) rowPr ((Tch.drew (fun _ => False) _).own (hmd (W.alloc (.cells #[.int .i64 a, .int .i64 v] 25)) (W.heap.size + 1) (World.alloc_size W _).symm) (fun _ _ => id)) (by rfl) ((hk.keep (by repeat (first | exact Tch.refl _ _ | refine Tch.trans ?_ (Tch.drew _ _) | refine Tch.trans ?_ (Tch.alloc _ _ _)))).src) (by rfl) (flatP_one _) (by unfold maxLen; omega) (by omega) ?_; intro v2 w2 ho2 hg2 hl2; rw [Nat.zero_add, List.nil_append] at ho2; obtain ⟨A2, c2, rfl, _, _, _⟩ := own_form ho2; have t2 : Tch (fun k => z + 1 < k) W w2 := Tch.trans (by repeat (first | exact Tch.refl _ _ | refine Tch.trans ?_ (Tch.drew _ _) | refine Tch.trans ?_ (Tch.alloc _ _ _))) (Tch.grown hg2 (fun k e => .inl (by have e' := own_at e; omega))); have n2 : ∀ k, (Value.slice A2 x.length c2).ownBlock = some k → z + 1 < k := fun k e => (hl2 k e).elim (fun h => by have e' := own_at h; omega) (fun h => by (try simp at h); omega))
        | (refine step_append _ (by rfl) (.tmp 23) (.tmp 26) _ (by rfl) rowPr (by first | exact ho2 | exact ho2.alloc _) (by rfl) (Src.one (g := w2.heap.size) (news := flatP (a, v)) rfl (fun j u hu => hbn w2 _ rfl j u hu)) (by rfl) (flatP_one1 _) (by unfold maxLen; omega) (by omega) ?_; intro v6 w6 ho6 hg6 hl6; obtain ⟨A6, c6, rfl, _, _, _⟩ := own_form ho6; have t6 : Tch (fun k => z + 1 < k) W w6 := t2.trans (Tch.trans (by repeat (first | exact Tch.refl _ _ | refine Tch.trans ?_ (Tch.drew _ _) | refine Tch.trans ?_ (Tch.alloc _ _ _))) (Tch.grown hg6 (fun k e => .inl (n2 k e)))); have n6 : ∀ k, (Value.slice A6 (x.length + 1) c6).ownBlock = some k → z + 1 < k := fun k e => (hl6 k e).elim (n2 k) (fun h => by have := t2.size; (try simp at h); omega); have hr6 := hr.keep t6 (by show ¬ z + 1 < z + 1; omega); have s0 := hr6.frozen 0; have s1 := hr6.frozen 1; have s2 : w6.cell? ⟨z + 1, 0, none⟩ = some (.int .i64 0) := hr6.cell 0; have s3 : w6.cell? ⟨z + 1, 1, none⟩ = some (.int .i64 0) := hr6.cell 1)
        | (refine step_append _ (by rfl) (.tmp 23) (.tmp 26) _ (by rfl) rowPr (by first | exact ho2 | exact ho2.alloc _) (by rfl) (Src.one (g := W.heap.size + 1) (news := flatP (a, v)) rfl (fun j u hu => (Tch.grown (F := fun k => k = W.heap.size) hg2 (fun k e => .inl (own_at e).symm)).cell_some (hbn (W.alloc (.cells #[] 25)) _ (by simp) j u hu) (by show ¬ W.heap.size + 1 = W.heap.size; omega))) (by rfl) (flatP_one1 _) (by unfold maxLen; omega) (by omega) ?_; intro v6 w6 ho6 hg6 hl6; obtain ⟨A6, c6, rfl, _, _, _⟩ := own_form ho6; have t6 : Tch (fun k => z + 1 < k) W w6 := t2.trans (Tch.trans (by repeat (first | exact Tch.refl _ _ | refine Tch.trans ?_ (Tch.drew _ _) | refine Tch.trans ?_ (Tch.alloc _ _ _))) (Tch.grown hg6 (fun k e => .inl (n2 k e)))); have n6 : ∀ k, (Value.slice A6 (x.length + 1) c6).ownBlock = some k → z + 1 < k := fun k e => (hl6 k e).elim (n2 k) (fun h => by have := t2.size; (try simp at h); omega); have hr6 := hr.keep t6 (by show ¬ z + 1 < z + 1; omega); have s0 := hr6.frozen 0; have s1 := hr6.frozen 1; have s2 : w6.cell? ⟨z + 1, 0, none⟩ = some (.int .i64 0) := hr6.cell 0; have s3 : w6.cell? ⟨z + 1, 1, none⟩ = some (.int .i64 0) := hr6.cell 1)
        | (refine step_append _ (by rfl) (.tmp 23) (.tmp 26) _ (by rfl) rowPr (by first | exact ho2 | exact ho2.alloc _) (by rfl) (Src.one (g := W.heap.size) (news := flatP (a, v)) rfl (fun j u hu => (Tch.grown (F := fun k => k = W.heap.size + 1) hg2 (fun k e => .inl (own_at e).symm)).cell_some ((Tch.alloc (fun _ => False) _ _).cell_some (hbn W _ rfl j u hu) id) (by show ¬ W.heap.size = W.heap.size + 1; omega))) (by rfl) (flatP_one1 _) (by unfold maxLen; omega) (by omega) ?_; intro v6 w6 ho6 hg6 hl6; obtain ⟨A6, c6, rfl, _, _, _⟩ := own_form ho6; have t6 : Tch (fun k => z + 1 < k) W w6 := t2.trans (Tch.trans (by repeat (first | exact Tch.refl _ _ | refine Tch.trans ?_ (Tch.drew _ _) | refine Tch.trans ?_ (Tch.alloc _ _ _))) (Tch.grown hg6 (fun k e => .inl (n2 k e)))); have n6 : ∀ k, (Value.slice A6 (x.length + 1) c6).ownBlock = some k → z + 1 < k := fun k e => (hl6 k e).elim (n2 k) (fun h => by have := t2.size; (try simp at h); omega); have hr6 := hr.keep t6 (by show ¬ z + 1 < z + 1; omega); have s0 := hr6.frozen 0; have s1 := hr6.frozen 1; have s2 : w6.cell? ⟨z + 1, 0, none⟩ = some (.int .i64 0) := hr6.cell 0; have s3 : w6.cell? ⟨z + 1, 1, none⟩ = some (.int .i64 0) := hr6.cell 1))
    all_goals
      go_wp2
      have hbF := (hr6.set_ 0 (.int .i64 0)).set_ 1 (.int .i64 0)
      simp only [List.setIfInBounds_toArray, List.set_cons_succ, List.set_cons_zero] at hbF
      (try simp only [Exit.inBlock, Exit.then])
      (try rw [Exit.noGoto_ret])
      refine bodyPost_ret (results_tmp_row_tmp (P := Try.prog) rfl _ _ (z + 1) 25 _ (0, 0) _ rfl hbF Try.underlying25 rfl (by kernel_rfl)) rfl ?_
      have t7 := Tch.sets2 w6 (z + 1) (.int .i64 0) (.int .i64 0)
      have o7 := t7.own ho6 (fun g e e2 => by have := n6 g e; omega)
      refine ⟨_, rfl, ?_, (tr.trans' t6 (fun g hg => .inr (by rw [HZ.out]; omega))).trans' t7 (fun g hg => .inr (by rw [HZ.out]; omega))⟩
      have o8 := Row.own (P := B) o7 (fun g e => hB g (by have := n6 g e; omega))
      have e1 : x.flatMap flatP ++ flatP (a, v) = (x ++ [(a, v)]).flatMap flatP := by simp
      have e2 : x.length + 1 = (x ++ [(a, v)]).length := by simp
      show Row B _ _ (x ++ [(a, v)]).length 2 _
      rw [← e2, ← e1]
      exact o8
  by_cases h1 : k = 1
  · subst h1
    simp only [if_neg h0, if_true]
    have a0 := ha.cell 0
    go_enter Try.func13, Try.ntmps13
    go_wp2_with fail
    generalize hWd : ((w.alloc (.cells #[.int .i64 1, .int .i64 a, .int .i64 v] 32)).alloc (.cells #[.int .i64 0, .int .i64 0] 25)) = W at *
    generalize hz : w.heap.size = z at *
    have HZ := Hid.out (p := Hid (w.heap.size = z)) hz
    clear hz hWd
    refine hpo.mono ?_
    rintro e w1 ⟨v1, rfl, hl1, t1⟩
    have hr1 := hr.keep t1 id
    have r0 := hr1.frozen 0
    have r1 := hr1.frozen 1
    have r2 : w1.cell? ⟨z + 1, 0, none⟩ = some (.int .i64 0) := hr1.cell 0
    have r3 : w1.cell? ⟨z + 1, 1, none⟩ = some (.int .i64 0) := hr1.cell 1
    have tw := tr.trans t1
    clear hpk hpo hr ha a0 hk'
    go_wp2
    have hbF := (hr1.set_ 0 (.int .i64 p.1)).set_ 1 (.int .i64 p.2)
    simp only [List.setIfInBounds_toArray, List.set_cons_succ, List.set_cons_zero] at hbF
    (try simp only [Exit.inBlock, Exit.then])
    (try rw [Exit.noGoto_ret])
    refine bodyPost_ret (results_tmp_row_tmp (P := Try.prog) rfl _ _ (z + 1) 25 _ (0, 0) _ rfl hbF Try.underlying25 rfl (by kernel_rfl)) rfl ?_
    have t7 := tw.trans' (Tch.sets2 w1 (z + 1) (.int .i64 p.1) (.int .i64 p.2)) (fun g hg => .inr (by rw [HZ.out]; omega))
    exact ⟨_, rfl, hl1.keepTo (Tch.sets2 w1 (z + 1) (.int .i64 p.1) (.int .i64 p.2)) (fun g hg hb => ⟨hb.2, hb.1⟩), t7⟩
  · have h0' : (k == 0) = false := by simpa using h0
    have h1' : (k == 1) = false := by simpa using h1
    simp only [if_neg h0, if_neg h1]
    clear h0 h1
    have a0 := ha.cell 0
    go_enter Try.func13, Try.ntmps13
    go_wp2_with fail
    generalize hWd : ((w.alloc (.cells #[.int .i64 k, .int .i64 a, .int .i64 v] 32)).alloc (.cells #[.int .i64 0, .int .i64 0] 25)) = W at *
    generalize hz : w.heap.size = z at *
    have HZ := Hid.out (p := Hid (w.heap.size = z)) hz
    clear hz hWd
    refine hpk.mono ?_
    rintro e w1 ⟨rfl, t1⟩
    have hr1 := hr.keep t1 id
    have r0 := hr1.frozen 0
    have r1 := hr1.frozen 1
    have r2 : w1.cell? ⟨z + 1, 0, none⟩ = some (.int .i64 0) := hr1.cell 0
    have r3 : w1.cell? ⟨z + 1, 1, none⟩ = some (.int .i64 0) := hr1.cell 1
    have tw := tr.trans t1
    clear hpk hpo hr ha a0 hk'
    have hzl := hr1.lt
    have T12 := Tch.alloc (fun _ => False) w1 (.cells #[.int .i64 p.1, .int .i64 p.2] 25)
    have hr2 := hr1.alloc (.cells #[.int .i64 p.1, .int .i64 p.2] 25)
    have hx2 := Blk.new w1 25 #[.int .i64 p.1, .int .i64 p.2]
    have q0 := hx2.cell 0
    have q1 := hx2.cell 1
    have s0 := hr2.frozen 0
    have s1 := hr2.frozen 1
    have s2 := hr2.cell 0
    have s3 := hr2.cell 1
    go_wp2_with fail
    generalize w1.alloc (.cells #[.int .i64 p.1, .int .i64 p.2] 25) = w2 at *
    generalize w1.heap.size = z2 at *
    have tw := tw.trans (T12)
    have d0 := within_cell (F := fun _ => False) (show w2.cell? ⟨z2, 0, none⟩ = some (.int .i64 p.1) from q0) id
    have d1 := within_cell (F := fun _ => False) (show w2.cell? ⟨z2, 1, none⟩ = some (.int .i64 p.2) from q1) id
    clear r0 r1 r2 r3 s0 s1 s2 s3 q0 q1
    refine wp_region_touch (fun _ => False) [2] 4 [] [] (by kernel_rfl) rfl (by kernel_rfl) rfl (fun d _ _ _ _ h => by cases d <;> exact h) trivial ?_
    intro bef ops hbef hops
    clear hbef hops
    simp only [List.take_succ_cons, List.take_zero, List.drop_succ_cons, List.drop_zero]
    iterate 4 (refine t_det (by rfl) (by rfl) (by rfl) (by rfl) (fun K hK => ?_); go_big_quiet_op; (first | refine hK _ ?_ | refine ⟨_, fun _ => rfl, hK _ ?_⟩); clear hK K)
    refine t_nil ?_
    intro w3 hrr hpp hap
    have t3 : Tch (fun _ => False) w2 w3 := (Tch.drew _ w2).trans hrr
    have hr3 := hr2.keep t3 id
    have tw := tw.trans t3
    have hkf := hk.keep (t1.trans (T12.trans t3))
    have r0 := hr3.frozen 0
    have r1 := hr3.frozen 1
    have r2 : w3.cell? ⟨z + 1, 0, none⟩ = some (.int .i64 0) := hr3.cell 0
    have r3 : w3.cell? ⟨z + 1, 1, none⟩ = some (.int .i64 0) := hr3.cell 1
    clear hap hpp d0 d1 hrr hr2 hx2 hr1
    go_wp2
    have hbF := (hr3.set_ 0 (.int .i64 p.1)).set_ 1 (.int .i64 p.2)
    simp only [List.setIfInBounds_toArray, List.set_cons_succ, List.set_cons_zero] at hbF
    (try simp only [Exit.inBlock, Exit.then])
    (try rw [Exit.noGoto_ret])
    refine bodyPost_ret (results_tmp_row_tmp (P := Try.prog) rfl _ _ (z + 1) 25 _ (0, 0) _ rfl hbF Try.underlying25 rfl (by kernel_rfl)) rfl ?_
    have t7 := tw.trans' (Tch.sets2 w3 (z + 1) (.int .i64 p.1) (.int .i64 p.2)) (fun g hg => .inr (by rw [HZ.out]; omega))
    exact ⟨_, rfl, h.keep t7, t7⟩

end Go.Proofs.Ytnknemepfjfcfaa
