/-
  The methods of pile.Pile[[2]int]: Peek, Pop, Push.
-/
import Derived.Test.YtnknemepfjfcfaaPs
namespace Go.Proofs.Ytnknemepfjfcfaa
open Go.RowKit Go.Gk

def top2 (row : List T3) : Value := .agg #[.int .i64 (g3 row 0).1, .int .i64 (g3 row 0).2.1]

set_option maxRecDepth 100000 in
set_option maxHeartbeats 800000 in
theorem peek_any {w : World} {b : Nat} {rv : Value} {row : List T3} {next : Int} (h : PileIs w b rv row next) :
    Calls Try.prog 32 #[.pointer (some ⟨b, 0, none⟩)] w fun e w' => e = .returned (.tuple #[top2 row, .bool (decide (0 < row.length))]) ∧ Tch (fun _ => False) w w' := by
  have hr := Blk.new w 25 #[.int .i64 0, .int .i64 0]
  have tr := Tch.alloc (fun _ => False) w (.cells #[.int .i64 0, .int .i64 0] 25)
  have hk := h.keep tr id (fun _ _ => id)
  have h0 := hk.blk.cell 0
  have h1 := hk.blk.cell 1
  obtain ⟨A, c, rfl, hnc, _, _⟩ := own_form h.rows
  unfold top2
  by_cases hn : 0 < row.length
  · obtain ⟨g, rfl⟩ := own_head h.rows hn
    have fi := flat3_at row 0 hn
    have p0 := own_cell hk.rows (g := g) rfl fi.1
    have p1 := own_cell hk.rows (g := g) rfl fi.2.1
    rw [decide_eq_true hn]
    generalize row.length = n at *
    generalize g3 row 0 = x at *
    have e1 : ((n : Int) == 0) = false := by simp; omega
    have i1 : (0 : Int) < (n : Int) := by omega
    clear h hk fi
    have r0 := hr.frozen 0
    have r1 := hr.frozen 1
    have r2 := hr.cell 0
    have r3 := hr.cell 1
    go_enter Try.func32, Try.ntmps32
    go_wp2_with fail
    generalize w.alloc (.cells #[.int .i64 0, .int .i64 0] 25) = W at *
    generalize hz : w.heap.size = z at *
    have HZ := Hid.out (p := Hid (w.heap.size = z)) hz
    clear hz
    go_wp2_with (go_at_call 37; refine (pmade_any h1).mono ?_; rintro e w' ⟨rfl, rfl⟩)
    have hbF := (hr.set_ 0 (.int .i64 x.1)).set_ 1 (.int .i64 x.2.1)
    simp only [List.setIfInBounds_toArray, List.set_cons_succ, List.set_cons_zero] at hbF
    (try simp only [Exit.inBlock, Exit.then])
    refine bodyPost_ret (results_row_tmp (P := Try.prog) rfl _ _ z 25 _ (0, 0) _ rfl hbF Try.underlying25 rfl (by kernel_rfl)) rfl ?_
    exact ⟨rfl, tr.trans' (Tch.sets2 W z _ _) (fun i h => .inr (by rw [HZ.out]; omega))⟩
  · obtain rfl : row = [] := List.eq_nil_of_length_eq_zero (by omega)
    rw [decide_eq_false hn]
    have r0 := hr.frozen 0
    have r1 := hr.frozen 1
    have r2 := hr.cell 0
    have r3 := hr.cell 1
    clear h hn hk
    go_enter Try.func32, Try.ntmps32
    go_wp2_with fail
    generalize w.alloc (.cells #[.int .i64 0, .int .i64 0] 25) = W at *
    generalize hz : w.heap.size = z at *
    have HZ := Hid.out (p := Hid (w.heap.size = z)) hz
    clear hz
    have hzl := hr.lt
    have hzn : ¬ (z = W.heap.size) := by omega
    go_wp2_with (go_at_call 37; refine (pmade_any h1).mono ?_; rintro e w' ⟨rfl, rfl⟩)
    have hbF := ((hr.set_ 0 (.int .i64 0)).set_ 1 (.int .i64 0)).alloc (.cells #[.int .i64 0, .int .i64 0] 25)
    simp only [List.setIfInBounds_toArray, List.set_cons_succ, List.set_cons_zero] at hbF
    (try simp only [Exit.inBlock, Exit.then])
    refine bodyPost_ret (results_row_tmp (P := Try.prog) rfl _ _ z 25 _ (0, 0) _ rfl hbF Try.underlying25 rfl (by kernel_rfl)) rfl ?_
    exact ⟨rfl, (tr.trans' (Tch.sets2 _ z _ _) (fun i h => .inr (by rw [HZ.out]; omega))).trans (Tch.alloc _ _ _)⟩

set_option maxRecDepth 100000 in
set_option maxHeartbeats 800000 in
theorem pop_none {w : World} {b : Nat} {rv : Value} {next : Int} (h : PileIs w b rv [] next) :
    Calls Try.prog 19 #[.pointer (some ⟨b, 0, none⟩)] w fun e w' => e = .returned (.tuple #[.agg #[.int .i64 0, .int .i64 0], .bool false]) ∧ Tch (fun _ => False) w w' := by
  have hr := Blk.new w 25 #[.int .i64 0, .int .i64 0]
  have tr := Tch.alloc (fun _ => False) w (.cells #[.int .i64 0, .int .i64 0] 25)
  have hk := h.keep tr id (fun _ _ => id)
  have hp : Calls Try.prog 32 #[.pointer (some ⟨b, 0, none⟩)] _ fun e w' => e = .returned (.tuple #[.agg #[.int .i64 0, .int .i64 0], .bool false]) ∧ Tch (fun _ => False) _ w' := peek_any hk
  clear h hk
  go_enter Try.func19, Try.ntmps19
  go_wp2_with fail
  generalize w.alloc (.cells #[.int .i64 0, .int .i64 0] 25) = W at *
  generalize hz : w.heap.size = z at *
  have HZ := Hid.out (p := Hid (w.heap.size = z)) hz
  clear hz
  refine hp.mono ?_
  rintro e w1 ⟨rfl, t1⟩
  have hr1 := hr.keep t1 id
  have r0 := hr1.frozen 0
  have r1 := hr1.frozen 1
  have r2 := hr1.cell 0
  have r3 := hr1.cell 1
  have hzl := hr1.lt
  have hzn : ¬ (z = w1.heap.size) := by omega
  clear hp
  go_wp2
  have hbF := ((hr1.set_ 0 (.int .i64 0)).set_ 1 (.int .i64 0)).alloc (.cells #[.int .i64 0, .int .i64 0] 25)
  simp only [List.setIfInBounds_toArray, List.set_cons_succ, List.set_cons_zero] at hbF
  (try simp only [Exit.inBlock, Exit.then])
  refine bodyPost_ret (results_row_tmp (P := Try.prog) rfl _ _ z 25 _ (0, 0) _ rfl hbF Try.underlying25 rfl (by kernel_rfl)) rfl ?_
  exact ⟨rfl, ((tr.trans t1).trans' (Tch.sets2 _ z _ _) (fun i h => .inr (by rw [HZ.out]; omega))).trans (Tch.alloc _ _ _)⟩

set_option maxRecDepth 100000 in
set_option maxHeartbeats 1600000 in
theorem pop_some {w : World} {b : Nat} {rv : Value} {row : List T3} {next : Int} (h : PileIs w b rv row next) (hh : Heap row) (hn : 0 < row.length) (hl : row.length ≤ 1000000) :
    Calls Try.prog 19 #[.pointer (some ⟨b, 0, none⟩)] w fun e w' => e = .returned (.tuple #[top2 row, .bool true]) ∧ (∃ rv' row', PileIs w' b rv' row' next ∧ Heap row' ∧ (g3 row 0 :: row').Perm row ∧ rv'.ownBlock = rv.ownBlock) ∧ Tch (pfoot b rv) w w' := by
  have hr := Blk.new w 25 #[.int .i64 0, .int .i64 0]
  have tr := Tch.alloc (fun _ => False) w (.cells #[.int .i64 0, .int .i64 0] 25)
  have hk := h.keep tr id (fun _ _ => id)
  have hp := peek_any hk
  rw [decide_eq_true hn] at hp
  have hne := h.ne
  obtain ⟨A, c, rfl, hnc, hcm, _⟩ := own_form h.rows
  obtain ⟨g, rfl⟩ := own_head h.rows hn
  have hbs : b < w.heap.size := h.blk.lt
  have hgs : g < w.heap.size := own_lt h.rows rfl
  unfold top2 at hp ⊢
  generalize hx : g3 row 0 = x at *
  have HX := Hid.out (p := Hid (g3 row 0 = x)) hx
  obtain ⟨m, hm⟩ : ∃ m, row.length = m + 1 := ⟨row.length - 1, by omega⟩
  have HM := Hid.out (p := Hid (row.length = m + 1)) hm
  rw [hm] at hk hnc hl hne ⊢
  clear hx h hm hn
  go_enter Try.func19, Try.ntmps19
  go_wp2_with fail
  generalize w.alloc (.cells #[.int .i64 0, .int .i64 0] 25) = W at *
  generalize hz : w.heap.size = z at *
  have HZ := Hid.out (p := Hid (w.heap.size = z)) hz
  clear hz
  refine hp.mono ?_
  rintro e w1 ⟨rfl, t1⟩
  have hr1 := hr.keep t1 id
  have hk1 := hk.keep t1 id (fun _ _ => id)
  have hzl := hr1.lt
  have tw1 := tr.trans t1
  clear hp hr hk tr t1
  have hr2 := hr1.alloc (.cells #[.int .i64 x.1, .int .i64 x.2.1] 25)
  have hx2 := Blk.new w1 25 #[.int .i64 x.1, .int .i64 x.2.1]
  have hk2 := hk1.keep (Tch.alloc (fun _ => False) w1 (.cells #[.int .i64 x.1, .int .i64 x.2.1] 25)) id (fun _ _ => id)
  have tw2 := tw1.trans (Tch.alloc (fun _ => False) w1 (.cells #[.int .i64 x.1, .int .i64 x.2.1] 25))
  have c0 := hk2.blk.cell 0
  have r1 := hr2.cell 0
  have r0 := hr2.frozen 0
  have r0' := hr2.frozen 1
  have r1' := hr2.cell 1
  have x1 := hx2.cell 0
  have x2 := hx2.cell 1
  go_wp2_with fail
  generalize w1.alloc (.cells #[.int .i64 x.1, .int .i64 x.2.1] 25) = W2 at *
  generalize hz2 : w1.heap.size = z2 at *
  clear hz2 hk1 tw1 hr1 c0 r0 r0' r1 r1' x1 x2
  have fm := flat3_at row m (by rw [HM.out]; omega)
  obtain ⟨y, hy⟩ : ∃ y, y = g3 row m := ⟨_, rfl⟩
  rw [← hy] at fm
  have HY := Hid.out (p := Hid (y = _)) hy
  clear hy
  have c0 := within_cell (F := fun _ => False) (hk2.blk.cell 0) id
  have c1 := within_cell (F := fun _ => False) (own_cell hk2.rows (g := g) rfl fm.1) id
  have c2 := within_cell (F := fun _ => False) (own_cell hk2.rows (g := g) rfl fm.2.1) id
  have c3 := within_cell (F := fun _ => False) (own_cell hk2.rows (g := g) rfl fm.2.2) id
  have i0 : (0 : Int) ≤ (m : Int) := Int.natCast_nonneg _
  have i1 : (m : Int) < (m : Int) + 1 := by omega
  refine wp_region_touch (fun _ => False) [] 11 [] [] (by kernel_rfl) rfl (by kernel_rfl) rfl (fun d _ _ _ _ h => by cases d <;> exact h) trivial ?_
  intro bef ops hbef hops
  clear hbef hops
  simp only [List.take_succ_cons, List.take_zero, List.drop_succ_cons, List.drop_zero]
  iterate 11 (refine t_det (by rfl) (by rfl) (by rfl) (by rfl) (fun K hK => ?_); go_big_quiet_op; (first | refine hK _ ?_ | refine ⟨_, fun _ => rfl, hK _ ?_⟩); clear hK K)
  refine t_nil ?_
  intro w3 hrr hpp hap
  clear hap hpp c0 c1 c2 c3 fm
  have tw3 : Tch (fun _ => False) W2 w3 := (Tch.drew _ W2).trans hrr
  have h3 := hk2.keep tw3 id (fun _ _ => id)
  have hr3 := hr2.keep tw3 id
  have hx3 := hx2.keep tw3 id
  have tw4 := tw2.trans tw3
  have o3 : w3.ownsRow 0 74 3 (.slice (some ⟨g, 0, none⟩) row.length c) row.length (row.flatMap flat3) := by have := h3.rows; rwa [← HM.out] at this
  have b3 := h3.blk
  have ln := flat3_len row
  have hml := HM.out
  have t1 := own_there o3 0 3 (by omega)
  have o4 := own_things o3 0 y
  clear ln hml hk2 hr2 hx2 tw2 tw3 hrr h3 i1
  have hinf : (Try.prog.info? 74).map (·.size) = some 3 := by kernel_rfl
  have HI := Hid.out (p := Hid _) hinf
  clear hinf
  refine wpList_plain rfl fun K hK => ?_
  go_simp
  refine hK _ _ ?_
  clear hK K
  refine wpList_store_mid rfl 74 _ _ rfl g 0 #[.int .i64 y.1, .int .i64 y.2.1, .int .i64 y.2.2] rfl rfl t1 HI.out (all_oneCell_toArray (flat3_one1 y)) ?_
  change wpList _ _ _ [] _ (w3.setCells g 0 (flat3 y))
  have hbg : b ≠ g := fun e => hne (e ▸ rfl)
  have t5 : Tch (fun j => j = g) w3 (w3.setCells g 0 (flat3 y)) := Tch.setCells (F := fun j => j = g) rfl (flat3 y) 0 w3
  have b5 := b3.keep t5 (fun e => hbg e)
  have hr5 := hr3.keep t5 (fun e => by omega)
  have hx5 := hx3.keep t5 (fun e => by omega)
  have tw5 : Tch (pfoot b (.slice (some ⟨g, 0, none⟩) (m + 1) c)) w (w3.setCells g 0 (flat3 y)) := (Exn.touch tw4).trans (t5.mono fun i _ e => .inr (by subst e; rfl))
  rw [Nat.zero_mul] at o4
  have o5 := own_cut3 o4 m (by have := HM.out; simp; omega)
  have hpo : (row.set 0 y).take m = popped row := by unfold popped; rw [HM.out, HY.out]; rfl
  rw [hpo] at o5
  clear o4 o3 b3 hr3 hx3 t5 tw4 t1 hpo
  generalize w3.setCells g 0 (flat3 y) = W5 at *
  have c0 := b5.cell 0
  have f0 := b5.frozen 0
  have t6 : Tch (fun j => j = b) W5 (W5.setCell ⟨b, 0, none⟩ (.slice (some ⟨g, 0, none⟩) m c)) := Tch.setCell (F := fun j => j = b) W5 (p := ⟨b, 0, none⟩) (.inl rfl) _
  have hP6 : PileIs (W5.setCell ⟨b, 0, none⟩ (.slice (some ⟨g, 0, none⟩) m c)) b (.slice (some ⟨g, 0, none⟩) m c) (popped row) next :=
    ⟨b5.set_ 0 _, t6.own o5 (fun g' e e2 => hbg (by cases e; exact e2.symm))⟩
  have hr6 := hr5.keep t6 (fun e => by omega)
  have hx6 := hx5.keep t6 (fun e => by omega)
  have tw6 := tw5.trans (t6.mono fun i _ e => .inl e)
  have hS := sink_any hP6 (hh.popped (by rw [HM.out]; omega)) (by rw [popped_len, HM.out]; omega)
  have hcc : c ≤ 9223372036854775807 := by unfold maxLen at hcm; omega
  clear hP6 tw5 t6 b5 o5 hr5 hx5
  go_wp2_with fail
  refine hS.mono ?_
  rintro e w7 ⟨rfl, ⟨row', hP7, hH7, hp7⟩, t7⟩
  have hz7 : ¬ pfoot b (.slice (some ⟨g, 0, none⟩) m c) z := fun e => by
    rcases e with e | e
    · omega
    · have e2 := Option.some.inj e; simp only at e2; omega
  have hz27 : ¬ pfoot b (.slice (some ⟨g, 0, none⟩) m c) z2 := fun e => by
    rcases e with e | e
    · omega
    · have e2 := Option.some.inj e; simp only at e2; omega
  have hr7 := hr6.keep t7 hz7
  have hx7 := hx6.keep t7 hz27
  have tw7 : Tch (pfoot b (.slice (some ⟨g, 0, none⟩) (m + 1) c)) w w7 := tw6.trans t7
  have r0 := hr7.frozen 0
  have r1 := hr7.frozen 1
  have r2 : w7.cell? ⟨z, 0, none⟩ = some (.int .i64 0) := hr7.cell 0
  have r3 : w7.cell? ⟨z, 1, none⟩ = some (.int .i64 0) := hr7.cell 1
  have q0 : w7.cell? ⟨z2, 0, none⟩ = some (.int .i64 x.1) := hx7.cell 0
  have q1 : w7.cell? ⟨z2, 1, none⟩ = some (.int .i64 x.2.1) := hx7.cell 1
  clear hr6 hx6 tw6 t7
  go_wp2
  have hbF := (hr7.set_ 0 (.int .i64 x.1)).set_ 1 (.int .i64 x.2.1)
  simp only [List.setIfInBounds_toArray, List.set_cons_succ, List.set_cons_zero] at hbF
  (try simp only [Exit.inBlock, Exit.then])
  refine bodyPost_ret (results_row_tmp (P := Try.prog) rfl _ _ z 25 _ (0, 0) _ rfl hbF Try.underlying25 rfl (by kernel_rfl)) rfl ?_
  refine ⟨rfl, ⟨_, row', hP7.keep (Tch.sets2 w7 z _ _) (fun e => by omega) (fun g' e e2 => by have e3 : g = g' := Option.some.inj e; omega), hH7, ?_, rfl⟩, tw7.trans' (Tch.sets2 _ z _ _) (fun i h => .inr (by rw [HZ.out]; omega))⟩
  have := popped_perm (l := row) (by rw [HM.out]; omega)
  rw [HX.out] at this
  exact (hp7.cons x).trans this

theorem ne_of_pfoot {b g z n c : Nat} (h : ¬ z = b) (k : ¬ z = g) : ¬ pfoot b (.slice (some ⟨g, 0, none⟩) n c) z := fun e => by
  rcases e with e | e
  · exact h e
  · exact k (Option.some.inj e).symm

set_option maxRecDepth 100000 in
set_option maxHeartbeats 1600000 in
theorem push_any {w : World} {b : Nat} {rv : Value} {row : List T3} {next a v : Int} (h : PileIs w b rv row next) (hh : Heap row) (hl : row.length ≤ 10000) (hn0 : 0 ≤ next) (hn1 : next ≤ 1000000) :
    Calls Try.prog 18 #[.pointer (some ⟨b, 0, none⟩), .agg #[.int .i64 a, .int .i64 v]] w fun e w' => e = .returned (.int .i64 0) ∧ (∃ rv' row', PileIs w' b rv' row' (next + 1) ∧ Heap row' ∧ row'.Perm (row ++ [(a, v, next)]) ∧ (∀ g, rv'.ownBlock = some g → rv.ownBlock = some g ∨ w.heap.size ≤ g)) ∧ Tch (pfoot b rv) w w' := by
  have hx := Blk.new w 25 #[.int .i64 a, .int .i64 v]
  have tx := Tch.alloc (fun _ => False) w (.cells #[.int .i64 a, .int .i64 v] 25)
  have hk := h.keep tx id (fun _ _ => id)
  have hne := h.ne
  have hbs : b < w.heap.size := h.blk.lt
  obtain ⟨A, c, rfl, hnc, hcm, _⟩ := own_form h.rows
  have m1 : w.heap.size < (w.alloc (.cells #[.int .i64 a, .int .i64 v] 25)).heap.size := by simp
  have hcc : c ≤ 9223372036854775807 := by unfold maxLen at hcm; omega
  clear h
  go_enter Try.func18, Try.ntmps18
  go_wp2_with fail
  generalize w.alloc (.cells #[.int .i64 a, .int .i64 v] 25) = W at *
  generalize hz : w.heap.size = z at *
  have HZ := Hid.out (p := Hid (w.heap.size = z)) hz
  clear hz
  have h1 := hk.blk.cell 1
  refine (pmade_any h1).mono ?_
  rintro e w' ⟨rfl, rfl⟩
  have c0 : W.cell? ⟨b, 0, none⟩ = some (.slice A row.length c) := hk.blk.cell 0
  have l1 : (row.length : Int) < 20000 := by omega
  have l2 : decide ((20000 : Int) ≤ (row.length : Int)) = false := by simp; omega
  go_wp2_with fail
  clear l2 c0
  have c0 := within_cell (F := fun _ => False) (show W.cell? ⟨b, 0, none⟩ = some (.slice A row.length c) from hk.blk.cell 0) id
  have c2 := within_cell (F := fun _ => False) (show W.cell? ⟨b, 2, none⟩ = some (.int .i64 next) from hk.blk.cell 2) id
  have c3 := within_cell (F := fun _ => False) (show W.cell? ⟨z, 0, none⟩ = some (.int .i64 a) from hx.cell 0) id
  have c4 := within_cell (F := fun _ => False) (show W.cell? ⟨z, 1, none⟩ = some (.int .i64 v) from hx.cell 1) id
  obtain ⟨V, hV⟩ : ∃ V : Value → World → Prop, V = fun u w' => ∃ g, u = .slice (some ⟨g, 0, none⟩) 1 1 ∧ Src w' (some ⟨g, 0, none⟩) 1 1 3 (flat3 (a, v, next)) := ⟨_, rfl⟩
  have HV := Hid.out (p := Hid (V = _)) hV
  clear hV
  refine wp_region_touch (fun _ => False) [0] 12 [(11, .inr V)] [] (by kernel_rfl) rfl (by kernel_rfl) rfl (fun d _ _ _ _ h => by cases d <;> exact h) ?_ ?_
  · rw [HV.out]
    exact ⟨fun u a b' hr ⟨g, h1, h2⟩ => ⟨g, h1, h2.keep hr (fun _ _ => id)⟩, trivial⟩
  intro bef ops hbef hops
  clear hbef hops
  simp only [List.take_succ_cons, List.take_zero, List.drop_succ_cons, List.drop_zero]
  iterate 11 (refine t_det (by rfl) (by rfl) (by rfl) (by rfl) (fun K hK => ?_); go_big_quiet_op; (first | refine hK _ ?_ | refine ⟨_, fun _ => rfl, hK _ ?_⟩); clear hK K)
  refine t_loose (by rfl) (by rfl) (fun w1 hr hf => ?_) (fun u => ?_)
  · refine yields_of_wp (d := 28) rfl (by simp) (fun K hK => ?_)
    have hs := hr.size
    go_step
    refine hK _ _ ⟨⟨?_, Tch.alloc _ _ _⟩, newAt_no⟩
    rw [HV.out]
    refine ⟨_, rfl, Src.one rfl (fun j u hu => ?_)⟩
    rw [(Blk.new w1 74 #[.int .i64 a, .int .i64 v, .int .i64 next]).cell j]
    simpa [flat3] using hu
  refine t_nil ?_
  intro w1 hr hp hap
  have hv := hp _ (List.mem_singleton.2 rfl)
  dsimp only at hv
  rw [HV.out] at hv
  obtain ⟨g, rfl, hsrc⟩ := hv
  clear hap HV c0 c2 c3 c4 hp
  simp only [Act.put, List.setIfInBounds_toArray, List.set_cons_succ, List.set_cons_zero]
  have hw1 : Tch (fun _ => False) W w1 := (Tch.drew _ W).trans hr
  have hk1 := hk.keep hw1 id (fun _ _ => id)
  have tw1 := tx.trans hw1
  clear hk hx tx hw1 hr
  refine wpList_append _ rfl _ _ 65 rfl rowThings hk1.rows (by rfl) hsrc (by rfl) (flat3_one1 _) (by unfold maxLen; omega) (by omega) ?_
  intro rv2 w2 ho hg hll
  obtain ⟨A2, c2, rfl, hnc2, hcm2, _⟩ := own_form ho
  have t2 : Tch (fun j => (Value.slice A row.length c).ownBlock = some j) w1 w2 := Tch.grown hg fun j hj => .inl hj
  have b2 := hk1.blk.keep t2 hne
  have zw1 : z ≤ w1.heap.size := by rw [← HZ.out]; exact tw1.size
  have hb2 : (Value.slice A2 (row.length + 1) c2).ownBlock ≠ some b := fun e => by
    rcases hll b e with h1 | h1
    · exact hne h1
    · omega
  have tw2 : Tch (pfoot b (.slice A row.length c)) w w2 := (Exn.touch tw1).trans (t2.mono fun i _ e => .inr e)
  have hown2 : ∀ g, (Value.slice A2 (row.length + 1) c2).ownBlock = some g → (Value.slice A row.length c).ownBlock = some g ∨ z ≤ g := fun g e => (hll g e).imp id (fun h => Nat.le_trans zw1 h)
  have f0 := b2.frozen 0
  have f2 := b2.frozen 2
  have q0 : w2.cell? ⟨b, 0, none⟩ = some (.slice A row.length c) := b2.cell 0
  have q2 : w2.cell? ⟨b, 2, none⟩ = some (.int .i64 next) := b2.cell 2
  have t3 : Tch (fun j => j = b) w2 ((w2.setCell ⟨b, 0, none⟩ (.slice A2 (row.length + 1) c2)).setCell ⟨b, 2, none⟩ (.int .i64 (next + 1))) := (Tch.setCell (F := fun j => j = b) w2 (p := ⟨b, 0, none⟩) (.inl rfl) _).trans (Tch.setCell (F := fun j => j = b) _ (p := ⟨b, 2, none⟩) (.inl rfl) _)
  have hP3 : PileIs ((w2.setCell ⟨b, 0, none⟩ (.slice A2 (row.length + 1) c2)).setCell ⟨b, 2, none⟩ (.int .i64 (next + 1))) b (.slice A2 (row.length + 1) c2) (row ++ [(a, v, next)]) (next + 1) := by
    refine ⟨by simpa using (b2.set_ 0 (.slice A2 (row.length + 1) c2)).set_ 2 (.int .i64 (next + 1)), t3.own (by simpa [flat3] using ho) (fun g e e2 => hb2 (by rw [e, e2]))⟩
  have hH3 := hh.pushed (a, v, next)
  have tw3 : Tch (pfoot b (.slice A row.length c)) w _ := tw2.trans (t3.mono fun i _ e => .inl e)
  clear t3 tw2 b2 t2 hk1 tw1 ho hg hll hsrc hh
  have g0 : ((w2.setCell ⟨b, 0, none⟩ (.slice A2 (row.length + 1) c2)).setCell ⟨b, 2, none⟩ (.int .i64 (next + 1))).cell? ⟨b, 0, none⟩ = some (.slice A2 (row.length + 1) c2) := hP3.blk.cell 0
  have htail : ∀ wr row', PileIs wr b (.slice A2 (row.length + 1) c2) row' (next + 1) → row'.Perm (row ++ [(a, v, next)]) → Heap row' → Tch (pfoot b (.slice A row.length c)) w wr →
      (∃ rv' row', PileIs wr b rv' row' (next + 1) ∧ Heap row' ∧ row'.Perm (row ++ [(a, v, next)]) ∧ (∀ g, rv'.ownBlock = some g → (Value.slice A row.length c).ownBlock = some g ∨ w.heap.size ≤ g)) ∧ Tch (pfoot b (.slice A row.length c)) w wr :=
    fun wr row' h1 h2 h3 h4 => ⟨⟨_, row', h1, h3, h2, fun g e => (hown2 g e).imp id (fun h => by rw [HZ.out]; exact h)⟩, h4⟩
  have htr : ∀ wr w', Tch (pfoot b (.slice A row.length c)) w wr → Tch (pfoot b (.slice A2 (row.length + 1) c2)) wr w' → Tch (pfoot b (.slice A row.length c)) w w' := fun wr w' h1 h2 => h1.trans' h2 (fun k hk => by
    rcases hk with e | e
    · exact .inl (.inl e)
    · exact (hown2 k e).imp .inr (fun h => by rw [HZ.out]; exact h))
  have HTail := Hid.out (p := Hid _) htail
  have HTr := Hid.out (p := Hid _) htr
  clear htail htr hown2 hb2 hnc hcm hne
  go_wp2_with fail
  clear q0 q2 f0 f2 g0
  generalize (w2.setCell ⟨b, 0, none⟩ (.slice A2 (row.length + 1) c2)).setCell ⟨b, 2, none⟩ (.int .i64 (next + 1)) = w4 at *
  generalize hn : row.length = n at *
  have hlen : (row ++ [(a, v, next)]).length = n + 1 := by simp [hn]
  have HLN := Hid.out (p := Hid _) hlen
  have HNL := Hid.out (p := Hid _) hn
  clear hn hlen
  go_loopw [5] (fun i wr => ∃ (j : Nat) (row' : List T3), i = .int .i64 j ∧ j ≤ n ∧ HeapUp row' j ∧ PileIs wr b (.slice A2 (n + 1) c2) row' (next + 1) ∧ row'.Perm (row ++ [(a, v, next)]) ∧ Tch (pfoot b (.slice A n c)) w wr) (fun i _ => (intOf i).toNat)
  case atStart => exact ⟨n, _, rfl, Nat.le_refl _, hH3, hP3, List.Perm.refl _, tw3⟩
  case round =>
    obtain ⟨j, row', rfl, hj, hU, hP, hp, ht⟩ := hrel
    clear hP3 hH3 tw3
    have hl' : row'.length = n + 1 := by rw [hp.length_eq]; exact HLN.out
    by_cases hj0 : j = 0
    · subst hj0
      have hfin := HTail.out wr row' hP hp (hU.stop (fun h => absurd h (by omega))) ht
      clear hl'
      go_wp2
      go_ret
      exact ⟨rfl, by rw [HNL.out]; exact hfin⟩
    · obtain ⟨j', rfl⟩ : ∃ j', j = j' + 1 := ⟨j - 1, by omega⟩
      have hA := ahead_any hP (i := j' + 1) (k := j' / 2) (by omega) (by omega)
      have hS := swap_any hP (i := j' + 1) (k := j' / 2) (by omega) (by omega)
      have hst := HeapUp.step hU (by omega)
      have hso := HeapUp.stop hU
      have hps := swap3_perm (l := row') (i := j' + 1) (k := j' / 2) (by omega) (by omega)
      rw [show (j' + 1 - 1) / 2 = j' / 2 by omega] at hst hso
      have HL' := Hid.out (p := Hid _) hl'
      have e1 : ((j' + 1 : Nat) : Int) = (j' : Int) + 1 := by omega
      have e2 : ((j' / 2 : Nat) : Int) = (j' : Int) / 2 := by omega
      rw [e1, e2] at hA hS
      have E2 := Hid.out (p := Hid _) e2
      have hjp : (0 : Int) < (j' : Int) + 1 := by omega
      clear hl' hj0 e1 e2
      by_cases hle : le3 (g3 row' (j' / 2)) (g3 row' (j' + 1))
      · have hfin := fun w' t => HTail.out w' row' (hP.keep (w' := w') t id (fun _ _ => id)) hp (hso (fun _ => hle)) (ht.trans (Exn.touch t))
        rw [decide_eq_true hle] at hA
        have HF := Hid.out (p := Hid _) hfin
        clear hst hso hle hfin
        go_wp2_with fail
        refine hA.mono ?_
        rintro e w5 ⟨rfl, t5⟩
        go_wp2
        go_ret
        exact ⟨rfl, by rw [HNL.out]; exact HF.out w5 t5⟩
      · have hS' := fun w' t => swap_any (hP.keep (w' := w') t id (fun _ _ => id)) (i := j' + 1) (k := j' / 2) (by rw [HL'.out]; omega) (by rw [HL'.out]; omega)
        rw [decide_eq_false hle] at hA
        have hst := hst hle
        have HS := Hid.out (p := Hid _) hS'
        clear hso hle hS' hS
        go_wp2_with fail
        refine hA.mono ?_
        rintro e w5 ⟨rfl, t5⟩
        have hS := HS.out w5 t5
        have e1 : ((j' + 1 : Nat) : Int) = (j' : Int) + 1 := by omega
        rw [e1, E2.out] at hS
        clear e1
        go_wp2_with fail
        refine hS.mono ?_
        rintro e w6 ⟨rfl, hP6, t6⟩
        go_wp2_with fail
        go_roundw
        case rel => exact ⟨j' / 2, _, by rw [E2.out], by omega, hst, hP6, hps.trans hp, HTr.out _ _ (ht.trans (Exn.touch t5)) t6⟩
        case measure => simp [intOf]; omega

end Go.Proofs.Ytnknemepfjfcfaa
