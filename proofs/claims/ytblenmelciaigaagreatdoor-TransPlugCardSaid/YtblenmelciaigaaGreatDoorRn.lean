/-
  Ratios: lowest terms, turned round, multiplied.
-/
import Derived.Test.YtblenmelciaigaaGreatDoorTz
import Derived.Test.YtblenmelciaigaaGreatDoorZ55
import Derived.Test.YtblenmelciaigaaGreatDoorRc
import Derived.Test.YtblenmelciaigaaGreatDoorZ20
import Derived.Test.YtblenmelciaigaaGreatDoorZ41
namespace Go.Proofs.YtblenmelciaigaaGreatDoor
open Go.RowKit Go.Gk

set_option maxRecDepth 100000 in
set_option maxHeartbeats 3200000 in
theorem norm_any (r1 r2 : Int) (w : World) (hT : Tab64 1 w) :
    Calls Tryz.prog 147 #[.agg #[.int .i64 r1, .int .i64 r2]] w fun e w' => e = .returned (.agg #[.int .i64 (nrm (r1, r2)).1, .int .i64 (nrm (r1, r2)).2]) ∧ Tch (fun _ => False) w w' := by
  have ta := Tch.alloc (fun _ => False) w (.cells #[.int .i64 r1, .int .i64 r2] 42)
  have tb := Tch.alloc (fun _ => False) (w.alloc (.cells #[.int .i64 r1, .int .i64 r2] 42)) (.cells #[.int .i64 0, .int .i64 0] 42)
  have tw := ta.trans tb
  have bR := (Blk.new w 42 #[.int .i64 r1, .int .i64 r2]).keep tb id
  have bO := Blk.new2 w (.cells #[.int .i64 r1, .int .i64 r2] 42) 42 #[.int .i64 0, .int .i64 0]
  have HC := Lib.hid (fun w' => rcheck_any r1 r2 w')
  have HT := Lib.hid (hT.keep tw)
  have hsz : ((w.alloc (.cells #[.int .i64 r1, .int .i64 r2] 42)).alloc (.cells #[.int .i64 0, .int .i64 0] 42)).heap.size = w.heap.size + 2 := by simp
  have x0 : ((w.alloc (.cells #[.int .i64 r1, .int .i64 r2] 42)).alloc (.cells #[.int .i64 0, .int .i64 0] 42)).cell? ⟨w.heap.size, 0, none⟩ = some (.int .i64 r1) := bR.cell 0
  have x1 : ((w.alloc (.cells #[.int .i64 r1, .int .i64 r2] 42)).alloc (.cells #[.int .i64 0, .int .i64 0] 42)).cell? ⟨w.heap.size, 1, none⟩ = some (.int .i64 r2) := bR.cell 1
  clear ta tb hT
  by_cases hok : ratOK (r1, r2) = true
  · rw [if_pos hok] at HC
    obtain ⟨h1, h2, h3, h4⟩ := ratOK_iff.1 hok
    simp only at h1 h2 h3 h4
    obtain ⟨n, rfl⟩ : ∃ n : Nat, r1 = (n : Int) := ⟨r1.toNat, by omega⟩
    obtain ⟨d, rfl⟩ : ∃ d : Nat, r2 = (d : Int) := ⟨r2.toNat, by omega⟩
    rw [nrm_nat hok]
    have hG1 : 0 < Nat.gcd n d := Nat.gcd_pos_of_pos_left _ (by omega)
    have hG2 : Nat.gcd n d ≤ n := Nat.gcd_le_left _ (by omega)
    have HK := Lib.hid (fun w' (t : Tab64 1 w') => common_any n d (by omega) (by omega) (by omega) (by omega) w' t)
    generalize Nat.gcd n d = G at *
    have hn64 : IntKind.u64.wrap (n : Int) = (n : Int) := by rw [IntKind.wrap_u64]; omega
    have hd64 : IntKind.u64.wrap (d : Int) = (d : Int) := by rw [IntKind.wrap_u64]; omega
    have hg0 : ((G : Int) == 0) = false := by simp; omega
    have HQ1 := Lib.hid (show wrap64 ((n : Int) / (G : Int)) = ((n / G : Nat) : Int) by
      have h9 : n / G ≤ n := Nat.div_le_self _ _
      rw [← Int.natCast_ediv]
      generalize n / G = q at *
      unfold wrap64; omega)
    have HQ2 := Lib.hid (show wrap64 ((d : Int) / (G : Int)) = ((d / G : Nat) : Int) by
      have h9 : d / G ≤ d := Nat.div_le_self _ _
      rw [← Int.natCast_ediv]
      generalize d / G = q at *
      unfold wrap64; omega)
    generalize ((n / G : Nat) : Int) = q1 at *
    generalize ((d / G : Nat) : Int) = q2 at *
    clear hok
    go_enter Tryz.func147, Tryz.ntmps147
    go_wp2_with fail
    generalize (w.alloc (.cells #[.int .i64 n, .int .i64 d] 42)).alloc _ = W at *
    generalize hzw : w.heap.size = z at *
    have HZW := Lib.hid hzw
    clear hzw
    refine (HC.out W).mono ?_
    rintro _ w1 ⟨rfl, t1⟩
    have bR1 := bR.keep t1 id
    have bO1 := bO.keep t1 id
    have T1 := tw.trans t1
    have y0 : w1.cell? ⟨z, 0, none⟩ = some (.int .i64 (n : Int)) := bR1.cell 0
    have y1 : w1.cell? ⟨z, 1, none⟩ = some (.int .i64 (d : Int)) := bR1.cell 1
    have HKW := Lib.hid (HK.out w1 (HT.out.keep t1))
    clear HC x0 x1 bR bO HK HT tw t1
    go_wp2_with fail
    refine HKW.out.mono ?_
    rintro _ _ ⟨rfl, rfl⟩
    clear HKW y0 y1
    have y0 := within_cell (F := fun _ => False) (show w1.cell? ⟨z, 0, none⟩ = some (.int .i64 (n : Int)) from bR1.cell 0) id
    have y1 := within_cell (F := fun _ => False) (show w1.cell? ⟨z, 1, none⟩ = some (.int .i64 (d : Int)) from bR1.cell 1) id
    go_wp2_with fail
    refine wp_region_touch (fun _ => False) [] 9 [] [] (by kernel_rfl) rfl (by kernel_rfl) rfl (fun d _ _ _ _ h => by cases d <;> exact h) ?_ ?_
    · exact trivial
    (intro bef ops hbef hops; clear hbef; subst hops; simp only [List.take_succ_cons, List.take_zero, List.drop_succ_cons, List.drop_zero])
    iterate 9 (refine t_det (by rfl) (by rfl) (by rfl) (by rfl) (fun K hK => ?_); go_big_quiet_op; (first | refine hK _ ?_ | refine ⟨_, fun _ => rfl, hK _ ?_⟩); clear hK K; (try simp only [Act.put, List.setIfInBounds_toArray, List.set_cons_succ, List.set_cons_zero]))
    refine t_nil ?_
    rw [HQ1.out, HQ2.out]
    intro w2 hr hp9 hap
    have t2 := (Tch.drew (fun _ => False) w1).trans hr
    have bO2 := bO1.keep t2 id
    have T2 := T1.trans t2
    clear hap hp9 hr bR1 bO1 T1 t2 y0 y1 HQ1 HQ2 hn64 hd64 hg0 hsz
    go_wp2_with (refine wpList_store_blk rfl _ _ _ rfl (z + 1) #[.int .i64 q1, .int .i64 q2] (by rfl) (by rfl) bO2 (by kernel_rfl) rfl (by simp [Value.oneCell']) ?_; refine Hid.out ?_)
    refine Lib.hid ?_
    intro w9 hF tF
    have HBF := Lib.hid hF
    have HTF := Lib.hid tF
    clear hF tF bO2
    go_wp2
    (try simp only [Exit.inBlock, Exit.then])
    (try rw [Exit.noGoto_ret])
    refine bodyPost_ret (results_cell_row (P := Tryz.prog) rfl _ _ (z + 1) 42 _ (0, 0) _ rfl HBF.out Tryz.underlying42 rfl (by kernel_rfl)) rfl ?_
    exact ⟨rfl, T2.trans' (F' := fun g => g = z + 1) HTF.out (fun i hi => .inr (by have hi : i = z + 1 := hi; have := HZW.out; omega))⟩
  · rw [if_neg hok] at HC
    have HN := Lib.hid (show nrm (r1, r2) = (0, 0) by unfold nrm; rw [if_neg hok])
    rw [HN.out]
    clear hok
    simp only
    go_enter Tryz.func147, Tryz.ntmps147
    go_wp2_with fail
    generalize (w.alloc (.cells #[.int .i64 r1, .int .i64 r2] 42)).alloc _ = W at *
    generalize hzw : w.heap.size = z at *
    have HZW := Lib.hid hzw
    clear hzw
    refine (HC.out W).mono ?_
    rintro _ w1 ⟨rfl, t1⟩
    have bO1 := bO.keep t1 id
    have T1 := tw.trans t1
    clear HC x0 x1 bR bO HT tw t1
    go_wp2_with (refine wpList_store_blk rfl _ _ _ rfl (z + 1) #[.int .i64 0, .int .i64 0] (by rfl) (by rfl) bO1 (by kernel_rfl) rfl (by simp [Value.oneCell']) ?_; refine Hid.out ?_)
    refine Lib.hid ?_
    intro w9 hF tF
    have HBF := Lib.hid hF
    have HTF := Lib.hid tF
    clear hF tF bO1
    go_wp2
    (try simp only [Exit.inBlock, Exit.then])
    (try rw [Exit.noGoto_ret])
    refine bodyPost_ret (results_cell_row (P := Tryz.prog) rfl _ _ (z + 1) 42 _ (0, 0) _ rfl HBF.out Tryz.underlying42 rfl (by kernel_rfl)) rfl ?_
    exact ⟨rfl, T1.trans' (F' := fun g => g = z + 1) HTF.out (fun i hi => .inr (by have hi : i = z + 1 := hi; have := HZW.out; omega))⟩
-- turned round
set_option maxRecDepth 100000 in
set_option maxHeartbeats 1600000 in
theorem inverse_any (r1 r2 : Int) (w : World) (hT : Tab64 1 w) :
    Calls Tryz.prog 118 #[.agg #[.int .i64 r1, .int .i64 r2]] w fun e w' => e = .returned (.tuple #[.agg #[.int .i64 (invOf (r1, r2)).1.1, .int .i64 (invOf (r1, r2)).1.2], .int .i64 (invOf (r1, r2)).2]) ∧ Tch (fun _ => False) w w' := by
  have ta := Tch.alloc (fun _ => False) w (.cells #[.int .i64 r1, .int .i64 r2] 42)
  have tb := Tch.alloc (fun _ => False) (w.alloc (.cells #[.int .i64 r1, .int .i64 r2] 42)) (.cells #[.int .i64 0, .int .i64 0] 42)
  have tw := ta.trans tb
  have bR := (Blk.new w 42 #[.int .i64 r1, .int .i64 r2]).keep tb id
  have bO := Blk.new2 w (.cells #[.int .i64 r1, .int .i64 r2] 42) 42 #[.int .i64 0, .int .i64 0]
  have HC := Lib.hid (fun w' => rcheck_any r1 r2 w')
  have HT := Lib.hid (hT.keep tw)
  have x0 : ((w.alloc (.cells #[.int .i64 r1, .int .i64 r2] 42)).alloc (.cells #[.int .i64 0, .int .i64 0] 42)).cell? ⟨w.heap.size, 0, none⟩ = some (.int .i64 r1) := bR.cell 0
  have x1 : ((w.alloc (.cells #[.int .i64 r1, .int .i64 r2] 42)).alloc (.cells #[.int .i64 0, .int .i64 0] 42)).cell? ⟨w.heap.size, 1, none⟩ = some (.int .i64 r2) := bR.cell 1
  have HN := Lib.hid (fun w' (t : Tab64 1 w') => norm_any r2 r1 w' t)
  have HIV := Lib.hid (show invOf (r1, r2) = if ratOK (r1, r2) = true then (nrm (r2, r1), 0) else ((0, 0), 11) from rfl)
  rw [HIV.out]
  generalize nrm (r2, r1) = N at *
  obtain ⟨n1, n2⟩ := N
  clear ta tb hT HIV
  by_cases hok : ratOK (r1, r2) = true
  · rw [if_pos hok] at HC ⊢
    simp only at HN ⊢
    clear hok
    go_enter Tryz.func118, Tryz.ntmps118
    go_wp2_with fail
    generalize (w.alloc (.cells #[.int .i64 r1, .int .i64 r2] 42)).alloc _ = W at *
    generalize hzw : w.heap.size = z at *
    have HZW := Lib.hid hzw
    clear hzw
    refine (HC.out W).mono ?_
    rintro _ w1 ⟨rfl, t1⟩
    have bR1 := bR.keep t1 id
    have bO1 := bO.keep t1 id
    have T1 := tw.trans t1
    have y0 : w1.cell? ⟨z, 0, none⟩ = some (.int .i64 r1) := bR1.cell 0
    have y1 : w1.cell? ⟨z, 1, none⟩ = some (.int .i64 r2) := bR1.cell 1
    have HN1 := Lib.hid (HN.out w1 (HT.out.keep t1))
    clear HC x0 x1 bR bO HT tw t1 HN
    go_wp2_with fail
    refine HN1.out.mono ?_
    rintro _ w2 ⟨rfl, t2⟩
    have bO2 := bO1.keep t2 id
    have T2 := T1.trans t2
    clear HN1 y0 y1 bR1 bO1 T1 t2
    go_wp2_with (refine wpList_store_blk rfl _ _ _ rfl (z + 1) #[.int .i64 n1, .int .i64 n2] (by rfl) (by rfl) bO2 (by kernel_rfl) rfl (by simp [Value.oneCell']) ?_; refine Hid.out ?_)
    refine Lib.hid ?_
    intro w9 hF tF
    have HBF := Lib.hid hF
    have HTF := Lib.hid tF
    clear hF tF bO2
    go_wp2
    (try simp only [Exit.inBlock, Exit.then])
    (try rw [Exit.noGoto_ret])
    refine bodyPost_ret (results_row_tmp (P := Tryz.prog) rfl _ _ (z + 1) 42 _ (0, 0) _ rfl HBF.out Tryz.underlying42 rfl (by kernel_rfl)) rfl ?_
    exact ⟨rfl, T2.trans' (F' := fun g => g = z + 1) HTF.out (fun i hi => .inr (by have hi : i = z + 1 := hi; have := HZW.out; omega))⟩
  · rw [if_neg hok] at HC ⊢
    simp only
    clear hok
    go_enter Tryz.func118, Tryz.ntmps118
    go_wp2_with fail
    generalize (w.alloc (.cells #[.int .i64 r1, .int .i64 r2] 42)).alloc _ = W at *
    generalize hzw : w.heap.size = z at *
    have HZW := Lib.hid hzw
    clear hzw
    refine (HC.out W).mono ?_
    rintro _ w1 ⟨rfl, t1⟩
    have bO1 := bO.keep t1 id
    have T1 := tw.trans t1
    clear HC x0 x1 bR bO HT tw t1 HN
    go_wp2_with (refine wpList_store_blk rfl _ _ _ rfl (z + 1) #[.int .i64 0, .int .i64 0] (by rfl) (by rfl) bO1 (by kernel_rfl) rfl (by simp [Value.oneCell']) ?_; refine Hid.out ?_)
    refine Lib.hid ?_
    intro w9 hF tF
    have HBF := Lib.hid hF
    have HTF := Lib.hid tF
    clear hF tF bO1
    go_wp2
    (try simp only [Exit.inBlock, Exit.then])
    (try rw [Exit.noGoto_ret])
    refine bodyPost_ret (results_row_tmp (P := Tryz.prog) rfl _ _ (z + 1) 42 _ (0, 0) _ rfl HBF.out Tryz.underlying42 rfl (by kernel_rfl)) rfl ?_
    exact ⟨rfl, T1.trans' (F' := fun g => g = z + 1) HTF.out (fun i hi => .inr (by have hi : i = z + 1 := hi; have := HZW.out; omega))⟩
set_option maxRecDepth 100000 in
set_option maxHeartbeats 6400000 in
theorem times_any (a1 a2 b1 b2 : Int) (w : World) (hT : Tab64 1 w) :
    Calls Tryz.prog 119 #[.agg #[.int .i64 a1, .int .i64 a2], .agg #[.int .i64 b1, .int .i64 b2]] w fun e w' => e = .returned (.tuple #[.agg #[.int .i64 (timesOf (a1, a2) (b1, b2)).1.1, .int .i64 (timesOf (a1, a2) (b1, b2)).1.2], .int .i64 (timesOf (a1, a2) (b1, b2)).2]) ∧ Tch (fun _ => False) w w' := by
  have ta := Tch.alloc (fun _ => False) w (.cells #[.int .i64 a1, .int .i64 a2] 42)
  have tb := Tch.alloc (fun _ => False) (w.alloc (.cells #[.int .i64 a1, .int .i64 a2] 42)) (.cells #[.int .i64 b1, .int .i64 b2] 42)
  have tc := Tch.alloc (fun _ => False) ((w.alloc (.cells #[.int .i64 a1, .int .i64 a2] 42)).alloc (.cells #[.int .i64 b1, .int .i64 b2] 42)) (.cells #[.int .i64 0, .int .i64 0] 42)
  have tw := (ta.trans tb).trans tc
  have bA := ((Blk.new w 42 #[.int .i64 a1, .int .i64 a2]).keep tb id).keep tc id
  have bB := (Blk.new2 w (.cells #[.int .i64 a1, .int .i64 a2] 42) 42 #[.int .i64 b1, .int .i64 b2]).keep tc id
  have bO : Blk (((w.alloc (.cells #[.int .i64 a1, .int .i64 a2] 42)).alloc (.cells #[.int .i64 b1, .int .i64 b2] 42)).alloc (.cells #[.int .i64 0, .int .i64 0] 42)) (w.heap.size + 1 + 1) 42 #[.int .i64 0, .int .i64 0] := by simpa using Blk.new ((w.alloc (.cells #[.int .i64 a1, .int .i64 a2] 42)).alloc (.cells #[.int .i64 b1, .int .i64 b2] 42)) 42 #[.int .i64 0, .int .i64 0]
  have HCA := Lib.hid (fun w' => rcheck_any a1 a2 w')
  have HCB := Lib.hid (fun w' => rcheck_any b1 b2 w')
  have HT := Lib.hid (hT.keep tw)
  have HTZ := Lib.hid (fun w' (t : Tch (fun _ => False) w w') => hT.keep t)
  have x0 : (((w.alloc (.cells #[.int .i64 a1, .int .i64 a2] 42)).alloc (.cells #[.int .i64 b1, .int .i64 b2] 42)).alloc (.cells #[.int .i64 0, .int .i64 0] 42)).cell? ⟨w.heap.size, 0, none⟩ = some (.int .i64 a1) := bA.cell 0
  have x1 : (((w.alloc (.cells #[.int .i64 a1, .int .i64 a2] 42)).alloc (.cells #[.int .i64 b1, .int .i64 b2] 42)).alloc (.cells #[.int .i64 0, .int .i64 0] 42)).cell? ⟨w.heap.size, 1, none⟩ = some (.int .i64 a2) := bA.cell 1
  have HTO := Lib.hid (show timesOf (a1, a2) (b1, b2) = if ratOK (a1, a2) = true ∧ ratOK (b1, b2) = true then (if (crs (a1, a2) (b1, b2)).1 ≤ 1000000000000 ∧ (crs (a1, a2) (b1, b2)).2 ≤ 1000000000000 then (crs (a1, a2) (b1, b2), 0) else ((0, 0), 10)) else ((0, 0), 11) from rfl)
  rw [HTO.out]
  clear ta tb tc hT HTO
  by_cases hA : ratOK (a1, a2) = true
  rotate_left
  · rw [if_neg (fun h => hA h.1)]
    rw [if_neg hA] at HCA
    simp only
    clear hA
    go_enter Tryz.func119, Tryz.ntmps119
    go_wp2_with fail
    generalize ((w.alloc (.cells #[.int .i64 a1, .int .i64 a2] 42)).alloc (.cells #[.int .i64 b1, .int .i64 b2] 42)).alloc _ = W at *
    generalize hzw : w.heap.size = z at *
    have HZW := Lib.hid hzw
    clear hzw
    refine (HCA.out W).mono ?_
    rintro _ w1 ⟨rfl, t1⟩
    have bA1 := bA.keep t1 id
    have bB1 := bB.keep t1 id
    have bO1 := bO.keep t1 id
    have T1 := tw.trans t1
    have HT1 := Lib.hid (HT.out.keep t1)
    clear HCA x0 x1 bA bB bO HT tw t1
    go_wp2_with (refine wpList_store_blk rfl _ _ _ rfl (z + 1 + 1) #[.int .i64 0, .int .i64 0] (by rfl) (by rfl) bO1 (by kernel_rfl) rfl (by simp [Value.oneCell']) ?_; refine Hid.out ?_)
    refine Lib.hid ?_
    intro w9 hF tF
    have HBF := Lib.hid hF
    have HTF := Lib.hid tF
    clear hF tF bO1
    go_wp2
    (try simp only [Exit.inBlock, Exit.then])
    (try rw [Exit.noGoto_ret])
    refine bodyPost_ret (results_row_tmp (P := Tryz.prog) rfl _ _ (z + 1 + 1) 42 _ (0, 0) _ rfl HBF.out Tryz.underlying42 rfl (by kernel_rfl)) rfl ?_
    exact ⟨rfl, T1.trans' (F' := fun g => g = z + 1 + 1) HTF.out (fun i hi => .inr (by have hi : i = z + 1 + 1 := hi; have := HZW.out; omega))⟩
  rw [if_pos hA] at HCA
  by_cases hB : ratOK (b1, b2) = true
  rotate_left
  · rw [if_neg (fun h => hB h.2)]
    rw [if_neg hB] at HCB
    simp only
    clear hA hB
    go_enter Tryz.func119, Tryz.ntmps119
    go_wp2_with fail
    generalize ((w.alloc (.cells #[.int .i64 a1, .int .i64 a2] 42)).alloc (.cells #[.int .i64 b1, .int .i64 b2] 42)).alloc _ = W at *
    generalize hzw : w.heap.size = z at *
    have HZW := Lib.hid hzw
    clear hzw
    refine (HCA.out W).mono ?_
    rintro _ w1 ⟨rfl, t1⟩
    have bA1 := bA.keep t1 id
    have bB1 := bB.keep t1 id
    have bO1 := bO.keep t1 id
    have T1 := tw.trans t1
    have HT1 := Lib.hid (HT.out.keep t1)
    clear HCA x0 x1 bA bB bO HT tw t1
    have p0 : w1.cell? ⟨z + 1, 0, none⟩ = some (.int .i64 b1) := bB1.cell 0
    have p1 : w1.cell? ⟨z + 1, 1, none⟩ = some (.int .i64 b2) := bB1.cell 1
    go_wp2_with fail
    refine (HCB.out w1).mono ?_
    rintro _ w2 ⟨rfl, t2⟩
    have bA2 := bA1.keep t2 id
    have bB2 := bB1.keep t2 id
    have bO2 := bO1.keep t2 id
    have T2 := T1.trans t2
    have HT2 := Lib.hid (HT1.out.keep t2)
    clear HCB p0 p1 bA1 bB1 bO1 T1 HT1 t2
    go_wp2_with (refine wpList_store_blk rfl _ _ _ rfl (z + 1 + 1) #[.int .i64 0, .int .i64 0] (by rfl) (by rfl) bO2 (by kernel_rfl) rfl (by simp [Value.oneCell']) ?_; refine Hid.out ?_)
    refine Lib.hid ?_
    intro w9 hF tF
    have HBF := Lib.hid hF
    have HTF := Lib.hid tF
    clear hF tF bO2
    go_wp2
    (try simp only [Exit.inBlock, Exit.then])
    (try rw [Exit.noGoto_ret])
    refine bodyPost_ret (results_row_tmp (P := Tryz.prog) rfl _ _ (z + 1 + 1) 42 _ (0, 0) _ rfl HBF.out Tryz.underlying42 rfl (by kernel_rfl)) rfl ?_
    exact ⟨rfl, T2.trans' (F' := fun g => g = z + 1 + 1) HTF.out (fun i hi => .inr (by have hi : i = z + 1 + 1 := hi; have := HZW.out; omega))⟩
  rw [if_pos hB] at HCB
  rw [if_pos ⟨hA, hB⟩]
  have hokx := nrm_ok (ratOK_mk (nrm_ok hA) (nrm_ok hB))
  have hoky := nrm_ok (ratOK_mk (nrm_ok hB) (nrm_ok hA))
  have HNA := Lib.hid (fun w' (t : Tab64 1 w') => norm_any a1 a2 w' t)
  have HNB := Lib.hid (fun w' (t : Tab64 1 w') => norm_any b1 b2 w' t)
  have HNX := Lib.hid (fun w' (t : Tab64 1 w') => norm_any (nrm (a1, a2)).1 (nrm (b1, b2)).2 w' t)
  have HNY := Lib.hid (fun w' (t : Tab64 1 w') => norm_any (nrm (b1, b2)).1 (nrm (a1, a2)).2 w' t)
  unfold crs
  generalize nrm (a1, a2) = NA at *
  generalize nrm (b1, b2) = NB at *
  obtain ⟨n1, n2⟩ := NA
  obtain ⟨m1, m2⟩ := NB
  simp only at hokx hoky HNX HNY HNA HNB ⊢
  generalize nrm (n1, m2) = NX at *
  generalize nrm (m1, n2) = NY at *
  obtain ⟨x1, x2⟩ := NX
  obtain ⟨y1, y2⟩ := NY
  simp only at HNX HNY ⊢
  obtain ⟨e1, e2, e3, e4⟩ := ratOK_iff.1 hokx
  obtain ⟨f1, f2, f3, f4⟩ := ratOK_iff.1 hoky
  simp only at e1 e2 e3 e4 f1 f2 f3 f4
  have HM1 := Lib.hid (fun w' => mulw_any x1 y1 (by omega) (by omega) w')
  have HM2 := Lib.hid (fun w' => mulw_any x2 y2 (by omega) (by omega) w')
  have hP1 : 0 < x1 * y1 := Int.mul_pos (by omega) (by omega)
  have hP2 : 0 < x2 * y2 := Int.mul_pos (by omega) (by omega)
  generalize x1 * y1 = P1 at *
  generalize x2 * y2 = P2 at *
  have HI1 := Lib.hid (fun w' => intw_any P1 w')
  have HI2 := Lib.hid (fun w' => intw_any P2 w')
  have h10 : (10 : Int) ≠ 0 := by decide
  have K1 : P1 ≤ 1000000000000 → told2 P1 = (P1, 0) := fun h => if_pos (by omega)
  have K2 : P2 ≤ 1000000000000 → told2 P2 = (P2, 0) := fun h => if_pos (by omega)
  have J1 : told2 P1 = (P1, 0) ∨ (told2 P1 = (0, 10) ∧ ¬ P1 ≤ 1000000000000) := by
    by_cases h : -9223372036854775808 ≤ P1 ∧ P1 ≤ 9223372036854775807
    · exact .inl (if_pos h)
    · exact .inr ⟨if_neg h, by omega⟩
  have J2 : told2 P2 = (P2, 0) ∨ (told2 P2 = (0, 10) ∧ ¬ P2 ≤ 1000000000000) := by
    by_cases h : -9223372036854775808 ≤ P2 ∧ P2 ≤ 9223372036854775807
    · exact .inl (if_pos h)
    · exact .inr ⟨if_neg h, by omega⟩
  have HJ1 := Lib.hid J1
  have HJ2 := Lib.hid J2
  have HP1 := Lib.hid hP1
  have HP2 := Lib.hid hP2
  clear hA hB hokx hoky e1 e2 e3 e4 f1 f2 f3 f4 K1 K2 J1 J2 h10 hP1 hP2
  have HQ : Hid (∃ t1 c1 t2 c2 : Int, told2 P1 = (t1, c1) ∧ told2 P2 = (t2, c2)) := Lib.hid ⟨_, _, _, _, rfl, rfl⟩
  obtain ⟨t1', c1, t2', c2, hq1, hq2⟩ := HQ.out
  rw [hq1] at HI1 HJ1
  rw [hq2] at HI2 HJ2
  clear HQ hq1 hq2
  simp only at HI1 HI2
  generalize hAV : (if P1 ≤ 1000000000000 ∧ P2 ≤ 1000000000000 then (((P1, P2), (0 : Int)) : (Int × Int) × Int) else ((0, 0), 10)) = AV at *
  have HAV := Lib.hid hAV
  clear hAV
  obtain ⟨⟨v1, v2⟩, v3⟩ := AV
  simp only
  go_enter Tryz.func119, Tryz.ntmps119
  go_wp2_with fail
  generalize ((w.alloc (.cells #[.int .i64 a1, .int .i64 a2] 42)).alloc (.cells #[.int .i64 b1, .int .i64 b2] 42)).alloc _ = W at *
  generalize hzw : w.heap.size = z at *
  have HZW := Lib.hid hzw
  clear hzw
  refine (HCA.out W).mono ?_
  rintro _ w1 ⟨rfl, t1⟩
  have bA1 := bA.keep t1 id
  have bB1 := bB.keep t1 id
  have bO1 := bO.keep t1 id
  have T1 := tw.trans t1
  have HT1 := Lib.hid (HT.out.keep t1)
  clear HCA x0 x1 bA bB bO HT tw t1
  have p0 : w1.cell? ⟨z + 1, 0, none⟩ = some (.int .i64 b1) := bB1.cell 0
  have p1 : w1.cell? ⟨z + 1, 1, none⟩ = some (.int .i64 b2) := bB1.cell 1
  go_wp2_with fail
  refine (HCB.out w1).mono ?_
  rintro _ w2 ⟨rfl, t2⟩
  have bA2 := bA1.keep t2 id
  have bB2 := bB1.keep t2 id
  have bO2 := bO1.keep t2 id
  have T2 := T1.trans t2
  have HT2 := Lib.hid (HT1.out.keep t2)
  clear HCB p0 p1 bA1 bB1 bO1 T1 HT1 t2
  have T2' := Lib.hid T2
  have u0 := within_cell (F := fun _ => False) (show w2.cell? ⟨z, 0, none⟩ = some (.int .i64 a1) from bA2.cell 0) id
  have u1 := within_cell (F := fun _ => False) (show w2.cell? ⟨z, 1, none⟩ = some (.int .i64 a2) from bA2.cell 1) id
  have v0 := within_cell (F := fun _ => False) (show w2.cell? ⟨z + 1, 0, none⟩ = some (.int .i64 b1) from bB2.cell 0) id
  have v1 := within_cell (F := fun _ => False) (show w2.cell? ⟨z + 1, 1, none⟩ = some (.int .i64 b2) from bB2.cell 1) id
  have HNA2 := Lib.hid (fun w' (t : Tch (fun _ => False) w2 w') => HNA.out w' (HT2.out.keep t))
  go_wp2_with fail
  refine wp_region_touch (fun _ => False) [] 3 [(1, .inl (.agg #[.int .i64 n1, .int .i64 n2]))] [] (by kernel_rfl) rfl (by kernel_rfl) rfl (fun d _ _ _ _ h => by cases d <;> exact h) ?_ ?_
  · exact trivial
  (intro bef ops hbef hops; clear hbef; subst hops; simp only [List.take_succ_cons, List.take_zero, List.drop_succ_cons, List.drop_zero])
  iterate 1 (refine t_det (by rfl) (by rfl) (by rfl) (by rfl) (fun K hK => ?_); go_big_quiet_op; (first | refine hK _ ?_ | refine ⟨_, fun _ => rfl, hK _ ?_⟩); clear hK K; (try simp only [Act.put, List.setIfInBounds_toArray, List.set_cons_succ, List.set_cons_zero]))
  refine t_fix (.agg #[.int .i64 n1, .int .i64 n2]) (by rfl) (by rfl) (fun wa hr hf => ?_) ?_
  · refine yields_of_wp (d := 22) rfl (by simp) (fun K hK => ?_)
    go_step
    refine (HNA2.out wa ((Tch.drew _ w2).trans hr)).mono ?_
    rintro _ wb ⟨rfl, t3⟩
    exact hK _ _ ⟨⟨rfl, t3⟩, newAt_no⟩
  simp only [Act.put, List.setIfInBounds_toArray, List.set_cons_succ, List.set_cons_zero]
  iterate 1 (refine t_det (by rfl) (by rfl) (by rfl) (by rfl) (fun K hK => ?_); go_big_quiet_op; (first | refine hK _ ?_ | refine ⟨_, fun _ => rfl, hK _ ?_⟩); clear hK K; (try simp only [Act.put, List.setIfInBounds_toArray, List.set_cons_succ, List.set_cons_zero]))
  refine t_nil ?_
  intro w3 hr hp9 hap
  have t3 := (Tch.drew (fun _ => False) w2).trans hr
  have bA3 := bA2.keep t3 id
  have bB3 := bB2.keep t3 id
  have bO3 := bO2.keep t3 id
  have T3 := T2'.out.trans t3
  have HT3 := Lib.hid (HT2.out.keep t3)
  have HNB3 := Lib.hid (HNB.out w3 HT3.out)
  clear hap hp9 hr u0 u1 v0 v1 HNA2 bA2 bB2 bO2 T2 T2' HT2 t3 HNA HNB
  go_wp2_with fail
  refine HNB3.out.mono ?_
  rintro _ w4 ⟨rfl, t4⟩
  have bA4 := bA3.keep t4 id
  have bB4 := bB3.keep t4 id
  have bO4 := bO3.keep t4 id
  have T4 := T3.trans t4
  have HT4 := Lib.hid (HT3.out.keep t4)
  clear HNB3 bA3 bB3 bO3 T3 HT3 t4
  go_wp2_with (refine wpList_store_blk rfl _ _ _ rfl z #[.int .i64 n1, .int .i64 n2] (by rfl) (by rfl) bA4 (by kernel_rfl) rfl (by simp [Value.oneCell']) ?_; refine Hid.out ?_)
  refine Lib.hid ?_
  intro w5 bA5 ts5
  have bB5 := bB4.keep ts5 (by omega)
  have bO5 := bO4.keep ts5 (by omega)
  have hz5 : z + 2 < w5.heap.size := bO5.lt
  have T5 := T4.trans' ts5 (fun i hi => .inr (by have hi : i = z := hi; have := HZW.out; omega))
  have HT5 := Lib.hid (HTZ.out w5 T5)
  clear bA4 bB4 bO4 T4 HT4 ts5
  go_wp2_with (refine wpList_store_blk rfl _ _ _ rfl (z + 1) #[.int .i64 m1, .int .i64 m2] (by rfl) (by rfl) bB5 (by kernel_rfl) rfl (by simp [Value.oneCell']) ?_; refine Hid.out ?_)
  refine Lib.hid ?_
  intro w6 bB6 ts6
  have bA6 := bA5.keep ts6 (by omega)
  have bO6 := bO5.keep ts6 (by omega)
  have T6 := T5.trans' ts6 (fun i hi => .inr (by have hi : i = z + 1 := hi; have := HZW.out; omega))
  clear bA5 bB5 bO5 T5 HT5 ts6
  have u0 := within_cell (F := fun _ => False) (show w6.cell? ⟨z, 0, none⟩ = some (.int .i64 n1) from bA6.cell 0) id
  have u1 := within_cell (F := fun _ => False) (show w6.cell? ⟨z, 1, none⟩ = some (.int .i64 n2) from bA6.cell 1) id
  have v0 := within_cell (F := fun _ => False) (show w6.cell? ⟨z + 1, 0, none⟩ = some (.int .i64 m1) from bB6.cell 0) id
  have v1 := within_cell (F := fun _ => False) (show w6.cell? ⟨z + 1, 1, none⟩ = some (.int .i64 m2) from bB6.cell 1) id
  have HX6 := Lib.hid (fun w' (t : Tch (fun _ => False) w6 w') => HNX.out w' (HTZ.out w' (T6.trans t)))
  have HY6 := Lib.hid (fun w' (t : Tch (fun _ => False) w6 w') => HNY.out w' (HTZ.out w' (T6.trans t)))
  go_wp2_with fail
  refine wp_region_touch (fun _ => False) [] 14 [(5, .inl (.agg #[.int .i64 x1, .int .i64 x2])), (11, .inl (.agg #[.int .i64 y1, .int .i64 y2])), (12, .inr fun u w' => ∃ g, u = .pointer (some ⟨g, 0, none⟩) ∧ w6.heap.size ≤ g ∧ Blk w' g 42 #[.int .i64 0, .int .i64 0]), (13, .inr fun u w' => ∃ g, u = .pointer (some ⟨g, 0, none⟩) ∧ w6.heap.size ≤ g ∧ Blk w' g 42 #[.int .i64 0, .int .i64 0])] [12, 13] (by kernel_rfl) rfl (by kernel_rfl) rfl (fun d _ _ _ _ h => by cases d <;> exact h) ?_ ?_
  · exact ⟨fun u a b hr ⟨g, e, h1, h2⟩ => ⟨g, e, h1, h2.keep hr id⟩, fun u a b hr ⟨g, e, h1, h2⟩ => ⟨g, e, h1, h2.keep hr id⟩, trivial⟩
  (intro bef ops hbef hops; clear hbef; subst hops; simp only [List.take_succ_cons, List.take_zero, List.drop_succ_cons, List.drop_zero])
  iterate 5 (refine t_det (by rfl) (by rfl) (by rfl) (by rfl) (fun K hK => ?_); go_big_quiet_op; (first | refine hK _ ?_ | refine ⟨_, fun _ => rfl, hK _ ?_⟩); clear hK K; (try simp only [Act.put, List.setIfInBounds_toArray, List.set_cons_succ, List.set_cons_zero]))
  refine t_fix (.agg #[.int .i64 x1, .int .i64 x2]) (by rfl) (by rfl) (fun wa hr hf => ?_) ?_
  · refine yields_of_wp (d := 30) rfl (by simp) (fun K hK => ?_)
    go_step
    refine (HX6.out wa ((Tch.drew _ w6).trans hr)).mono ?_
    rintro _ wb ⟨rfl, t3⟩
    exact hK _ _ ⟨⟨rfl, t3⟩, newAt_no⟩
  simp only [Act.put, List.setIfInBounds_toArray, List.set_cons_succ, List.set_cons_zero]
  iterate 5 (refine t_det (by rfl) (by rfl) (by rfl) (by rfl) (fun K hK => ?_); go_big_quiet_op; (first | refine hK _ ?_ | refine ⟨_, fun _ => rfl, hK _ ?_⟩); clear hK K; (try simp only [Act.put, List.setIfInBounds_toArray, List.set_cons_succ, List.set_cons_zero]))
  refine t_fix (.agg #[.int .i64 y1, .int .i64 y2]) (by rfl) (by rfl) (fun wa hr hf => ?_) ?_
  · refine yields_of_wp (d := 36) rfl (by simp) (fun K hK => ?_)
    go_step
    refine (HY6.out wa ((Tch.drew _ w6).trans hr)).mono ?_
    rintro _ wb ⟨rfl, t3⟩
    exact hK _ _ ⟨⟨rfl, t3⟩, newAt_no⟩
  simp only [Act.put, List.setIfInBounds_toArray, List.set_cons_succ, List.set_cons_zero]
  refine t_loose (by rfl) (by rfl) (fun wa hr hf => ?_) (fun d1 => ?_)
  · refine yields_of_wp (d := 6) rfl (by simp) (fun K hK => ?_)
    go_step
    refine hK _ _ ⟨⟨⟨_, rfl, ((Tch.drew (fun _ => False) w6).trans hr).size, Blk.new _ _ _⟩, Tch.alloc _ _ _⟩, fun _ g hg => ?_⟩
    injection hg with hg
    subst hg
    exact ⟨Nat.le_refl _, by simp⟩
  simp only [Act.put, List.setIfInBounds_toArray, List.set_cons_succ, List.set_cons_zero]
  refine t_loose (by rfl) (by rfl) (fun wa hr hf => ?_) (fun d2 => ?_)
  · refine yields_of_wp (d := 7) rfl (by simp) (fun K hK => ?_)
    go_step
    refine hK _ _ ⟨⟨⟨_, rfl, ((Tch.drew (fun _ => False) w6).trans hr).size, Blk.new _ _ _⟩, Tch.alloc _ _ _⟩, fun _ g hg => ?_⟩
    injection hg with hg
    subst hg
    exact ⟨Nat.le_refl _, by simp⟩
  simp only [Act.put, List.setIfInBounds_toArray, List.set_cons_succ, List.set_cons_zero]
  refine t_nil ?_
  intro w7 hr hp9 hap
  have t7 := (Tch.drew (fun _ => False) w6).trans hr
  obtain ⟨g2, rfl, hg2, hG2⟩ := hp9 _ (List.mem_cons_self ..)
  obtain ⟨g1, rfl, hg1, hG1⟩ := hp9 _ (List.mem_cons_of_mem _ (List.mem_cons_self ..))
  have hne : g2 ≠ g1 := fun e => hap 12 13 6 7 (by decide) (by decide) rfl rfl (by decide) rfl rfl g1 rfl (by rw [← e]; rfl)
  have bO7 := bO6.keep t7 id
  have T7 := T6.trans t7
  have hz6 : z + 2 < w6.heap.size := bO6.lt
  clear hap hp9 hr u0 u1 v0 v1 HX6 HY6 bA6 bB6 bO6 t7 HNX HNY
  go_wp2_with (refine wpList_store_blk rfl _ _ _ rfl g1 #[.int .i64 x1, .int .i64 x2] (by rfl) (by rfl) hG1 (by kernel_rfl) rfl (by simp [Value.oneCell']) ?_; refine Hid.out ?_)
  refine Lib.hid ?_
  intro w8 bX8 ts8
  have bY8 := hG2.keep ts8 hne
  have bO8 := bO7.keep ts8 (by omega)
  have T8 := T7.trans' ts8 (fun i hi => .inr (by have hi : i = g1 := hi; have := T6.size; omega))
  clear hG1 hG2 bO7 T7 ts8
  go_wp2_with (refine wpList_store_blk rfl _ _ _ rfl g2 #[.int .i64 y1, .int .i64 y2] (by rfl) (by rfl) bY8 (by kernel_rfl) rfl (by simp [Value.oneCell']) ?_; refine Hid.out ?_)
  refine Lib.hid ?_
  intro w9 bY9 ts9
  have bX9 := bX8.keep ts9 (fun e => hne e.symm)
  have bO9 := bO8.keep ts9 (by omega)
  have T9 := T8.trans' ts9 (fun i hi => .inr (by have hi : i = g2 := hi; have := T6.size; omega))
  have p0 : w9.cell? ⟨g1, 0, none⟩ = some (.int .i64 x1) := bX9.cell 0
  have p1 : w9.cell? ⟨g1, 1, none⟩ = some (.int .i64 x2) := bX9.cell 1
  have q0 : w9.cell? ⟨g2, 0, none⟩ = some (.int .i64 y1) := bY9.cell 0
  have q1 : w9.cell? ⟨g2, 1, none⟩ = some (.int .i64 y2) := bY9.cell 1
  clear bX8 bY8 bO8 T8 ts9 hne hg1 hg2 T6
  go_wp2_with fail
  refine (HM1.out w9).mono ?_
  rintro _ wa ⟨rfl, ta⟩
  go_wp2_with fail
  refine (HI1.out wa).mono ?_
  rintro _ wb ⟨rfl, tb⟩
  have tab := ta.trans tb
  have bXb := bX9.keep tab id
  have bYb := bY9.keep tab id
  have bOb := bO9.keep tab id
  have Tb := T9.trans tab
  have r0 : wb.cell? ⟨g1, 0, none⟩ = some (.int .i64 x1) := bXb.cell 0
  have r1 : wb.cell? ⟨g1, 1, none⟩ = some (.int .i64 x2) := bXb.cell 1
  have s0 : wb.cell? ⟨g2, 0, none⟩ = some (.int .i64 y1) := bYb.cell 0
  have s1 : wb.cell? ⟨g2, 1, none⟩ = some (.int .i64 y2) := bYb.cell 1
  clear p0 p1 q0 q1 bX9 bY9 bO9 T9 ta tb tab HM1 HI1
  go_wp2_with fail
  refine (HM2.out wb).mono ?_
  rintro _ wc ⟨rfl, tc⟩
  go_wp2_with fail
  refine (HI2.out wc).mono ?_
  rintro _ wd ⟨rfl, td⟩
  have tcd := tc.trans td
  have bOd := bOb.keep tcd id
  have Td := Tb.trans tcd
  clear r0 r1 s0 s1 bXb bYb bOb Tb tc td tcd HM2 HI2
  rcases HJ1.out with h | ⟨h, hb⟩
  rotate_left
  · injection h with h1 h2
    subst h1; subst h2
    have hav := HAV.out
    rw [if_neg (fun h => by omega)] at hav
    injection hav with h1 h2
    injection h1 with h0 h1
    subst h0; subst h1; subst h2
    clear hb HAV HJ1 HJ2 HP1 HP2
    go_wp2_with (refine wpList_store_blk rfl _ _ _ rfl (z + 1 + 1) #[.int .i64 0, .int .i64 0] (by rfl) (by rfl) bOd (by kernel_rfl) rfl (by simp [Value.oneCell']) ?_; refine Hid.out ?_)
    refine Lib.hid ?_
    intro w9 hF tF
    have HBF := Lib.hid hF
    have HTF := Lib.hid tF
    clear hF tF bOd
    go_wp2
    (try simp only [Exit.inBlock, Exit.then])
    (try rw [Exit.noGoto_ret])
    refine bodyPost_ret (results_row_tmp (P := Tryz.prog) rfl _ _ (z + 1 + 1) 42 _ (0, 0) _ rfl HBF.out Tryz.underlying42 rfl (by kernel_rfl)) rfl ?_
    exact ⟨rfl, Td.trans' (F' := fun g => g = z + 1 + 1) HTF.out (fun i hi => .inr (by have hi : i = z + 1 + 1 := hi; have := HZW.out; omega))⟩
  injection h with h1 h2
  subst h1; subst h2
  rcases HJ2.out with h | ⟨h, hb⟩
  rotate_left
  · injection h with h1 h2
    subst h1; subst h2
    have hav := HAV.out
    rw [if_neg (fun h => by omega)] at hav
    injection hav with h1 h2
    injection h1 with h0 h1
    subst h0; subst h1; subst h2
    clear hb HAV HJ1 HJ2 HP1 HP2
    go_wp2_with (refine wpList_store_blk rfl _ _ _ rfl (z + 1 + 1) #[.int .i64 0, .int .i64 0] (by rfl) (by rfl) bOd (by kernel_rfl) rfl (by simp [Value.oneCell']) ?_; refine Hid.out ?_)
    refine Lib.hid ?_
    intro w9 hF tF
    have HBF := Lib.hid hF
    have HTF := Lib.hid tF
    clear hF tF bOd
    go_wp2
    (try simp only [Exit.inBlock, Exit.then])
    (try rw [Exit.noGoto_ret])
    refine bodyPost_ret (results_row_tmp (P := Tryz.prog) rfl _ _ (z + 1 + 1) 42 _ (0, 0) _ rfl HBF.out Tryz.underlying42 rfl (by kernel_rfl)) rfl ?_
    exact ⟨rfl, Td.trans' (F' := fun g => g = z + 1 + 1) HTF.out (fun i hi => .inr (by have hi : i = z + 1 + 1 := hi; have := HZW.out; omega))⟩
  injection h with h1 h2
  subst h1; subst h2
  by_cases hm : t1' ≤ 1000000000000 ∧ t2' ≤ 1000000000000
  · have hav := HAV.out
    rw [if_pos hm] at hav
    injection hav with h1 h2
    injection h1 with h0 h1
    subst h0; subst h1; subst h2
    have g2 : decide (1000000000000 < max t1' t2') = false := decide_eq_false (by omega)
    clear hm HAV HJ1 HJ2 HP1 HP2
    go_wp2_with (refine wpList_store_blk rfl _ _ _ rfl (z + 1 + 1) #[.int .i64 t1', .int .i64 t2'] (by rfl) (by rfl) bOd (by kernel_rfl) rfl (by simp [Value.oneCell']) ?_; refine Hid.out ?_)
    refine Lib.hid ?_
    intro w9 hF tF
    have HBF := Lib.hid hF
    have HTF := Lib.hid tF
    clear hF tF bOd
    go_wp2
    (try simp only [Exit.inBlock, Exit.then])
    (try rw [Exit.noGoto_ret])
    refine bodyPost_ret (results_row_tmp (P := Tryz.prog) rfl _ _ (z + 1 + 1) 42 _ (0, 0) _ rfl HBF.out Tryz.underlying42 rfl (by kernel_rfl)) rfl ?_
    exact ⟨rfl, Td.trans' (F' := fun g => g = z + 1 + 1) HTF.out (fun i hi => .inr (by have hi : i = z + 1 + 1 := hi; have := HZW.out; omega))⟩
  · have hav := HAV.out
    rw [if_neg hm] at hav
    injection hav with h1 h2
    injection h1 with h0 h1
    subst h0; subst h1; subst h2
    have g2 : decide (1000000000000 < max t1' t2') = true := decide_eq_true (by omega)
    clear hm HAV HJ1 HJ2 HP1 HP2
    go_wp2_with (refine wpList_store_blk rfl _ _ _ rfl (z + 1 + 1) #[.int .i64 0, .int .i64 0] (by rfl) (by rfl) bOd (by kernel_rfl) rfl (by simp [Value.oneCell']) ?_; refine Hid.out ?_)
    refine Lib.hid ?_
    intro w9 hF tF
    have HBF := Lib.hid hF
    have HTF := Lib.hid tF
    clear hF tF bOd
    go_wp2
    (try simp only [Exit.inBlock, Exit.then])
    (try rw [Exit.noGoto_ret])
    refine bodyPost_ret (results_row_tmp (P := Tryz.prog) rfl _ _ (z + 1 + 1) 42 _ (0, 0) _ rfl HBF.out Tryz.underlying42 rfl (by kernel_rfl)) rfl ?_
    exact ⟨rfl, Td.trans' (F' := fun g => g = z + 1 + 1) HTF.out (fun i hi => .inr (by have hi : i = z + 1 + 1 := hi; have := HZW.out; omega))⟩
end Go.Proofs.YtblenmelciaigaaGreatDoor
