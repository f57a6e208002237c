/-
  The document's ratios: lowest terms, turned round, multiplied.
-/
import Derived.Test.YtblenmelciaigaaGreatDoorLz
import Derived.Test.YtblenmelciaigaaGreatDoorZ56
import Derived.Test.YtblenmelciaigaaGreatDoorZ57
import Derived.Test.YtblenmelciaigaaGreatDoorGt
namespace Go.Proofs.YtblenmelciaigaaGreatDoor
open Go.RowKit Go.Gk

theorem nat_of_pos {r : Int} (h : 1 ≤ r) : ∃ a : Nat, 0 < a ∧ r = (a : Int) := ⟨r.toNat, by omega, by omega⟩
theorem dg_ratio {a : Nat} (h : a ≤ 1000000000000) : (dg a).length ≤ 64 := dg_len64 (by omega)

set_option maxRecDepth 100000 in
set_option maxHeartbeats 3200000 in
theorem refnorm_any (r1 r2 : Int) (w : World) :
    Calls Tryz.prog 190 #[.agg #[.int .i64 r1, .int .i64 r2]] w fun e w' => e = .returned (.agg #[.int .i64 (nrm (r1, r2)).1, .int .i64 (nrm (r1, r2)).2]) ∧ Tch (fun _ => False) w w' := by
  have ta := Tch.alloc (fun _ => False) w (.cells #[.int .i64 r1, .int .i64 r2] 42)
  have tb := Tch.alloc (fun _ => False) (w.alloc (.cells #[.int .i64 r1, .int .i64 r2] 42)) (.cells #[.int .i64 0, .int .i64 0] 42)
  have tw := ta.trans tb
  have bR := (Blk.new w 42 #[.int .i64 r1, .int .i64 r2]).keep tb id
  have bO := Blk.new2 w (.cells #[.int .i64 r1, .int .i64 r2] 42) 42 #[.int .i64 0, .int .i64 0]
  have HK := Lib.hid (fun w' => refcheck04_any r1 r2 w')
  obtain ⟨q1, q2, hq⟩ : ∃ q1 q2, nrm (r1, r2) = (q1, q2) := ⟨_, _, rfl⟩
  rw [hq]
  have HQ := Lib.hid hq
  clear ta tb hq
  go_enter Tryz.func190, Tryz.ntmps190
  go_wp2_with fail
  generalize (w.alloc (.cells #[.int .i64 r1, .int .i64 r2] 42)).alloc _ = W at *
  generalize hzw : w.heap.size = z at *
  have HZW := Lib.hid hzw
  clear hzw
  refine (HK.out W).mono ?_
  rintro _ W9 ⟨rfl, t1⟩
  have T1 := tw.trans t1
  have bR1 := bR.keep t1 id
  have bO1 := bO.keep t1 id
  clear HK
  by_cases hk : ratOK (r1, r2) = true
  rotate_left
  · rw [if_neg hk]
    have hq := HQ.out
    unfold nrm at hq
    rw [if_neg hk] at hq
    injection hq with h1 h2
    subst h1 h2
    clear bR bR1 bO hk
    go_wp2_with (refine wpList_store_blk rfl _ _ _ rfl (z + 1) #[.int .i64 0, .int .i64 0] (by rfl) (by rfl) bO1 (by kernel_rfl) rfl (by simp [Value.oneCell']) ?_; refine Hid.out ?_)
    refine Lib.hid ?_
    intro w9 hF tF
    have HF := Lib.hid hF
    have HTF := Lib.hid tF
    clear hF tF bO1
    go_wp2
    (try simp only [Exit.inBlock, Exit.then])
    (try rw [Exit.noGoto_ret])
    refine bodyPost_ret (results_cell_row (P := Tryz.prog) rfl _ _ (z + 1) 42 _ (0, 0) _ rfl HF.out Tryz.underlying42 rfl (by kernel_rfl)) rfl ?_
    exact ⟨rfl, T1.trans' (F' := fun g => g = z + 1) HTF.out (fun i hi => .inr (by have hi : i = z + 1 := hi; have := HZW.out; omega))⟩
  rw [if_pos hk]
  obtain ⟨k1, k2, k3, k4⟩ := ratOK_iff.1 hk
  simp only at k1 k2 k3 k4
  obtain ⟨a, ha0, rfl⟩ := nat_of_pos k1
  obtain ⟨b, hb0, rfl⟩ := nat_of_pos k2
  have HLW := Lib.hid (fun wa u v (h1 : BigIs (fun _ => True) wa u (a : Int)) (h2 : BigIs (fun _ => True) wa v (b : Int)) => lowest_any h1 h2 ha0 (Nat.le_trans (dg_ratio (by omega)) (by decide)) (Nat.le_trans (dg_ratio (by omega)) (by decide)))
  rw [low_nrm hk, HQ.out] at HLW
  simp only at HLW
  have HO1 := Lib.hid (fun wa => of_any (B := fun _ => True) (w := wa) (x := (a : Int)) (by omega) (by omega) (fun _ _ => trivial))
  have HO2 := Lib.hid (fun wa => of_any (B := fun _ => True) (w := wa) (x := (b : Int)) (by omega) (by omega) (fun _ _ => trivial))
  have x0 := within_cell (F := fun _ => False) (show W9.cell? ⟨z, 0, none⟩ = some (.int .i64 (a : Int)) from bR1.cell 0) id
  have x1 := within_cell (F := fun _ => False) (show W9.cell? ⟨z, 1, none⟩ = some (.int .i64 (b : Int)) from bR1.cell 1) id
  clear bR bO hk bR1
  go_wp2_with fail
  refine wp_region_late (fun _ => False) [9] 11 [(2, .inr fun u w' => BigIs (fun _ => True) w' u (a : Int)), (5, .inr fun u w' => BigIs (fun _ => True) w' u (b : Int)), (6, .inl (.tuple #[.agg #[.int .i64 q1, .int .i64 q2], .bool true])), (10, .inr fun u w' => ∃ g, u = .pointer (some ⟨g, 0, none⟩) ∧ W9.heap.size ≤ g ∧ Blk w' g 42 #[.int .i64 0, .int .i64 0])] [] (by kernel_rfl) rfl (by kernel_rfl) rfl (fun d _ _ _ _ h => by cases d <;> exact h) ?_ ?_
  · exact ⟨fun u a b hr h => h.keep hr, fun u a b hr h => h.keep hr, fun _ _ _ hr ⟨g, h1, h2, h3⟩ => ⟨g, h1, h2, h3.keep hr id⟩, trivial⟩
  intro bef ops hbef hops
  have hb1 : (bef.getD 6 0).testBit 2 = true := by rw [hbef]; kernel_rfl
  have hb2 : (bef.getD 6 0).testBit 5 = true := by rw [hbef]; kernel_rfl
  clear hbef
  subst hops
  simp only [List.take_succ_cons, List.take_zero, List.drop_succ_cons, List.drop_zero]
  iterate 2 (refine t_det (by rfl) (by rfl) (by rfl) (by rfl) (fun K hK => ?_); go_big_quiet_op; (first | refine hK _ ?_ | refine ⟨_, fun _ => rfl, hK _ ?_⟩); clear hK K; (try simp only [Act.put, List.setIfInBounds_toArray, List.set_cons_succ, List.set_cons_zero]))
  refine t_loose (by rfl) (by rfl) (fun wa hr hf => ?_) (fun d12 => ?_)
  · refine yields_of_wp (d := 12) rfl (by simp) (fun K hK => ?_)
    go_step
    refine (HO1.out wa).mono ?_
    rintro _ wb ⟨v', rfl, ho, tb⟩
    exact hK _ _ ⟨⟨ho, tb⟩, newAt_no⟩
  simp only [Act.put, List.setIfInBounds_toArray, List.set_cons_succ, List.set_cons_zero]
  iterate 2 (refine t_det (by rfl) (by rfl) (by rfl) (by rfl) (fun K hK => ?_); go_big_quiet_op; (first | refine hK _ ?_ | refine ⟨_, fun _ => rfl, hK _ ?_⟩); clear hK K; (try simp only [Act.put, List.setIfInBounds_toArray, List.set_cons_succ, List.set_cons_zero]))
  refine t_loose (by rfl) (by rfl) (fun wa hr hf => ?_) (fun d15 => ?_)
  · refine yields_of_wp (d := 15) rfl (by simp) (fun K hK => ?_)
    go_step
    refine (HO2.out wa).mono ?_
    rintro _ wb ⟨v', rfl, ho, tb⟩
    exact hK _ _ ⟨⟨ho, tb⟩, newAt_no⟩
  simp only [Act.put, List.setIfInBounds_toArray, List.set_cons_succ, List.set_cons_zero]
  refine t_fix (.tuple #[.agg #[.int .i64 q1, .int .i64 q2], .bool true]) (by rfl) (by rfl) (fun wa hr hf => ?_) ?_
  · have h2 := hf (5, fun w' => BigIs (fun _ => True) w' d15 (b : Int)) (List.mem_cons_self ..) hb2
    have h1 := hf (2, fun w' => BigIs (fun _ => True) w' d12 (a : Int)) (List.mem_cons_of_mem _ (List.mem_singleton.2 rfl)) hb1
    refine yields_of_wp (d := 16) rfl (by simp) (fun K hK => ?_)
    go_step
    refine (HLW.out wa d12 d15 h1 h2).mono ?_
    rintro _ wb ⟨rfl, tb⟩
    exact hK _ _ ⟨⟨rfl, tb⟩, newAt_no⟩
  simp only [Act.put, List.setIfInBounds_toArray, List.set_cons_succ, List.set_cons_zero]
  iterate 3 (refine t_det (by rfl) (by rfl) (by rfl) (by rfl) (fun K hK => ?_); go_big_quiet_op; (first | refine hK _ ?_ | refine ⟨_, fun _ => rfl, hK _ ?_⟩); clear hK K; (try simp only [Act.put, List.setIfInBounds_toArray, List.set_cons_succ, List.set_cons_zero]))
  refine t_loose (by rfl) (by rfl) (fun wa hr hf => ?_) (fun d3 => ?_)
  · have hs9 := ((Tch.drew (fun _ => False) W9).trans hr).size
    refine yields_of_wp (d := 3) rfl (by simp) (fun K hK => ?_)
    go_step
    exact hK _ _ ⟨⟨⟨_, rfl, hs9, Blk.new _ _ _⟩, Tch.alloc _ _ _⟩, newAt_no⟩
  simp only [Act.put, List.setIfInBounds_toArray, List.set_cons_succ, List.set_cons_zero]
  refine t_nil ?_
  intro wc hr hp hap
  obtain ⟨gq, rfl, hgl, hgq⟩ := hp _ (List.Mem.head _)
  have tc := (Tch.drew _ W9).trans hr
  have bO2 := bO1.keep tc id
  have T2 := T1.trans tc
  have HLT := Lib.hid bO1.lt
  clear hap hp hr hb1 hb2 x0 x1 HO1 HO2 HLW bO1
  go_wp2_with (refine wpList_store_blk rfl _ _ _ rfl gq #[.int .i64 q1, .int .i64 q2] (by rfl) (by rfl) hgq (by kernel_rfl) rfl (by simp [Value.oneCell']) ?_; refine Hid.out ?_)
  refine Lib.hid ?_
  intro wd hG tG
  have hne : z + 1 ≠ gq := by have := HLT.out; omega
  have bO3 := bO2.keep tG hne
  have T3 := T2.trans' tG (fun i hi => .inr (by have hi : i = gq := hi; have := T1.size; omega))
  have g0 : wd.cell? ⟨gq, 0, none⟩ = some (.int .i64 q1) := hG.cell 0
  have g1 : wd.cell? ⟨gq, 1, none⟩ = some (.int .i64 q2) := hG.cell 1
  clear hgq tG bO2 hG
  go_wp2_with (refine wpList_store_blk rfl _ _ _ rfl (z + 1) #[.int .i64 q1, .int .i64 q2] (by rfl) (by rfl) bO3 (by kernel_rfl) rfl (by simp [Value.oneCell']) ?_; refine Hid.out ?_)
  refine Lib.hid ?_
  intro we hF tF
  have HF := Lib.hid hF
  have HTF := Lib.hid tF
  clear hF tF bO3 g0 g1
  go_wp2
  (try simp only [Exit.inBlock, Exit.then])
  (try rw [Exit.noGoto_ret])
  refine bodyPost_ret (results_cell_row (P := Tryz.prog) rfl _ _ (z + 1) 42 _ (0, 0) _ rfl HF.out Tryz.underlying42 rfl (by kernel_rfl)) rfl ?_
  exact ⟨rfl, T3.trans' (F' := fun g => g = z + 1) HTF.out (fun i hi => .inr (by have hi : i = z + 1 := hi; have := HZW.out; omega))⟩

set_option maxRecDepth 100000 in
set_option maxHeartbeats 3200000 in
theorem refinv_any (r1 r2 : Int) (w : World) :
    Calls Tryz.prog 154 #[.agg #[.int .i64 r1, .int .i64 r2]] w fun e w' => e = .returned (.tuple #[.agg #[.int .i64 (invOf (r1, r2)).1.1, .int .i64 (invOf (r1, r2)).1.2], .int .i64 (invOf (r1, r2)).2]) ∧ Tch (fun _ => False) w w' := by
  have ta := Tch.alloc (fun _ => False) w (.cells #[.int .i64 r1, .int .i64 r2] 42)
  have tb := Tch.alloc (fun _ => False) (w.alloc (.cells #[.int .i64 r1, .int .i64 r2] 42)) (.cells #[.int .i64 0, .int .i64 0] 42)
  have tw := ta.trans tb
  have bR := (Blk.new w 42 #[.int .i64 r1, .int .i64 r2]).keep tb id
  have bO := Blk.new2 w (.cells #[.int .i64 r1, .int .i64 r2] 42) 42 #[.int .i64 0, .int .i64 0]
  have HK := Lib.hid (fun w' => refcheck04_any r1 r2 w')
  have HN := Lib.hid (fun w' => refnorm_any r2 r1 w')
  obtain ⟨q1, q2, e, hq⟩ : ∃ q1 q2 e, invOf (r1, r2) = ((q1, q2), e) := ⟨_, _, _, rfl⟩
  rw [hq]
  have HQ := Lib.hid hq
  clear ta tb hq
  simp only
  go_enter Tryz.func154, Tryz.ntmps154
  go_wp2_with fail
  generalize (w.alloc (.cells #[.int .i64 r1, .int .i64 r2] 42)).alloc _ = W at *
  generalize hzw : w.heap.size = z at *
  have HZW := Lib.hid hzw
  clear hzw
  refine (HK.out W).mono ?_
  rintro _ W9 ⟨rfl, t1⟩
  have T1 := tw.trans t1
  have bR1 := bR.keep t1 id
  have bO1 := bO.keep t1 id
  clear HK
  have hq := HQ.out
  unfold invOf at hq
  by_cases hk : ratOK (r1, r2) = true
  rotate_left
  · rw [if_neg hk]
    rw [if_neg hk] at hq
    injection hq with h12 h3
    injection h12 with h1 h2
    subst h1 h2 h3
    clear bR bR1 bO hk
    go_wp2_with (refine wpList_store_blk rfl _ _ _ rfl (z + 1) #[.int .i64 0, .int .i64 0] (by rfl) (by rfl) bO1 (by kernel_rfl) rfl (by simp [Value.oneCell']) ?_; refine Hid.out ?_)
    refine Lib.hid ?_
    intro w9 hF tF
    have HF := Lib.hid hF
    have HTF := Lib.hid tF
    clear hF tF bO1
    go_wp2
    (try simp only [Exit.inBlock, Exit.then])
    (try rw [Exit.noGoto_ret])
    refine bodyPost_ret (results_row_tmp (P := Tryz.prog) rfl _ _ (z + 1) 42 _ (0, 0) _ rfl HF.out Tryz.underlying42 rfl (by kernel_rfl)) rfl ?_
    exact ⟨rfl, T1.trans' (F' := fun g => g = z + 1) HTF.out (fun i hi => .inr (by have hi : i = z + 1 := hi; have := HZW.out; omega))⟩
  rw [if_pos hk]
  rw [if_pos hk] at hq
  injection hq with h12 h3
  subst h3
  rw [h12] at HN
  have x0 : W9.cell? ⟨z, 0, none⟩ = some (.int .i64 r1) := bR1.cell 0
  have x1 : W9.cell? ⟨z, 1, none⟩ = some (.int .i64 r2) := bR1.cell 1
  clear bR bR1 bO hk h12
  go_wp2_with fail
  refine (HN.out W9).mono ?_
  rintro _ Wb ⟨rfl, t2⟩
  have T2 := T1.trans t2
  have bO2 := bO1.keep t2 id
  clear HN x0 x1 bO1
  go_wp2_with (refine wpList_store_blk rfl _ _ _ rfl (z + 1) #[.int .i64 q1, .int .i64 q2] (by rfl) (by rfl) bO2 (by kernel_rfl) rfl (by simp [Value.oneCell']) ?_; refine Hid.out ?_)
  refine Lib.hid ?_
  intro w9 hF tF
  have HF := Lib.hid hF
  have HTF := Lib.hid tF
  clear hF tF bO2
  go_wp2
  (try simp only [Exit.inBlock, Exit.then])
  (try rw [Exit.noGoto_ret])
  refine bodyPost_ret (results_row_tmp (P := Tryz.prog) rfl _ _ (z + 1) 42 _ (0, 0) _ rfl HF.out Tryz.underlying42 rfl (by kernel_rfl)) rfl ?_
  exact ⟨rfl, T2.trans' (F' := fun g => g = z + 1) HTF.out (fun i hi => .inr (by have hi : i = z + 1 := hi; have := HZW.out; omega))⟩

set_option maxRecDepth 100000 in
set_option maxHeartbeats 6400000 in
theorem reftimes04_any (a1 a2 c1 c2 : Int) (w : World) :
    Calls Tryz.prog 123 #[.agg #[.int .i64 a1, .int .i64 a2], .agg #[.int .i64 c1, .int .i64 c2]] w fun e w' => e = .returned (.tuple #[.agg #[.int .i64 (timesOf (a1, a2) (c1, c2)).1.1, .int .i64 (timesOf (a1, a2) (c1, c2)).1.2], .int .i64 (timesOf (a1, a2) (c1, c2)).2]) ∧ Tch (fun _ => False) w w' := by
  have ta := Tch.alloc (fun _ => False) w (.cells #[.int .i64 a1, .int .i64 a2] 42)
  have tb := Tch.alloc (fun _ => False) (w.alloc (.cells #[.int .i64 a1, .int .i64 a2] 42)) (.cells #[.int .i64 c1, .int .i64 c2] 42)
  have tc := Tch.alloc (fun _ => False) ((w.alloc (.cells #[.int .i64 a1, .int .i64 a2] 42)).alloc (.cells #[.int .i64 c1, .int .i64 c2] 42)) (.cells #[.int .i64 0, .int .i64 0] 42)
  have tw := (ta.trans tb).trans tc
  have bA := ((Blk.new w 42 #[.int .i64 a1, .int .i64 a2]).keep tb id).keep tc id
  have bC := (Blk.new2 w (.cells #[.int .i64 a1, .int .i64 a2] 42) 42 #[.int .i64 c1, .int .i64 c2]).keep tc id
  have bO : Blk (((w.alloc (.cells #[.int .i64 a1, .int .i64 a2] 42)).alloc (.cells #[.int .i64 c1, .int .i64 c2] 42)).alloc (.cells #[.int .i64 0, .int .i64 0] 42)) (w.heap.size + 1 + 1) 42 #[.int .i64 0, .int .i64 0] := by simpa using Blk.new ((w.alloc (.cells #[.int .i64 a1, .int .i64 a2] 42)).alloc (.cells #[.int .i64 c1, .int .i64 c2] 42)) 42 #[.int .i64 0, .int .i64 0]
  have HK := Lib.hid (fun w' => refcheck04_any a1 a2 w')
  have HK2 := Lib.hid (fun w' => refcheck04_any c1 c2 w')
  obtain ⟨q1, q2, e, hq⟩ : ∃ q1 q2 e, timesOf (a1, a2) (c1, c2) = ((q1, q2), e) := ⟨_, _, _, rfl⟩
  rw [hq]
  have HQ := Lib.hid hq
  clear ta tb tc hq
  simp only
  go_enter Tryz.func123, Tryz.ntmps123
  go_wp2_with fail
  generalize ((w.alloc (.cells #[.int .i64 a1, .int .i64 a2] 42)).alloc (.cells #[.int .i64 c1, .int .i64 c2] 42)).alloc _ = W at *
  generalize hzw : w.heap.size = z at *
  have HZW := Lib.hid hzw
  clear hzw
  refine (HK.out W).mono ?_
  rintro _ W8 ⟨rfl, t1⟩
  have T1 := tw.trans t1
  have bA1 := bA.keep t1 id
  have bC1 := bC.keep t1 id
  have bO1 := bO.keep t1 id
  clear HK bA bC bO tw
  have hq := HQ.out
  by_cases hk : ratOK (a1, a2) = true
  rotate_left
  · rw [if_neg hk]
    rw [times_off (fun h => hk h.1)] at hq
    injection hq with h12 h3
    injection h12 with h1 h2
    subst h1 h2 h3
    clear hk bA1 bC1
    go_wp2_with (refine wpList_store_blk rfl _ _ _ rfl (z + 1 + 1) #[.int .i64 0, .int .i64 0] (by rfl) (by rfl) bO1 (by kernel_rfl) rfl (by simp [Value.oneCell']) ?_; refine Hid.out ?_)
    refine Lib.hid ?_
    intro w9 hF tF
    have HF := Lib.hid hF
    have HTF := Lib.hid tF
    clear hF tF bO1
    go_wp2
    (try simp only [Exit.inBlock, Exit.then])
    (try rw [Exit.noGoto_ret])
    refine bodyPost_ret (results_row_tmp (P := Tryz.prog) rfl _ _ (z + 1 + 1) 42 _ (0, 0) _ rfl HF.out Tryz.underlying42 rfl (by kernel_rfl)) rfl ?_
    exact ⟨rfl, T1.trans' (F' := fun g => g = z + 1 + 1) HTF.out (fun i hi => .inr (by have hi : i = z + 1 + 1 := hi; have := HZW.out; omega))⟩
  rw [if_pos hk]
  have y0 : W8.cell? ⟨z + 1, 0, none⟩ = some (.int .i64 c1) := bC1.cell 0
  have y1 : W8.cell? ⟨z + 1, 1, none⟩ = some (.int .i64 c2) := bC1.cell 1
  go_wp2_with fail
  refine (HK2.out W8).mono ?_
  rintro _ W9 ⟨rfl, t2⟩
  have T2 := T1.trans t2
  have bA2 := bA1.keep t2 id
  have bC2 := bC1.keep t2 id
  have bO2 := bO1.keep t2 id
  clear HK2 bA1 bC1 bO1 y0 y1
  by_cases hk2 : ratOK (c1, c2) = true
  rotate_left
  · rw [if_neg hk2]
    rw [times_off (fun h => hk2 h.2)] at hq
    injection hq with h12 h3
    injection h12 with h1 h2
    subst h1 h2 h3
    clear hk hk2 bA2 bC2
    go_wp2_with (refine wpList_store_blk rfl _ _ _ rfl (z + 1 + 1) #[.int .i64 0, .int .i64 0] (by rfl) (by rfl) bO2 (by kernel_rfl) rfl (by simp [Value.oneCell']) ?_; refine Hid.out ?_)
    refine Lib.hid ?_
    intro w9 hF tF
    have HF := Lib.hid hF
    have HTF := Lib.hid tF
    clear hF tF bO2
    go_wp2
    (try simp only [Exit.inBlock, Exit.then])
    (try rw [Exit.noGoto_ret])
    refine bodyPost_ret (results_row_tmp (P := Tryz.prog) rfl _ _ (z + 1 + 1) 42 _ (0, 0) _ rfl HF.out Tryz.underlying42 rfl (by kernel_rfl)) rfl ?_
    exact ⟨rfl, T2.trans' (F' := fun g => g = z + 1 + 1) HTF.out (fun i hi => .inr (by have hi : i = z + 1 + 1 := hi; have := HZW.out; omega))⟩
  rw [if_pos hk2]
  obtain ⟨k1, k2, k3, k4⟩ := ratOK_iff.1 hk
  obtain ⟨l1, l2, l3, l4⟩ := ratOK_iff.1 hk2
  simp only at k1 k2 k3 k4 l1 l2 l3 l4
  obtain ⟨a, ha0, rfl⟩ := nat_of_pos k1
  obtain ⟨b, hb0, rfl⟩ := nat_of_pos k2
  obtain ⟨c, hc0, rfl⟩ := nat_of_pos l1
  obtain ⟨d, hd0, rfl⟩ := nat_of_pos l2
  rw [low_times hk hk2] at hq
  have HLA := Lib.hid (show (dg a).length ≤ 64 from dg_ratio (by omega))
  have HLB := Lib.hid (show (dg b).length ≤ 64 from dg_ratio (by omega))
  have HLC := Lib.hid (show (dg c).length ≤ 64 from dg_ratio (by omega))
  have HLD := Lib.hid (show (dg d).length ≤ 64 from dg_ratio (by omega))
  have HM1 := Lib.hid (fun wa u v (h1 : BigIs (fun _ => True) wa u (a : Int)) (h2 : BigIs (fun _ => True) wa v (c : Int)) => reftimes_any h1 h2 (fun _ _ => trivial) (Nat.le_trans HLA.out (by decide)) (Nat.le_trans HLC.out (by decide)))
  have HM2 := Lib.hid (fun wa u v (h1 : BigIs (fun _ => True) wa u (b : Int)) (h2 : BigIs (fun _ => True) wa v (d : Int)) => reftimes_any h1 h2 (fun _ _ => trivial) (Nat.le_trans HLB.out (by decide)) (Nat.le_trans HLD.out (by decide)))
  have HLW := Lib.hid (fun wa u v (h1 : BigIs (fun _ => True) wa u ((a * c : Nat) : Int)) (h2 : BigIs (fun _ => True) wa v ((b * d : Nat) : Int)) => lowest_any h1 h2 (Nat.mul_pos ha0 hc0) (Nat.le_trans dg_mul_len (by have := HLA.out; have := HLC.out; omega)) (Nat.le_trans dg_mul_len (by have := HLB.out; have := HLD.out; omega)))
  generalize hml : lowOf (a * c) (b * d) = lo at *
  obtain ⟨⟨g1, g2⟩, ok⟩ := lo
  simp only at HLW hq
  have HO1 := Lib.hid (fun wa => of_any (B := fun _ => True) (w := wa) (x := (a : Int)) (by omega) (by omega) (fun _ _ => trivial))
  have HO2 := Lib.hid (fun wa => of_any (B := fun _ => True) (w := wa) (x := (c : Int)) (by omega) (by omega) (fun _ _ => trivial))
  have HO3 := Lib.hid (fun wa => of_any (B := fun _ => True) (w := wa) (x := (b : Int)) (by omega) (by omega) (fun _ _ => trivial))
  have HO4 := Lib.hid (fun wa => of_any (B := fun _ => True) (w := wa) (x := (d : Int)) (by omega) (by omega) (fun _ _ => trivial))
  have x0 := within_cell (F := fun _ => False) (show W9.cell? ⟨z, 0, none⟩ = some (.int .i64 (a : Int)) from bA2.cell 0) id
  have x1 := within_cell (F := fun _ => False) (show W9.cell? ⟨z, 1, none⟩ = some (.int .i64 (b : Int)) from bA2.cell 1) id
  have x2 := within_cell (F := fun _ => False) (show W9.cell? ⟨z + 1, 0, none⟩ = some (.int .i64 (c : Int)) from bC2.cell 0) id
  have x3 := within_cell (F := fun _ => False) (show W9.cell? ⟨z + 1, 1, none⟩ = some (.int .i64 (d : Int)) from bC2.cell 1) id
  generalize hac : a * c = ac at *
  generalize hbd : b * d = bd at *
  clear hk hk2 bA2 bC2 hml hac hbd
  have HQ2 := Lib.hid hq
  clear hq
  go_wp2_with fail
  refine wp_region_late (fun _ => False) [17] 19 [(2, .inr fun u w' => BigIs (fun _ => True) w' u (a : Int)), (5, .inr fun u w' => BigIs (fun _ => True) w' u (c : Int)), (6, .inr fun u w' => BigIs (fun _ => True) w' u (ac : Int)), (9, .inr fun u w' => BigIs (fun _ => True) w' u (b : Int)), (12, .inr fun u w' => BigIs (fun _ => True) w' u (d : Int)), (13, .inr fun u w' => BigIs (fun _ => True) w' u (bd : Int)), (14, .inl (.tuple #[.agg #[.int .i64 g1, .int .i64 g2], .bool ok])), (18, .inr fun u w' => ∃ g, u = .pointer (some ⟨g, 0, none⟩) ∧ W9.heap.size ≤ g ∧ Blk w' g 42 #[.int .i64 0, .int .i64 0])] [] (by kernel_rfl) rfl (by kernel_rfl) rfl (fun d _ _ _ _ h => by cases d <;> exact h) ?_ ?_
  · exact ⟨fun u a b hr h => h.keep hr, fun u a b hr h => h.keep hr, fun u a b hr h => h.keep hr, fun u a b hr h => h.keep hr, fun u a b hr h => h.keep hr, fun u a b hr h => h.keep hr, fun _ _ _ hr ⟨g, h1, h2, h3⟩ => ⟨g, h1, h2, h3.keep hr id⟩, trivial⟩
  intro bef ops hbef hops
  have hb1 : (bef.getD 6 0).testBit 2 = true := by rw [hbef]; kernel_rfl
  have hb2 : (bef.getD 6 0).testBit 5 = true := by rw [hbef]; kernel_rfl
  have hb3 : (bef.getD 13 0).testBit 9 = true := by rw [hbef]; kernel_rfl
  have hb4 : (bef.getD 13 0).testBit 12 = true := by rw [hbef]; kernel_rfl
  have hb5 : (bef.getD 14 0).testBit 6 = true := by rw [hbef]; kernel_rfl
  have hb6 : (bef.getD 14 0).testBit 13 = true := by rw [hbef]; kernel_rfl
  clear hbef
  subst hops
  simp only [List.take_succ_cons, List.take_zero, List.drop_succ_cons, List.drop_zero]
  iterate 2 (refine t_det (by rfl) (by rfl) (by rfl) (by rfl) (fun K hK => ?_); go_big_quiet_op; (first | refine hK _ ?_ | refine ⟨_, fun _ => rfl, hK _ ?_⟩); clear hK K; (try simp only [Act.put, List.setIfInBounds_toArray, List.set_cons_succ, List.set_cons_zero]))
  refine t_loose (by rfl) (by rfl) (fun wa hr hf => ?_) (fun d20 => ?_)
  · refine yields_of_wp (d := 20) rfl (by simp) (fun K hK => ?_)
    go_step
    refine (HO1.out wa).mono ?_
    rintro _ wb ⟨v', rfl, ho, tb⟩
    exact hK _ _ ⟨⟨ho, tb⟩, newAt_no⟩
  simp only [Act.put, List.setIfInBounds_toArray, List.set_cons_succ, List.set_cons_zero]
  iterate 2 (refine t_det (by rfl) (by rfl) (by rfl) (by rfl) (fun K hK => ?_); go_big_quiet_op; (first | refine hK _ ?_ | refine ⟨_, fun _ => rfl, hK _ ?_⟩); clear hK K; (try simp only [Act.put, List.setIfInBounds_toArray, List.set_cons_succ, List.set_cons_zero]))
  refine t_loose (by rfl) (by rfl) (fun wa hr hf => ?_) (fun d23 => ?_)
  · refine yields_of_wp (d := 23) rfl (by simp) (fun K hK => ?_)
    go_step
    refine (HO2.out wa).mono ?_
    rintro _ wb ⟨v', rfl, ho, tb⟩
    exact hK _ _ ⟨⟨ho, tb⟩, newAt_no⟩
  simp only [Act.put, List.setIfInBounds_toArray, List.set_cons_succ, List.set_cons_zero]
  refine t_loose (by rfl) (by rfl) (fun wa hr hf => ?_) (fun d24 => ?_)
  · have h1 := hf (2, fun w' => BigIs (fun _ => True) w' d20 (a : Int)) (by simp) hb1
    have h2 := hf (5, fun w' => BigIs (fun _ => True) w' d23 (c : Int)) (by simp) hb2
    refine yields_of_wp (d := 24) rfl (by simp) (fun K hK => ?_)
    go_step
    refine (HM1.out wa d20 d23 h1 h2).mono ?_
    rintro _ wb ⟨v', rfl, ho, tb⟩
    exact hK _ _ ⟨⟨ho, tb⟩, newAt_no⟩
  simp only [Act.put, List.setIfInBounds_toArray, List.set_cons_succ, List.set_cons_zero]
  iterate 2 (refine t_det (by rfl) (by rfl) (by rfl) (by rfl) (fun K hK => ?_); go_big_quiet_op; (first | refine hK _ ?_ | refine ⟨_, fun _ => rfl, hK _ ?_⟩); clear hK K; (try simp only [Act.put, List.setIfInBounds_toArray, List.set_cons_succ, List.set_cons_zero]))
  refine t_loose (by rfl) (by rfl) (fun wa hr hf => ?_) (fun d27 => ?_)
  · refine yields_of_wp (d := 27) rfl (by simp) (fun K hK => ?_)
    go_step
    refine (HO3.out wa).mono ?_
    rintro _ wb ⟨v', rfl, ho, tb⟩
    exact hK _ _ ⟨⟨ho, tb⟩, newAt_no⟩
  simp only [Act.put, List.setIfInBounds_toArray, List.set_cons_succ, List.set_cons_zero]
  iterate 2 (refine t_det (by rfl) (by rfl) (by rfl) (by rfl) (fun K hK => ?_); go_big_quiet_op; (first | refine hK _ ?_ | refine ⟨_, fun _ => rfl, hK _ ?_⟩); clear hK K; (try simp only [Act.put, List.setIfInBounds_toArray, List.set_cons_succ, List.set_cons_zero]))
  refine t_loose (by rfl) (by rfl) (fun wa hr hf => ?_) (fun d30 => ?_)
  · refine yields_of_wp (d := 30) rfl (by simp) (fun K hK => ?_)
    go_step
    refine (HO4.out wa).mono ?_
    rintro _ wb ⟨v', rfl, ho, tb⟩
    exact hK _ _ ⟨⟨ho, tb⟩, newAt_no⟩
  simp only [Act.put, List.setIfInBounds_toArray, List.set_cons_succ, List.set_cons_zero]
  refine t_loose (by rfl) (by rfl) (fun wa hr hf => ?_) (fun d31 => ?_)
  · have h1 := hf (9, fun w' => BigIs (fun _ => True) w' d27 (b : Int)) (by simp) hb3
    have h2 := hf (12, fun w' => BigIs (fun _ => True) w' d30 (d : Int)) (by simp) hb4
    refine yields_of_wp (d := 31) rfl (by simp) (fun K hK => ?_)
    go_step
    refine (HM2.out wa d27 d30 h1 h2).mono ?_
    rintro _ wb ⟨v', rfl, ho, tb⟩
    exact hK _ _ ⟨⟨ho, tb⟩, newAt_no⟩
  simp only [Act.put, List.setIfInBounds_toArray, List.set_cons_succ, List.set_cons_zero]
  refine t_fix (.tuple #[.agg #[.int .i64 g1, .int .i64 g2], .bool ok]) (by rfl) (by rfl) (fun wa hr hf => ?_) ?_
  · have h1 := hf (6, fun w' => BigIs (fun _ => True) w' d24 (ac : Int)) (by simp) hb5
    have h2 := hf (13, fun w' => BigIs (fun _ => True) w' d31 (bd : Int)) (by simp) hb6
    refine yields_of_wp (d := 32) rfl (by simp) (fun K hK => ?_)
    go_step
    refine (HLW.out wa d24 d31 h1 h2).mono ?_
    rintro _ wb ⟨rfl, tb⟩
    exact hK _ _ ⟨⟨rfl, tb⟩, newAt_no⟩
  simp only [Act.put, List.setIfInBounds_toArray, List.set_cons_succ, List.set_cons_zero]
  iterate 3 (refine t_det (by rfl) (by rfl) (by rfl) (by rfl) (fun K hK => ?_); go_big_quiet_op; (first | refine hK _ ?_ | refine ⟨_, fun _ => rfl, hK _ ?_⟩); clear hK K; (try simp only [Act.put, List.setIfInBounds_toArray, List.set_cons_succ, List.set_cons_zero]))
  refine t_loose (by rfl) (by rfl) (fun wa hr hf => ?_) (fun d6 => ?_)
  · have hs9 := ((Tch.drew (fun _ => False) W9).trans hr).size
    refine yields_of_wp (d := 6) rfl (by simp) (fun K hK => ?_)
    go_step
    exact hK _ _ ⟨⟨⟨_, rfl, hs9, Blk.new _ _ _⟩, Tch.alloc _ _ _⟩, newAt_no⟩
  simp only [Act.put, List.setIfInBounds_toArray, List.set_cons_succ, List.set_cons_zero]
  refine t_nil ?_
  intro wc hr hp hap
  obtain ⟨gq, rfl, hgl, hgq⟩ := hp _ (List.Mem.head _)
  have tc := (Tch.drew _ W9).trans hr
  have bO3 := bO2.keep tc id
  have T3 := T2.trans tc
  have HLT := Lib.hid bO2.lt
  clear hap hp hr hb1 hb2 hb3 hb4 hb5 hb6 x0 x1 x2 x3 HO1 HO2 HO3 HO4 HLW HM1 HM2 bO2
  go_wp2_with (refine wpList_store_blk rfl _ _ _ rfl gq #[.int .i64 g1, .int .i64 g2] (by rfl) (by rfl) hgq (by kernel_rfl) rfl (by simp [Value.oneCell']) ?_; refine Hid.out ?_)
  refine Lib.hid ?_
  intro wd hG tG
  have hne : z + 1 + 1 ≠ gq := by have := HLT.out; omega
  have bO4 := bO3.keep tG hne
  have T4 := T3.trans' tG (fun i hi => .inr (by have hi : i = gq := hi; have := T2.size; omega))
  have f0 : wd.cell? ⟨gq, 0, none⟩ = some (.int .i64 g1) := hG.cell 0
  have f1 : wd.cell? ⟨gq, 1, none⟩ = some (.int .i64 g2) := hG.cell 1
  clear hgq tG bO3 hG
  have hq := HQ2.out
  cases ok
  · rw [if_neg (fun h => by cases h)] at hq
    injection hq with h12 h3
    injection h12 with h1 h2
    subst h1 h2 h3
    go_wp2_with (refine wpList_store_blk rfl _ _ _ rfl (z + 1 + 1) #[.int .i64 0, .int .i64 0] (by rfl) (by rfl) bO4 (by kernel_rfl) rfl (by simp [Value.oneCell']) ?_; refine Hid.out ?_)
    refine Lib.hid ?_
    intro w9 hF tF
    have HF := Lib.hid hF
    have HTF := Lib.hid tF
    clear hF tF bO4
    go_wp2
    (try simp only [Exit.inBlock, Exit.then])
    (try rw [Exit.noGoto_ret])
    refine bodyPost_ret (results_row_tmp (P := Tryz.prog) rfl _ _ (z + 1 + 1) 42 _ (0, 0) _ rfl HF.out Tryz.underlying42 rfl (by kernel_rfl)) rfl ?_
    exact ⟨rfl, T4.trans' (F' := fun g => g = z + 1 + 1) HTF.out (fun i hi => .inr (by have hi : i = z + 1 + 1 := hi; have := HZW.out; omega))⟩
  · rw [if_pos rfl] at hq
    injection hq with h12 h3
    injection h12 with h1 h2
    subst h1 h2 h3
    go_wp2_with (refine wpList_store_blk rfl _ _ _ rfl (z + 1 + 1) #[.int .i64 g1, .int .i64 g2] (by rfl) (by rfl) bO4 (by kernel_rfl) rfl (by simp [Value.oneCell']) ?_; refine Hid.out ?_)
    refine Lib.hid ?_
    intro w9 hF tF
    have HF := Lib.hid hF
    have HTF := Lib.hid tF
    clear hF tF bO4
    go_wp2
    (try simp only [Exit.inBlock, Exit.then])
    (try rw [Exit.noGoto_ret])
    refine bodyPost_ret (results_row_tmp (P := Tryz.prog) rfl _ _ (z + 1 + 1) 42 _ (0, 0) _ rfl HF.out Tryz.underlying42 rfl (by kernel_rfl)) rfl ?_
    exact ⟨rfl, T4.trans' (F' := fun g => g = z + 1 + 1) HTF.out (fun i hi => .inr (by have hi : i = z + 1 + 1 := hi; have := HZW.out; omega))⟩
end Go.Proofs.YtblenmelciaigaaGreatDoor
