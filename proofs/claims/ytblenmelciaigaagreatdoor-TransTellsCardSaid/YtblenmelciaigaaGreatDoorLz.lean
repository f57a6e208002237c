/-
  The document's lowest terms.
-/
import Derived.Test.YtblenmelciaigaaGreatDoorZ56
import Derived.Test.YtblenmelciaigaaGreatDoorZ55
import Derived.Test.YtblenmelciaigaaGreatDoorZ8
namespace Go.Proofs.YtblenmelciaigaaGreatDoor
open Go.RowKit Go.Gk

set_option maxRecDepth 100000 in
set_option maxHeartbeats 6400000 in
theorem lowest_any {w : World} {u v : Value} {n d : Nat} (ha : BigIs (fun _ => True) w u (n : Int)) (hb : BigIs (fun _ => True) w v (d : Int)) (hn0 : 0 < n) (nn : (dg n).length ≤ 50000) (nd : (dg d).length ≤ 50000) :
    Calls Tryz.prog 156 #[u, v] w fun e w' => e = .returned (.tuple #[.agg #[.int .i64 (lowOf n d).1.1, .int .i64 (lowOf n d).1.2], .bool (lowOf n d).2]) ∧ Tch (fun _ => False) w w' := by
  obtain ⟨du, rfl, hu⟩ := ha
  obtain ⟨dv, rfl, hv⟩ := hb
  simp only [Int.natAbs_natCast] at hu hv
  have ea : decide ((n : Int) < 0) = false := by simp
  have eb : decide ((d : Int) < 0) = false := by simp
  rw [ea, eb]
  obtain ⟨An, cn, rfl, _, _⟩ := hu.form
  obtain ⟨Ad, cd, rfl, _, _⟩ := hv.form
  have HBN := Lib.hid (fun w' (t : Tch (fun _ => False) w w') => show BigIs (fun _ => True) w' (.agg #[.bool false, .slice An (dg n).length cn]) (n : Int) from ⟨_, by rw [ea], by simpa using hu.keep t⟩)
  have HBD := Lib.hid (fun w' (t : Tch (fun _ => False) w w') => show BigIs (fun _ => True) w' (.agg #[.bool false, .slice Ad (dg d).length cd]) (d : Int) from ⟨_, by rw [eb], by simpa using hv.keep t⟩)
  have t1 := Tch.alloc (fun _ => False) w (.cells #[.bool false, .slice An (dg n).length cn] 59)
  have t2 := Tch.alloc (fun _ => False) (w.alloc (.cells #[.bool false, .slice An (dg n).length cn] 59)) (.cells #[.bool false, .slice Ad (dg d).length cd] 59)
  have t3 := Tch.alloc (fun _ => False) ((w.alloc (.cells #[.bool false, .slice An (dg n).length cn] 59)).alloc (.cells #[.bool false, .slice Ad (dg d).length cd] 59)) (.cells #[.int .i64 0, .int .i64 0] 42)
  have tw := (t1.trans t2).trans t3
  have bN := ((Blk.new w 59 #[.bool false, .slice An (dg n).length cn]).keep t2 id).keep t3 id
  have bD := (Blk.new2 w (.cells #[.bool false, .slice An (dg n).length cn] 59) 59 #[.bool false, .slice Ad (dg d).length cd]).keep t3 id
  have bO : Blk (((w.alloc (.cells #[.bool false, .slice An (dg n).length cn] 59)).alloc (.cells #[.bool false, .slice Ad (dg d).length cd] 59)).alloc (.cells #[.int .i64 0, .int .i64 0] 42)) (w.heap.size + 1 + 1) 42 #[.int .i64 0, .int .i64 0] := by simpa using Blk.new ((w.alloc (.cells #[.bool false, .slice An (dg n).length cn] 59)).alloc (.cells #[.bool false, .slice Ad (dg d).length cd] 59)) 42 #[.int .i64 0, .int .i64 0]
  have HDV := Lib.hid (divisor_any (HBN.out _ tw) (HBD.out _ tw) (fun _ _ => trivial) (by omega) (by omega))
  have HG0 := Lib.hid (show 0 < Nat.gcd n d from Nat.gcd_pos_of_pos_left _ hn0)
  have HGL := Lib.hid (show (dg (Nat.gcd n d)).length ≤ 50000 from Nat.le_trans (dg_mono (Nat.gcd_le_left d hn0)) nn)
  obtain ⟨AV, hAV⟩ : ∃ AV, lowOf n d = AV := ⟨_, rfl⟩
  have HAV := Lib.hid hAV
  rw [hAV]
  obtain ⟨⟨v1, v2⟩, v3⟩ := AV
  simp only
  clear t1 t2 t3 hu hv ea eb hAV
  go_enter Tryz.func156, Tryz.ntmps156
  go_wp2_with fail
  generalize ((w.alloc (.cells #[.bool false, .slice An (dg n).length cn] 59)).alloc (.cells #[.bool false, .slice Ad (dg d).length cd] 59)).alloc _ = W at *
  generalize hzw : w.heap.size = z at *
  have HZW := Lib.hid hzw
  clear hzw
  refine HDV.out.mono ?_
  rintro _ w4 ⟨vg, rfl, ⟨dgv, rfl, hg⟩, t4⟩
  simp only [Int.natAbs_natCast] at hg
  obtain ⟨Ag, cg, rfl, _, _⟩ := hg.form
  rw [show decide (((Nat.gcd n d : Nat) : Int) < 0) = false by simp]
  have tG := Tch.alloc (fun _ => False) w4 (.cells #[.bool false, .slice Ag (dg (Nat.gcd n d)).length cg] 59)
  have bG := Blk.new w4 59 #[.bool false, .slice Ag (dg (Nat.gcd n d)).length cg]
  have t4G := t4.trans tG
  have T4 := tw.trans t4G
  have bN4 := bN.keep t4G id
  have bD4 := bD.keep t4G id
  have bO4 := bO.keep t4G id
  have hg4 := hg.keep tG
  have n0 := bN4.cell 0
  have n1 := bN4.cell 1
  simp only [List.getElem?_toArray, List.getElem?_cons_succ, List.getElem?_cons_zero] at n0 n1
  have HD1 := Lib.hid (div_any (HBN.out _ T4) (show BigIs (fun _ => True) _ (.agg #[.bool false, .slice Ag (dg (Nat.gcd n d)).length cg]) ((Nat.gcd n d : Nat) : Int) from ⟨_, by rw [show decide (((Nat.gcd n d : Nat) : Int) < 0) = false by simp], by simpa using hg4⟩) (fun _ _ => trivial) HG0.out (by omega) (Nat.le_trans HGL.out (by decide)))
  generalize hqn : n / Nat.gcd n d = qn at *
  generalize hqd : d / Nat.gcd n d = qd at *
  have HQN := Lib.hid hqn
  have HQD := Lib.hid hqd
  clear hqn hqd
  go_wp2_with fail
  generalize w4.alloc _ = W4 at *
  generalize w4.heap.size = y4 at *
  refine HD1.out.mono ?_
  rintro _ w5 ⟨vq, vr, rfl, ⟨dq, rfl, hq⟩, ⟨dr, rfl, hr⟩, t5⟩
  simp only [Int.natAbs_natCast] at hq hr
  obtain ⟨Aq, cq, rfl, _, _⟩ := hq.form
  obtain ⟨Ar, cr, rfl, _, _⟩ := hr.form
  rw [show decide (((qn : Nat) : Int) < 0) = false by simp, show decide (((n % Nat.gcd n d : Nat) : Int) < 0) = false from decide_eq_false (Int.not_lt.2 (Int.natCast_nonneg _))]
  have tp := Tch.alloc (fun _ => False) w5 (.cells #[.bool false, .slice Aq (dg qn).length cq] 59)
  have tq := Tch.alloc (fun _ => False) (w5.alloc (.cells #[.bool false, .slice Aq (dg qn).length cq] 59)) (.cells #[.bool false, .slice Ar (dg (n % Nat.gcd n d)).length cr] 59)
  have t57 := t5.trans (tp.trans tq)
  have bQ := (Blk.new w5 59 #[.bool false, .slice Aq (dg qn).length cq]).keep tq id
  have bG7 := bG.keep t57 id
  have bD7 := bD4.keep t57 id
  have bO7 := bO4.keep t57 id
  have T7 := T4.trans t57
  have hq7 := hq.keep (tp.trans tq)
  have hg7 := hg4.keep t57
  have d0 := bD7.cell 0
  have d1 := bD7.cell 1
  have g0 := bG7.cell 0
  have g1 := bG7.cell 1
  simp only [List.getElem?_toArray, List.getElem?_cons_succ, List.getElem?_cons_zero] at d0 d1 g0 g1
  have HD2 := Lib.hid (div_any (HBD.out _ T7) (show BigIs (fun _ => True) _ (.agg #[.bool false, .slice Ag (dg (Nat.gcd n d)).length cg]) ((Nat.gcd n d : Nat) : Int) from ⟨_, by rw [show decide (((Nat.gcd n d : Nat) : Int) < 0) = false by simp], by simpa using hg7⟩) (fun _ _ => trivial) HG0.out (by omega) (Nat.le_trans HGL.out (by decide)))
  rw [HQD.out] at HD2
  clear HD1 t5 tp tq t57 hq hr bG bD4 bO4 T4 hg4 n0 n1 bN4 bN bD bO tw t4 t4G tG hg
  go_wp2_with fail
  generalize (w5.alloc (.cells #[.bool false, .slice Aq (dg qn).length cq] 59)).alloc _ = W5 at *
  generalize w5.heap.size = y5 at *
  refine HD2.out.mono ?_
  rintro _ w8 ⟨vq2, vr2, rfl, ⟨dq2, rfl, hq2⟩, ⟨dr2, rfl, hr2⟩, t8⟩
  simp only [Int.natAbs_natCast] at hq2 hr2
  obtain ⟨Aq2, cq2, rfl, _, _⟩ := hq2.form
  obtain ⟨Ar2, cr2, rfl, _, _⟩ := hr2.form
  rw [show decide (((qd : Nat) : Int) < 0) = false by simp, show decide (((d % Nat.gcd n d : Nat) : Int) < 0) = false from decide_eq_false (Int.not_lt.2 (Int.natCast_nonneg _))]
  have tp2 := Tch.alloc (fun _ => False) w8 (.cells #[.bool false, .slice Aq2 (dg qd).length cq2] 59)
  have tq2 := Tch.alloc (fun _ => False) (w8.alloc (.cells #[.bool false, .slice Aq2 (dg qd).length cq2] 59)) (.cells #[.bool false, .slice Ar2 (dg (d % Nat.gcd n d)).length cr2] 59)
  have t9 := t8.trans (tp2.trans tq2)
  have bP9 := (Blk.new w8 59 #[.bool false, .slice Aq2 (dg qd).length cq2]).keep tq2 id
  have bQ9 := bQ.keep t9 id
  have bO9 := bO7.keep t9 id
  have T9 := T7.trans t9
  have hqn9 := hq7.keep t9
  have hqd9 := hq2.keep (tp2.trans tq2)
  have HLN := Lib.hid (show (dg qn).length ≤ 50000 from Nat.le_trans (dg_mono (by rw [← HQN.out]; exact Nat.div_le_self _ _)) nn)
  have HLD := Lib.hid (show (dg qd).length ≤ 50000 from Nat.le_trans (dg_mono (by rw [← HQD.out]; exact Nat.div_le_self _ _)) nd)
  have HLO := Lib.hid (show lowOf n d = if qn ≤ 1000000000000 ∧ qd ≤ 1000000000000 then (((qn : Int), (qd : Int)), true) else ((0, 0), false) by
    unfold lowOf
    rw [HQN.out, HQD.out])
  have HBQ := Lib.hid (fun w' (t : Tch (fun _ => False) _ w') => show BigIs (fun _ => True) w' (.agg #[.bool false, .slice Aq (dg qn).length cq]) ((qn : Nat) : Int) from ⟨_, by rw [show decide (((qn : Nat) : Int) < 0) = false by simp], by simpa using hqn9.keep t⟩)
  have HBD2 := Lib.hid (fun w' (t : Tch (fun _ => False) _ w') => show BigIs (fun _ => True) w' (.agg #[.bool false, .slice Aq2 (dg qd).length cq2]) ((qd : Nat) : Int) from ⟨_, by rw [show decide (((qd : Nat) : Int) < 0) = false by simp], by simpa using hqd9.keep t⟩)
  rw [HAV.out] at HLO
  have hlen13 : (dg (1000000000000 : Int).natAbs).length ≤ 50000 := Nat.le_trans (dg_len64 (by decide)) (by decide)
  have HL13 := Lib.hid hlen13
  have HCQ := Lib.hid (fun w' u (t : Tch (fun _ => False) _ w') (h9 : BigIs (fun _ => True) w' u 1000000000000) => cmp_any (HBQ.out w' t) h9 (by simpa using HLN.out) HL13.out (fun _ _ => trivial))
  have HCD := Lib.hid (fun w' u (t : Tch (fun _ => False) _ w') (h9 : BigIs (fun _ => True) w' u 1000000000000) => cmp_any (HBD2.out w' t) h9 (by simpa using HLD.out) HL13.out (fun _ _ => trivial))
  have HOF := Lib.hid (fun w' => of_any (B := fun _ => True) (w := w') (x := 1000000000000) (by decide) (by decide) (fun _ _ => trivial))
  have HIQ := Lib.hid (fun w' (t : Tch (fun _ => False) _ w') => int_any (HBQ.out w' t) (by simpa using HLN.out) (fun _ _ => trivial))
  have HID := Lib.hid (fun w' (t : Tch (fun _ => False) _ w') => int_any (HBD2.out w' t) (by simpa using HLD.out) (fun _ _ => trivial))
  clear HD2 t8 tp2 tq2 t9 hq2 hr2 bQ bO7 T7 hq7 hqn9 hqd9 d0 d1 g0 g1 bG7 bD7 hg7 hlen13
  go_wp2_with fail
  generalize (w8.alloc (.cells #[.bool false, .slice Aq2 (dg qd).length cq2] 59)).alloc _ = W8 at *
  generalize w8.heap.size = y8 at *
  have p0 := bQ9.cell 0
  have p1 := bQ9.cell 1
  have r0 := bP9.cell 0
  have r1 := bP9.cell 1
  simp only [List.getElem?_toArray, List.getElem?_cons_succ, List.getElem?_cons_zero] at p0 p1 r0 r1
  have x0 := within_cell (F := fun _ => False) p0 id
  have x1 := within_cell (F := fun _ => False) p1 id
  have x2 := within_cell (F := fun _ => False) r0 id
  have x3 := within_cell (F := fun _ => False) r1 id
  by_cases hqb : qn ≤ 1000000000000
  · have hcv : (if (qn : Int) < 1000000000000 then (-1 : Int) else if (1000000000000 : Int) < (qn : Int) then 1 else 0) = -1 ∨ (if (qn : Int) < 1000000000000 then (-1 : Int) else if (1000000000000 : Int) < (qn : Int) then 1 else 0) = 0 := by
      by_cases h : (qn : Int) < 1000000000000
      · exact .inl (if_pos h)
      · exact .inr (by rw [if_neg h, if_neg (by omega)])
    generalize (if (qn : Int) < 1000000000000 then (-1 : Int) else if (1000000000000 : Int) < (qn : Int) then 1 else 0) = cv at *
    have hcv0 : cv ≤ 0 := by omega
    have HCV := Lib.hid hcv0
    have hcg : decide (cv > 0) = false := decide_eq_false (by omega)
    have hcg2 : ¬ (0 : Int) < cv := by omega
    clear hcv
    refine wp_region_touch (fun _ => False) [] 7 [(1, .inr fun u w' => BigIs (fun _ => True) w' u 1000000000000), (2, .inl (.int .i64 cv)), (6, .inr fun u w' => BigIs (fun _ => True) w' u 1000000000000)] [] (by kernel_rfl) rfl (by kernel_rfl) rfl (fun d _ _ _ _ h => by cases d <;> exact h) ?_ ?_
    · exact ⟨fun u a b hr h => h.keep hr, fun u a b hr h => h.keep hr, trivial⟩
    intro bef ops hbef hops
    have hb1 : (bef.getD 2 0).testBit 1 = true := by rw [hbef]; kernel_rfl
    clear hbef
    subst hops
    simp only [List.take_succ_cons, List.take_zero, List.drop_succ_cons, List.drop_zero]
    iterate 1 (refine t_det (by rfl) (by rfl) (by rfl) (by rfl) (fun K hK => ?_); go_big_quiet_op; (first | refine hK _ ?_ | refine ⟨_, fun _ => rfl, hK _ ?_⟩); clear hK K; (try simp only [Act.put, List.setIfInBounds_toArray, List.set_cons_succ, List.set_cons_zero]))
    refine t_loose (by rfl) (by rfl) (fun wa hr hf => ?_) (fun da => ?_)
    · refine yields_of_wp (d := 31) rfl (by simp) (fun K hK => ?_)
      go_step
      refine (HOF.out wa).mono ?_
      rintro _ wb ⟨v', rfl, ho, tb⟩
      exact hK _ _ ⟨⟨ho, tb⟩, newAt_no⟩
    simp only [Act.put, List.setIfInBounds_toArray, List.set_cons_succ, List.set_cons_zero]
    refine t_fix (.int .i64 cv) (by rfl) (by rfl) (fun wa hr hf => ?_) ?_
    · have hv := hf (1, fun w' => BigIs (fun _ => True) w' da 1000000000000) (List.mem_singleton.2 rfl) hb1
      refine yields_of_wp (d := 32) rfl (by simp) (fun K hK => ?_)
      go_step
      refine (HCQ.out wa da ((Tch.drew _ W8).trans hr) hv).mono ?_
      rintro _ wb ⟨rfl, tb⟩
      exact hK _ _ ⟨⟨rfl, tb⟩, newAt_no⟩
    simp only [Act.put, List.setIfInBounds_toArray, List.set_cons_succ, List.set_cons_zero]
    iterate 3 (refine t_det (by rfl) (by rfl) (by rfl) (by rfl) (fun K hK => ?_); go_big_quiet_op; (first | refine hK _ ?_ | refine ⟨_, fun _ => rfl, hK _ ?_⟩); clear hK K; (try simp only [Act.put, List.setIfInBounds_toArray, List.set_cons_succ, List.set_cons_zero]))
    refine t_loose (by rfl) (by rfl) (fun wa hr hf => ?_) (fun db => ?_)
    · refine yields_of_wp (d := 36) rfl (by simp) (fun K hK => ?_)
      go_step
      refine (HOF.out wa).mono ?_
      rintro _ wb ⟨v', rfl, ho, tb⟩
      exact hK _ _ ⟨⟨ho, tb⟩, newAt_no⟩
    simp only [Act.put, List.setIfInBounds_toArray, List.set_cons_succ, List.set_cons_zero]
    refine t_nil ?_
    intro wc hr hp hap
    have hdb := hp (6, fun w' => BigIs (fun _ => True) w' db 1000000000000) (List.mem_cons_self ..)
    simp only at hdb
    have tc := (Tch.drew _ W8).trans hr
    have HC2 := Lib.hid (HCD.out wc db tc hdb)
    clear hap hp hr hb1 x0 x1 x2 x3 hdb HCQ HCD
    go_wp2_with fail
    refine HC2.out.mono ?_
    rintro _ wd ⟨rfl, td⟩
    have t10 := tc.trans td
    have bO10 := bO9.keep t10 id
    have T10 := T9.trans t10
    have bQ10 := bQ9.keep t10 id
    have bP10 := bP9.keep t10 id
    by_cases hdb : qd ≤ 1000000000000
    · have hlo := HLO.out
      rw [if_pos ⟨hqb, hdb⟩] at hlo
      injection hlo with h12 h3
      injection h12 with h1 h2
      subst h1 h2 h3
      have hcv2 : (if (qd : Int) < 1000000000000 then (-1 : Int) else if (1000000000000 : Int) < (qd : Int) then 1 else 0) = -1 ∨ (if (qd : Int) < 1000000000000 then (-1 : Int) else if (1000000000000 : Int) < (qd : Int) then 1 else 0) = 0 := by
        by_cases h : (qd : Int) < 1000000000000
        · exact .inl (if_pos h)
        · exact .inr (by rw [if_neg h, if_neg (by omega)])
      generalize (if (qd : Int) < 1000000000000 then (-1 : Int) else if (1000000000000 : Int) < (qd : Int) then 1 else 0) = cv2 at *
      have hcv0 : cv2 ≤ 0 := by omega
      have hcg2 : ¬ (0 : Int) < cv2 := by omega
      have HI1 := Lib.hid (HIQ.out wd t10)
      rw [show asInt (qn : Int) = .tuple #[.int .i64 (qn : Int), .bool true] by unfold asInt; rw [if_pos (by omega)]] at HI1
      have u0 := bQ10.cell 0
      have u1 := bQ10.cell 1
      simp only [List.getElem?_toArray, List.getElem?_cons_succ, List.getElem?_cons_zero] at u0 u1
      clear hcv2 HC2 tc td p0 p1 r0 r1
      go_wp2_with fail
      refine HI1.out.mono ?_
      rintro _ we ⟨rfl, te⟩
      have t11 := t10.trans te
      have HI2 := Lib.hid (HID.out we t11)
      rw [show asInt (qd : Int) = .tuple #[.int .i64 (qd : Int), .bool true] by unfold asInt; rw [if_pos (by omega)]] at HI2
      have bP11 := bP10.keep te id
      have bO11 := bO10.keep te id
      have T11 := T10.trans te
      have u2 := bP11.cell 0
      have u3 := bP11.cell 1
      simp only [List.getElem?_toArray, List.getElem?_cons_succ, List.getElem?_cons_zero] at u2 u3
      clear HI1 u0 u1
      go_wp2_with fail
      refine HI2.out.mono ?_
      rintro _ wf ⟨rfl, tf⟩
      have bO12 := bO11.keep tf id
      have T12 := T11.trans tf
      clear HI2 u2 u3 bO11 T11
      go_wp2_with (refine wpList_store_blk rfl _ _ _ rfl (z + 1 + 1) #[.int .i64 (qn : Int), .int .i64 (qd : Int)] (by rfl) (by rfl) bO12 (by kernel_rfl) rfl (by simp [Value.oneCell']) ?_; refine Hid.out ?_)
      refine Lib.hid ?_
      intro w9 hF tF
      have HF := Lib.hid hF
      have HTF := Lib.hid tF
      clear hF tF bO12
      go_wp2
      (try simp only [Exit.inBlock, Exit.then])
      (try rw [Exit.noGoto_ret])
      refine bodyPost_ret (results_row_tmp (P := Tryz.prog) rfl _ _ (z + 1 + 1) 42 _ (0, 0) _ rfl HF.out Tryz.underlying42 rfl (by kernel_rfl)) rfl ?_
      exact ⟨rfl, T12.trans' (F' := fun g => g = z + 1 + 1) HTF.out (fun i hi => .inr (by have hi : i = z + 1 + 1 := hi; have := HZW.out; omega))⟩
    · have hlo := HLO.out
      rw [if_neg (fun h => hdb h.2)] at hlo
      injection hlo with h12 h3
      injection h12 with h1 h2
      subst h1 h2 h3
      rw [if_neg (by omega), if_pos (by omega)]
      clear bQ10 bP10 bO9 p0 p1 r0 r1 bQ9 bP9
      go_wp2_with (refine wpList_store_blk rfl _ _ _ rfl (z + 1 + 1) #[.int .i64 0, .int .i64 0] (by rfl) (by rfl) bO10 (by kernel_rfl) rfl (by simp [Value.oneCell']) ?_; refine Hid.out ?_)
      refine Lib.hid ?_
      intro w9 hF tF
      have HF := Lib.hid hF
      have HTF := Lib.hid tF
      clear hF tF bO10
      go_wp2
      (try simp only [Exit.inBlock, Exit.then])
      (try rw [Exit.noGoto_ret])
      refine bodyPost_ret (results_row_tmp (P := Tryz.prog) rfl _ _ (z + 1 + 1) 42 _ (0, 0) _ rfl HF.out Tryz.underlying42 rfl (by kernel_rfl)) rfl ?_
      exact ⟨rfl, T10.trans' (F' := fun g => g = z + 1 + 1) HTF.out (fun i hi => .inr (by have hi : i = z + 1 + 1 := hi; have := HZW.out; omega))⟩
  · have hcv : (if (qn : Int) < 1000000000000 then (-1 : Int) else if (1000000000000 : Int) < (qn : Int) then 1 else 0) = 1 := by rw [if_neg (by omega), if_pos (by omega)]
    rw [hcv] at HCQ
    have hlo := HLO.out
    rw [if_neg (fun h => hqb h.1)] at hlo
    injection hlo with h12 h3
    injection h12 with h1 h2
    subst h1 h2 h3
    refine wp_region_touch (fun _ => False) [] 7 [(1, .inr fun u w' => BigIs (fun _ => True) w' u 1000000000000), (2, .inl (.int .i64 1))] [] (by kernel_rfl) rfl (by kernel_rfl) rfl (fun d _ _ _ _ h => by cases d <;> exact h) ?_ ?_
    · exact ⟨fun u a b hr h => h.keep hr, trivial⟩
    intro bef ops hbef hops
    have hb1 : (bef.getD 2 0).testBit 1 = true := by rw [hbef]; kernel_rfl
    clear hbef
    subst hops
    simp only [List.take_succ_cons, List.take_zero, List.drop_succ_cons, List.drop_zero]
    iterate 1 (refine t_det (by rfl) (by rfl) (by rfl) (by rfl) (fun K hK => ?_); go_big_quiet_op; (first | refine hK _ ?_ | refine ⟨_, fun _ => rfl, hK _ ?_⟩); clear hK K; (try simp only [Act.put, List.setIfInBounds_toArray, List.set_cons_succ, List.set_cons_zero]))
    refine t_loose (by rfl) (by rfl) (fun wa hr hf => ?_) (fun da => ?_)
    · refine yields_of_wp (d := 31) rfl (by simp) (fun K hK => ?_)
      go_step
      refine (HOF.out wa).mono ?_
      rintro _ wb ⟨v', rfl, ho, tb⟩
      exact hK _ _ ⟨⟨ho, tb⟩, newAt_no⟩
    simp only [Act.put, List.setIfInBounds_toArray, List.set_cons_succ, List.set_cons_zero]
    refine t_fix (.int .i64 1) (by rfl) (by rfl) (fun wa hr hf => ?_) ?_
    · have hv := hf (1, fun w' => BigIs (fun _ => True) w' da 1000000000000) (List.mem_singleton.2 rfl) hb1
      refine yields_of_wp (d := 32) rfl (by simp) (fun K hK => ?_)
      go_step
      refine (HCQ.out wa da ((Tch.drew _ W8).trans hr) hv).mono ?_
      rintro _ wb ⟨rfl, tb⟩
      exact hK _ _ ⟨⟨rfl, tb⟩, newAt_no⟩
    simp only [Act.put, List.setIfInBounds_toArray, List.set_cons_succ, List.set_cons_zero]
    iterate 2 (refine t_det (by rfl) (by rfl) (by rfl) (by rfl) (fun K hK => ?_); go_big_quiet_op; (first | refine hK _ ?_ | refine ⟨_, fun _ => rfl, hK _ ?_⟩); clear hK K; (try simp only [Act.put, List.setIfInBounds_toArray, List.set_cons_succ, List.set_cons_zero]))
    iterate 2 (refine t_skip (by rfl) ?_; (try simp only [Act.put, List.setIfInBounds_toArray, List.set_cons_succ, List.set_cons_zero]))
    refine t_nil ?_
    intro wd hr hp hap
    have t10 := (Tch.drew _ W8).trans hr
    have bO10 := bO9.keep t10 id
    have T10 := T9.trans t10
    clear hap hp hr hb1 x0 x1 x2 x3 HCQ HCD bO9 bQ9 bP9 p0 p1 r0 r1
    go_wp2_with (refine wpList_store_blk rfl _ _ _ rfl (z + 1 + 1) #[.int .i64 0, .int .i64 0] (by rfl) (by rfl) bO10 (by kernel_rfl) rfl (by simp [Value.oneCell']) ?_; refine Hid.out ?_)
    refine Lib.hid ?_
    intro w9 hF tF
    have HF := Lib.hid hF
    have HTF := Lib.hid tF
    clear hF tF bO10
    go_wp2
    (try simp only [Exit.inBlock, Exit.then])
    (try rw [Exit.noGoto_ret])
    refine bodyPost_ret (results_row_tmp (P := Tryz.prog) rfl _ _ (z + 1 + 1) 42 _ (0, 0) _ rfl HF.out Tryz.underlying42 rfl (by kernel_rfl)) rfl ?_
    exact ⟨rfl, T10.trans' (F' := fun g => g = z + 1 + 1) HTF.out (fun i hi => .inr (by have hi : i = z + 1 + 1 := hi; have := HZW.out; omega))⟩
end Go.Proofs.YtblenmelciaigaaGreatDoor
