/-
  The probe of layer 35.
-/
import Derived.Test.YtifdnhghjgklkaaGreatZ29
import Derived.Test.YtifdnhghjgklkaaGreatZ28
namespace Go.Gk
theorem group_s1 : splitOf groupBks (4, 2, 4, 0, 1, 0) = (⟨(0, 0), [], [], (7, 2, 4, 0, 1, 0), true, (8000, 10000), true⟩, 0) := by decide +kernel
theorem group_s2 : splitOf groupBks (4, 2, 5, 0, 1, 0) = (⟨(0, 0), [(7, 2, 5, 0, 1, 0)], [], (0, 0, 0, 0, 0, 0), false, (0, 0), false⟩, 0) := by decide +kernel
theorem group_s3 : splitOf groupBks (5, 2, 4, 0, 1, 0) = (⟨(0, 0), [(7, 2, 4, 0, 1, 0)], [(4, 2, 4, 0, 1, 0)], (0, 0, 0, 0, 0, 0), false, (0, 0), false⟩, 0) := by decide +kernel
theorem group_s4 : splitOf groupBks (7, 2, 4, 0, 1, 0) = (⟨(0, 0), [], [], (0, 0, 0, 0, 0, 0), false, (0, 0), false⟩, 25) := by decide +kernel
end Go.Gk
namespace Go.Proofs.YtifdnhghjgklkaaGreat
open Go.RowKit Go.Gk

set_option maxRecDepth 100000 in
set_option maxHeartbeats 800000 in
theorem key35_any (r a : Int) (w : World) :
    Calls Tryz.prog 72 #[.int .i64 r, .int .i64 a] w fun x w' => x = .returned (.agg #[.int .i64 r, .int .i64 2, .int .i64 a, .int .i64 0, .int .i64 1, .int .i64 0]) ∧ Tch (fun _ => False) w w' := by
  go_enter Tryz.func72, Tryz.ntmps72
  go_wp2
  refine bodyPost_ret (results_cell_row (P := Tryz.prog) rfl _ _ (w.heap.size) 31 _ (0, 0) _ rfl (Blk.new w 31 _) Tryz.underlying31 rfl (by kernel_rfl)) rfl ?_
  exact ⟨rfl, Tch.alloc _ _ _⟩

set_option maxRecDepth 100000 in
set_option maxHeartbeats 12800000 in
theorem awake35_any (w : World) :
    Calls Tryz.prog 30 #[] w fun x w' => x = .returned (.bool true) ∧ Tch (fun _ => False) w w' := by
  go_enter Tryz.func30, Tryz.ntmps30
  go_wp2_with fail
  refine (group_any w).mono ?_
  rintro _ w1 ⟨e, a, s, r, l, n, us, rfl, hB, t1⟩
  go_wp2_with fail
  refine (see_any hB groupBks_few groupBks_64).mono ?_
  rintro _ w2 ⟨hsee, t2⟩
  have tt := t1.trans t2
  clear hB t1 t2
  rcases hsee with ⟨h, _⟩ | ⟨_, bv, bi, B, t, mr, mp, e, a, s, r, l, n, lv, fs, us, rfl, hV⟩
  · rw [groupBks_ok] at h; cases h
  go_wp2_with fail
  refine (key35_any 4 4 w2).mono ?_
  rintro _ v1 ⟨rfl, t1⟩
  have hV := hV.keep t1
  go_wp2_with fail
  refine (splitrec_any hV group_hn (by decide) 4 2 4 0 1 0).mono ?_
  rintro _ u1 ⟨q1, rfl, h1, t2⟩
  rw [group_s1] at h1 ⊢
  obtain ⟨pt, mt, rfl, hpt, hmt⟩ := h1
  obtain ⟨P1, c1, rfl, _, _⟩ := hpt.form
  obtain ⟨M1, d1, rfl, _, _⟩ := hmt.form
  have hp1 := Lib.hid hpt
  have hm1 := Lib.hid hmt
  unfold rcpV
  simp only [List.length_nil] at hp1 hm1 ⊢
  have ta := Tch.alloc (fun _ => False) u1 (.cells #[.int .i64 0, .int .i64 0, .slice P1 0 c1, .slice M1 0 d1, .int .i64 7, .int .i64 2, .int .i64 4, .int .i64 0, .int .i64 1, .int .i64 0, .bool true, .int .i64 8000, .int .i64 10000, .bool true] 46)
  have x1 := Blk.new u1 46 #[.int .i64 0, .int .i64 0, .slice P1 0 c1, .slice M1 0 d1, .int .i64 7, .int .i64 2, .int .i64 4, .int .i64 0, .int .i64 1, .int .i64 0, .bool true, .int .i64 8000, .int .i64 10000, .bool true]
  have t3 := t2.trans ta
  have t4 := t1.trans t3
  have hV := hV.keep t3
  have tt := tt.trans t4
  have hp1 := Lib.hid (hp1.out.keep ta)
  have hm1 := Lib.hid (hm1.out.keep ta)
  clear hpt hmt ta t1 t2 t3 t4
  go_wp2_with fail
  generalize u1.alloc _ = W1 at *
  generalize u1.heap.size = y1 at *
  go_wp2_with fail
  refine (key35_any 4 5 W1).mono ?_
  rintro _ v2 ⟨rfl, t1⟩
  have hV := hV.keep t1
  go_wp2_with fail
  refine (splitrec_any hV group_hn (by decide) 4 2 5 0 1 0).mono ?_
  rintro _ u2 ⟨q2, rfl, h1, t2⟩
  rw [group_s2] at h1 ⊢
  obtain ⟨pt, mt, rfl, hpt, hmt⟩ := h1
  obtain ⟨P2, c2, rfl, _, _⟩ := hpt.form
  obtain ⟨M2, d2, rfl, _, _⟩ := hmt.form
  have hp2 := Lib.hid hpt
  have hm2 := Lib.hid hmt
  unfold rcpV
  simp only [List.length_nil, List.length_cons, Nat.zero_add] at hp2 hm2 ⊢
  have ta := Tch.alloc (fun _ => False) u2 (.cells #[.int .i64 0, .int .i64 0, .slice P2 1 c2, .slice M2 0 d2, .int .i64 0, .int .i64 0, .int .i64 0, .int .i64 0, .int .i64 0, .int .i64 0, .bool false, .int .i64 0, .int .i64 0, .bool false] 46)
  have x2 := Blk.new u2 46 #[.int .i64 0, .int .i64 0, .slice P2 1 c2, .slice M2 0 d2, .int .i64 0, .int .i64 0, .int .i64 0, .int .i64 0, .int .i64 0, .int .i64 0, .bool false, .int .i64 0, .int .i64 0, .bool false]
  have t3 := t2.trans ta
  have t4 := t1.trans t3
  have hV := hV.keep t3
  have tt := tt.trans t4
  have x1 := x1.keep t4 id
  have hp1 := Lib.hid (hp1.out.keep t4)
  have hm1 := Lib.hid (hm1.out.keep t4)
  have hp2 := Lib.hid (hp2.out.keep ta)
  have hm2 := Lib.hid (hm2.out.keep ta)
  clear hpt hmt ta t1 t2 t3 t4
  go_wp2_with fail
  generalize u2.alloc _ = W2 at *
  generalize u2.heap.size = y2 at *
  go_wp2_with fail
  refine (key35_any 5 4 W2).mono ?_
  rintro _ v3 ⟨rfl, t1⟩
  have hV := hV.keep t1
  go_wp2_with fail
  refine (splitrec_any hV group_hn (by decide) 5 2 4 0 1 0).mono ?_
  rintro _ u3 ⟨q3, rfl, h1, t2⟩
  rw [group_s3] at h1 ⊢
  obtain ⟨pt, mt, rfl, hpt, hmt⟩ := h1
  obtain ⟨P3, c3, rfl, _, _⟩ := hpt.form
  obtain ⟨M3, d3, rfl, _, _⟩ := hmt.form
  have hp3 := Lib.hid hpt
  have hm3 := Lib.hid hmt
  unfold rcpV
  simp only [List.length_nil, List.length_cons, Nat.zero_add] at hp3 hm3 ⊢
  have ta := Tch.alloc (fun _ => False) u3 (.cells #[.int .i64 0, .int .i64 0, .slice P3 1 c3, .slice M3 1 d3, .int .i64 0, .int .i64 0, .int .i64 0, .int .i64 0, .int .i64 0, .int .i64 0, .bool false, .int .i64 0, .int .i64 0, .bool false] 46)
  have x3 := Blk.new u3 46 #[.int .i64 0, .int .i64 0, .slice P3 1 c3, .slice M3 1 d3, .int .i64 0, .int .i64 0, .int .i64 0, .int .i64 0, .int .i64 0, .int .i64 0, .bool false, .int .i64 0, .int .i64 0, .bool false]
  have t3 := t2.trans ta
  have t4 := t1.trans t3
  have hV := hV.keep t3
  have tt := tt.trans t4
  have x1 := x1.keep t4 id
  have hp1 := Lib.hid (hp1.out.keep t4)
  have hm1 := Lib.hid (hm1.out.keep t4)
  have x2 := x2.keep t4 id
  have hp2 := Lib.hid (hp2.out.keep t4)
  have hm2 := Lib.hid (hm2.out.keep t4)
  have hp3 := Lib.hid (hp3.out.keep ta)
  have hm3 := Lib.hid (hm3.out.keep ta)
  clear hpt hmt ta t1 t2 t3 t4
  go_wp2_with fail
  generalize u3.alloc _ = W3 at *
  generalize u3.heap.size = y3 at *
  go_wp2_with fail
  refine (key35_any 7 4 W3).mono ?_
  rintro _ v4 ⟨rfl, t1⟩
  have hV := hV.keep t1
  go_wp2_with fail
  refine (splitrec_any hV group_hn (by decide) 7 2 4 0 1 0).mono ?_
  rintro _ u4 ⟨q4, rfl, h1, t2⟩
  rw [group_s4] at h1 ⊢
  obtain ⟨pt, mt, rfl, hpt, hmt⟩ := h1
  obtain ⟨P4, c4, rfl, _, _⟩ := hpt.form
  obtain ⟨M4, d4, rfl, _, _⟩ := hmt.form
  have hp4 := Lib.hid hpt
  have hm4 := Lib.hid hmt
  unfold rcpV
  simp only [List.length_nil] at hp4 hm4 ⊢
  have ta := Tch.alloc (fun _ => False) u4 (.cells #[.int .i64 0, .int .i64 0, .slice P4 0 c4, .slice M4 0 d4, .int .i64 0, .int .i64 0, .int .i64 0, .int .i64 0, .int .i64 0, .int .i64 0, .bool false, .int .i64 0, .int .i64 0, .bool false] 46)
  have x4 := Blk.new u4 46 #[.int .i64 0, .int .i64 0, .slice P4 0 c4, .slice M4 0 d4, .int .i64 0, .int .i64 0, .int .i64 0, .int .i64 0, .int .i64 0, .int .i64 0, .bool false, .int .i64 0, .int .i64 0, .bool false]
  have t3 := t2.trans ta
  have t4 := t1.trans t3
  have hV := hV.keep t3
  have tt := tt.trans t4
  have x1 := x1.keep t4 id
  have hp1 := Lib.hid (hp1.out.keep t4)
  have hm1 := Lib.hid (hm1.out.keep t4)
  have x2 := x2.keep t4 id
  have hp2 := Lib.hid (hp2.out.keep t4)
  have hm2 := Lib.hid (hm2.out.keep t4)
  have x3 := x3.keep t4 id
  have hp3 := Lib.hid (hp3.out.keep t4)
  have hm3 := Lib.hid (hm3.out.keep t4)
  have hp4 := Lib.hid (hp4.out.keep ta)
  have hm4 := Lib.hid (hm4.out.keep ta)
  clear hpt hmt ta t1 t2 t3 t4
  go_wp2_with fail
  generalize u4.alloc _ = W4 at *
  generalize u4.heap.size = y4 at *
  have hcmp1 : ∀ w' : World, (binOp .eql 31 (.agg #[.int .i64 7, .int .i64 2, .int .i64 4, .int .i64 0, .int .i64 1, .int .i64 0]) (.agg #[.int .i64 7, .int .i64 2, .int .i64 4, .int .i64 0, .int .i64 1, .int .i64 0])).run Tryz.prog w' = .ok (.bool true) w' := fun w' => by rw [run_eq_Cell]; simp
  have hcmp2 : ∀ w' : World, (binOp .eql 42 (.agg #[.int .i64 8000, .int .i64 10000]) (.agg #[.int .i64 8000, .int .i64 10000])).run Tryz.prog w' = .ok (.bool true) w' := fun w' => by rw [run_eq_Ratio]; simp
  have z1_4 := within_cell (F := fun _ => False) (show W4.cell? ⟨y1, 4, none⟩ = some (.int .i64 7) from x1.cell 4) id
  have z1_5 := within_cell (F := fun _ => False) (show W4.cell? ⟨y1, 5, none⟩ = some (.int .i64 2) from x1.cell 5) id
  have z1_6 := within_cell (F := fun _ => False) (show W4.cell? ⟨y1, 6, none⟩ = some (.int .i64 4) from x1.cell 6) id
  have z1_7 := within_cell (F := fun _ => False) (show W4.cell? ⟨y1, 7, none⟩ = some (.int .i64 0) from x1.cell 7) id
  have z1_8 := within_cell (F := fun _ => False) (show W4.cell? ⟨y1, 8, none⟩ = some (.int .i64 1) from x1.cell 8) id
  have z1_9 := within_cell (F := fun _ => False) (show W4.cell? ⟨y1, 9, none⟩ = some (.int .i64 0) from x1.cell 9) id
  have z1_10 := within_cell (F := fun _ => False) (show W4.cell? ⟨y1, 10, none⟩ = some (.bool true) from x1.cell 10) id
  have z1_11 := within_cell (F := fun _ => False) (show W4.cell? ⟨y1, 11, none⟩ = some (.int .i64 8000) from x1.cell 11) id
  have z1_12 := within_cell (F := fun _ => False) (show W4.cell? ⟨y1, 12, none⟩ = some (.int .i64 10000) from x1.cell 12) id
  have z1_13 := within_cell (F := fun _ => False) (show W4.cell? ⟨y1, 13, none⟩ = some (.bool true) from x1.cell 13) id
  have z2_2 := within_cell (F := fun _ => False) (show W4.cell? ⟨y2, 2, none⟩ = some (.slice P2 1 c2) from x2.cell 2) id
  have z2_10 := within_cell (F := fun _ => False) (show W4.cell? ⟨y2, 10, none⟩ = some (.bool false) from x2.cell 10) id
  have z3_2 := within_cell (F := fun _ => False) (show W4.cell? ⟨y3, 2, none⟩ = some (.slice P3 1 c3) from x3.cell 2) id
  have z3_3 := within_cell (F := fun _ => False) (show W4.cell? ⟨y3, 3, none⟩ = some (.slice M3 1 d3) from x3.cell 3) id
  have HS1 := Lib.hid (fun (w' : World) (t : Tch (fun _ => False) W4 w') (g : Nat) (hb : Blk w' g 31 #[.int .i64 7, .int .i64 2, .int .i64 5, .int .i64 0, .int .i64 1, .int .i64 0]) => refsame_any (l := [(7, 2, 5, 0, 1, 0)]) (hp2.out.keep t) (Row.blk hb trivial rfl (by decide)))
  simp only [List.length_nil, List.length_cons, Nat.zero_add] at HS1
  have HS2 := Lib.hid (fun (w' : World) (t : Tch (fun _ => False) W4 w') (g : Nat) (hb : Blk w' g 31 #[.int .i64 7, .int .i64 2, .int .i64 4, .int .i64 0, .int .i64 1, .int .i64 0]) => refsame_any (l := [(7, 2, 4, 0, 1, 0)]) (hp3.out.keep t) (Row.blk hb trivial rfl (by decide)))
  simp only [List.length_nil, List.length_cons, Nat.zero_add] at HS2
  have HS3 := Lib.hid (fun (w' : World) (t : Tch (fun _ => False) W4 w') (g : Nat) (hb : Blk w' g 31 #[.int .i64 4, .int .i64 2, .int .i64 4, .int .i64 0, .int .i64 1, .int .i64 0]) => refsame_any (l := [(4, 2, 4, 0, 1, 0)]) (hm3.out.keep t) (Row.blk hb trivial rfl (by decide)))
  simp only [List.length_nil, List.length_cons, Nat.zero_add] at HS3
  have HV := Lib.hid hV
  clear hV x1 x2 x3 x4 hp1 hp2 hp3 hp4 hm1 hm2 hm3 hm4
  obtain ⟨V1, hV1⟩ : ∃ V : Value → World → Prop, V = fun u w' => ∃ g, u = .slice (some ⟨g, 0, none⟩) 1 1 ∧ Blk w' g 31 #[.int .i64 7, .int .i64 2, .int .i64 5, .int .i64 0, .int .i64 1, .int .i64 0] := ⟨_, rfl⟩
  obtain ⟨V2, hV2⟩ : ∃ V : Value → World → Prop, V = fun u w' => ∃ g, u = .slice (some ⟨g, 0, none⟩) 1 1 ∧ Blk w' g 31 #[.int .i64 7, .int .i64 2, .int .i64 4, .int .i64 0, .int .i64 1, .int .i64 0] := ⟨_, rfl⟩
  obtain ⟨V3, hV3⟩ : ∃ V : Value → World → Prop, V = fun u w' => ∃ g, u = .slice (some ⟨g, 0, none⟩) 1 1 ∧ Blk w' g 31 #[.int .i64 4, .int .i64 2, .int .i64 4, .int .i64 0, .int .i64 1, .int .i64 0] := ⟨_, rfl⟩
  have HV1 := Lib.hid hV1
  have HV2 := Lib.hid hV2
  have HV3 := Lib.hid hV3
  clear hV1 hV2 hV3
  refine wp_region_touch (fun _ => False) [] 54 [(6, .inl (.agg #[.int .i64 7, .int .i64 2, .int .i64 4, .int .i64 0, .int .i64 1, .int .i64 0])), (28, .inl (.agg #[.int .i64 7, .int .i64 2, .int .i64 5, .int .i64 0, .int .i64 1, .int .i64 0])), (29, .inr V1), (30, .inl (.bool true)), (45, .inl (.agg #[.int .i64 7, .int .i64 2, .int .i64 4, .int .i64 0, .int .i64 1, .int .i64 0])), (46, .inr V2), (47, .inl (.bool true)), (52, .inl (.agg #[.int .i64 4, .int .i64 2, .int .i64 4, .int .i64 0, .int .i64 1, .int .i64 0])), (53, .inr V3)] [] (by kernel_rfl) rfl (by kernel_rfl) rfl (fun d _ _ _ _ h => by cases d <;> exact h) ?_ ?_
  · rw [HV1.out, HV2.out, HV3.out]
    exact ⟨fun _ _ _ hr ⟨g, h1, h2⟩ => ⟨g, h1, h2.keep hr id⟩, fun _ _ _ hr ⟨g, h1, h2⟩ => ⟨g, h1, h2.keep hr id⟩, fun _ _ _ hr ⟨g, h1, h2⟩ => ⟨g, h1, h2.keep hr id⟩, trivial⟩
  intro bef ops hbef hops
  have hb1 : (bef.getD 30 0).testBit 29 = true := by rw [hbef]; kernel_rfl
  have hb2 : (bef.getD 47 0).testBit 46 = true := by rw [hbef]; kernel_rfl
  clear hbef
  subst hops
  simp only [List.take_succ_cons, List.take_zero, List.drop_succ_cons, List.drop_zero]
  iterate 6 (refine t_det (by rfl) (by rfl) (by rfl) (by rfl) (fun K hK => ?_); go_big_quiet_op; (first | refine hK _ ?_ | refine ⟨_, fun _ => rfl, hK _ ?_⟩); clear hK K; (try simp only [Act.put, List.setIfInBounds_toArray, List.set_cons_succ, List.set_cons_zero]))
  refine t_fix (.agg #[.int .i64 7, .int .i64 2, .int .i64 4, .int .i64 0, .int .i64 1, .int .i64 0]) (by rfl) (by rfl) (fun w5 hr hf => ?_) ?_
  · refine yields_of_wp (d := 52) rfl (by simp) (fun K hK => ?_)
    go_step
    refine (key35_any 7 4 w5).mono ?_
    rintro _ w6 ⟨rfl, t6⟩
    exact hK _ _ ⟨⟨rfl, t6⟩, newAt_no⟩
  simp only [Act.put, List.setIfInBounds_toArray, List.set_cons_succ, List.set_cons_zero]
  iterate 21 (refine t_det (by rfl) (by rfl) (by rfl) (by rfl) (fun K hK => ?_); go_big_quiet_op; (first | refine hK _ ?_ | refine ⟨_, fun _ => rfl, hK _ ?_⟩); clear hK K; (try simp only [Act.put, List.setIfInBounds_toArray, List.set_cons_succ, List.set_cons_zero]))
  refine t_fix (.agg #[.int .i64 7, .int .i64 2, .int .i64 5, .int .i64 0, .int .i64 1, .int .i64 0]) (by rfl) (by rfl) (fun w5 hr hf => ?_) ?_
  · refine yields_of_wp (d := 74) rfl (by simp) (fun K hK => ?_)
    go_step
    refine (key35_any 7 5 w5).mono ?_
    rintro _ w6 ⟨rfl, t6⟩
    exact hK _ _ ⟨⟨rfl, t6⟩, newAt_no⟩
  simp only [Act.put, List.setIfInBounds_toArray, List.set_cons_succ, List.set_cons_zero]
  refine t_loose (by rfl) (by rfl) (fun w5 hr hf => ?_) (fun a1 => ?_)
  · refine yields_of_wp (d := 75) rfl (by simp) (fun K hK => ?_)
    go_step
    refine hK _ _ ⟨⟨?_, Tch.alloc _ _ _⟩, newAt_no⟩
    rw [HV1.out]
    exact ⟨_, rfl, Blk.new _ _ _⟩
  simp only [Act.put, List.setIfInBounds_toArray, List.set_cons_succ, List.set_cons_zero]
  refine t_fix (.bool true) (by rfl) (by rfl) (fun w5 hr hf => ?_) ?_
  · have hv := hf (29, fun w' => V1 a1 w') (by simp) hb1
    simp only at hv
    rw [HV1.out] at hv
    obtain ⟨g, rfl, hg⟩ := hv
    refine yields_of_wp (d := 76) rfl (by simp) (fun K hK => ?_)
    go_step
    refine (HS1.out w5 ((Tch.drew _ W4).trans hr) g hg).mono ?_
    rintro _ w6 ⟨rfl, t6⟩
    exact hK _ _ ⟨⟨rfl, t6⟩, newAt_no⟩
  simp only [Act.put, List.setIfInBounds_toArray, List.set_cons_succ, List.set_cons_zero]
  iterate 14 (refine t_det (by rfl) (by rfl) (by rfl) (by rfl) (fun K hK => ?_); go_big_quiet_op; (first | refine hK _ ?_ | refine ⟨_, fun _ => rfl, hK _ ?_⟩); clear hK K; (try simp only [Act.put, List.setIfInBounds_toArray, List.set_cons_succ, List.set_cons_zero]))
  refine t_fix (.agg #[.int .i64 7, .int .i64 2, .int .i64 4, .int .i64 0, .int .i64 1, .int .i64 0]) (by rfl) (by rfl) (fun w5 hr hf => ?_) ?_
  · refine yields_of_wp (d := 91) rfl (by simp) (fun K hK => ?_)
    go_step
    refine (key35_any 7 4 w5).mono ?_
    rintro _ w6 ⟨rfl, t6⟩
    exact hK _ _ ⟨⟨rfl, t6⟩, newAt_no⟩
  simp only [Act.put, List.setIfInBounds_toArray, List.set_cons_succ, List.set_cons_zero]
  refine t_loose (by rfl) (by rfl) (fun w5 hr hf => ?_) (fun a2 => ?_)
  · refine yields_of_wp (d := 92) rfl (by simp) (fun K hK => ?_)
    go_step
    refine hK _ _ ⟨⟨?_, Tch.alloc _ _ _⟩, newAt_no⟩
    rw [HV2.out]
    exact ⟨_, rfl, Blk.new _ _ _⟩
  simp only [Act.put, List.setIfInBounds_toArray, List.set_cons_succ, List.set_cons_zero]
  refine t_fix (.bool true) (by rfl) (by rfl) (fun w5 hr hf => ?_) ?_
  · have hv := hf (46, fun w' => V2 a2 w') (by simp) hb2
    simp only at hv
    rw [HV2.out] at hv
    obtain ⟨g, rfl, hg⟩ := hv
    refine yields_of_wp (d := 93) rfl (by simp) (fun K hK => ?_)
    go_step
    refine (HS2.out w5 ((Tch.drew _ W4).trans hr) g hg).mono ?_
    rintro _ w6 ⟨rfl, t6⟩
    exact hK _ _ ⟨⟨rfl, t6⟩, newAt_no⟩
  simp only [Act.put, List.setIfInBounds_toArray, List.set_cons_succ, List.set_cons_zero]
  iterate 4 (refine t_det (by rfl) (by rfl) (by rfl) (by rfl) (fun K hK => ?_); go_big_quiet_op; (first | refine hK _ ?_ | refine ⟨_, fun _ => rfl, hK _ ?_⟩); clear hK K; (try simp only [Act.put, List.setIfInBounds_toArray, List.set_cons_succ, List.set_cons_zero]))
  refine t_fix (.agg #[.int .i64 4, .int .i64 2, .int .i64 4, .int .i64 0, .int .i64 1, .int .i64 0]) (by rfl) (by rfl) (fun w5 hr hf => ?_) ?_
  · refine yields_of_wp (d := 98) rfl (by simp) (fun K hK => ?_)
    go_step
    refine (key35_any 4 4 w5).mono ?_
    rintro _ w6 ⟨rfl, t6⟩
    exact hK _ _ ⟨⟨rfl, t6⟩, newAt_no⟩
  simp only [Act.put, List.setIfInBounds_toArray, List.set_cons_succ, List.set_cons_zero]
  refine t_loose (by rfl) (by rfl) (fun w5 hr hf => ?_) (fun a3 => ?_)
  · refine yields_of_wp (d := 99) rfl (by simp) (fun K hK => ?_)
    go_step
    refine hK _ _ ⟨⟨?_, Tch.alloc _ _ _⟩, newAt_no⟩
    rw [HV3.out]
    exact ⟨_, rfl, Blk.new _ _ _⟩
  simp only [Act.put, List.setIfInBounds_toArray, List.set_cons_succ, List.set_cons_zero]
  refine t_nil ?_
  intro w5 hr hp hap
  have hv := hp (53, fun w' => V3 a3 w') (by simp)
  simp only at hv
  rw [HV3.out] at hv
  obtain ⟨g, rfl, hg⟩ := hv
  have t5 := (Tch.drew (fun _ => False) W4).trans hr
  have HC := Lib.hid (HS3.out w5 t5 g hg)
  have tt5 := tt.trans t5
  clear hap hp hr hb1 hb2 HS1 HS2 HS3 HV1 HV2 HV3 hg z1_4 z1_5 z1_6 z1_7 z1_8 z1_9 z1_10 z1_11 z1_12 z1_13 z2_2 z2_10 z3_2 z3_3
  go_wp2_with fail
  refine HC.out.mono ?_
  rintro _ w6 ⟨rfl, t6⟩
  go_wp2
  go_ret
  exact ⟨rfl, tt5.trans t6⟩
end Go.Proofs.YtifdnhghjgklkaaGreat
