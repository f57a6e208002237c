/-
  The probe of layer 36.
-/
import Derived.Test.YtblenmelciaigaaGreatZ29
import Derived.Test.YtblenmelciaigaaGreatZ32
namespace Go.Gk
theorem group_c1 : consOf groupBks (7, 1, 4, 0, 1, 0) = (⟨(0, 0), [(3, 1, 4, 0, 1, 0), (4, 2, 4, 0, 1, 0), (4, 3, 4, 0, 1, 0), (6, 1, 4, 0, 1, 0)], [], (0, 0, 0, 0, 0, 0), false, (0, 0), false⟩, 0) := by decide +kernel
theorem group_c2 : consOf groupBks (7, 1, 2, 0, 1, 0) = (⟨(0, 0), [(3, 1, 2, 0, 1, 0), (4, 2, 2, 0, 1, 0), (4, 3, 2, 0, 1, 0), (5, 2, 1, 0, 1, 0), (5, 2, 4, 0, 1, 0), (5, 3, 1, 0, 1, 0), (5, 3, 4, 0, 1, 0), (6, 1, 2, 0, 1, 0)], [], (0, 0, 0, 0, 0, 0), false, (0, 0), false⟩, 0) := by decide +kernel
theorem group_c3 : consOf groupBks (7, 3, 2, 0, 1, 0) = (⟨(0, 0), [(3, 3, 2, 0, 1, 0), (6, 3, 2, 0, 1, 0)], [], (0, 0, 0, 0, 0, 0), false, (0, 0), false⟩, 0) := by decide +kernel
theorem group_c4 : consOf groupBks (4, 2, 4, 0, 1, 0) = (⟨(0, 0), [], [], (0, 0, 0, 0, 0, 0), false, (0, 0), false⟩, 25) := by decide +kernel
theorem group_splits : splitsOf groupBks = [1, 4] := by decide +kernel
end Go.Gk
namespace Go.Proofs.YtblenmelciaigaaGreat
open Go.RowKit Go.Gk

set_option maxRecDepth 100000 in
set_option maxHeartbeats 800000 in
theorem key36_any (r e a : Int) (w : World) :
    Calls Tryz.prog 15 #[.int .i64 r, .int .i64 e, .int .i64 a] w fun x w' => x = .returned (.agg #[.int .i64 r, .int .i64 e, .int .i64 a, .int .i64 0, .int .i64 1, .int .i64 0]) ∧ Tch (fun _ => False) w w' := by
  go_enter Tryz.func15, Tryz.ntmps15
  go_wp2
  refine bodyPost_ret (results_cell_row (P := Tryz.prog) rfl _ _ (w.heap.size) 31 _ (0, 0) _ rfl (Blk.new w 31 _) Tryz.underlying31 rfl (by kernel_rfl)) rfl ?_
  exact ⟨rfl, Tch.alloc _ _ _⟩

set_option maxRecDepth 100000 in
set_option maxHeartbeats 25600000 in
theorem awake36_any (w : World) :
    Calls Tryz.prog 5 #[] w fun x w' => x = .returned (.bool true) ∧ Tch (fun _ => False) w w' := by
  go_enter Tryz.func5, Tryz.ntmps5
  go_wp2_with fail
  refine (group_any w).mono ?_
  rintro _ w1 ⟨e, a, s, r, l, n, us, rfl, hB, t1⟩
  go_wp2_with fail
  refine (see_any hB groupBks_few groupBks_64).mono ?_
  rintro _ w2 ⟨hsee, t2⟩
  have tt := t1.trans t2
  clear hB t1 t2
  rcases hsee with ⟨h, _⟩ | ⟨_, bv, bi, B, t, mr, mp, e, a, s, r, l, n, lv, fs, us, rfl, hV⟩
  · rw [groupBks_ok] at h; cases h
  go_wp2_with fail
  refine (key36_any 7 1 4 w2).mono ?_
  rintro _ v1 ⟨rfl, t1⟩
  have hV := hV.keep t1
  go_wp2_with fail
  refine (consrec_any hV group_hn (by decide) (by decide) 7 1 4 0 1 0).mono ?_
  rintro _ u1 ⟨q1, rfl, h1, t2⟩
  rw [group_c1] at h1 ⊢
  obtain ⟨pt, mt, rfl, hpt, hmt⟩ := h1
  obtain ⟨P1, c1, rfl, _, _⟩ := hpt.form
  obtain ⟨M1, d1, rfl, _, _⟩ := hmt.form
  have hp1 := Lib.hid hpt
  unfold rcpV
  simp only [List.length_nil, List.length_cons, Nat.zero_add, Nat.reduceAdd] at hp1 ⊢
  have ta := Tch.alloc (fun _ => False) u1 (.cells #[.int .i64 0, .int .i64 0, .slice P1 4 c1, .slice M1 0 d1, .int .i64 0, .int .i64 0, .int .i64 0, .int .i64 0, .int .i64 0, .int .i64 0, .bool false, .int .i64 0, .int .i64 0, .bool false] 46)
  have x1 := Blk.new u1 46 #[.int .i64 0, .int .i64 0, .slice P1 4 c1, .slice M1 0 d1, .int .i64 0, .int .i64 0, .int .i64 0, .int .i64 0, .int .i64 0, .int .i64 0, .bool false, .int .i64 0, .int .i64 0, .bool false]
  have t3 := t2.trans ta
  have t4 := t1.trans t3
  have hV := hV.keep t3
  have tt := tt.trans t4
  have hp1 := Lib.hid (hp1.out.keep ta)
  clear hpt hmt ta t1 t2 t3 t4
  go_wp2_with fail
  generalize u1.alloc _ = W1 at *
  generalize u1.heap.size = y1 at *
  go_wp2_with fail
  refine (key36_any 7 1 2 W1).mono ?_
  rintro _ v2 ⟨rfl, t1⟩
  have hV := hV.keep t1
  go_wp2_with fail
  refine (consrec_any hV group_hn (by decide) (by decide) 7 1 2 0 1 0).mono ?_
  rintro _ u2 ⟨q2, rfl, h1, t2⟩
  rw [group_c2] at h1 ⊢
  obtain ⟨pt, mt, rfl, hpt, hmt⟩ := h1
  obtain ⟨P2, c2, rfl, _, _⟩ := hpt.form
  obtain ⟨M2, d2, rfl, _, _⟩ := hmt.form
  have hp2 := Lib.hid hpt
  unfold rcpV
  simp only [List.length_nil, List.length_cons, Nat.zero_add, Nat.reduceAdd] at hp2 ⊢
  have ta := Tch.alloc (fun _ => False) u2 (.cells #[.int .i64 0, .int .i64 0, .slice P2 8 c2, .slice M2 0 d2, .int .i64 0, .int .i64 0, .int .i64 0, .int .i64 0, .int .i64 0, .int .i64 0, .bool false, .int .i64 0, .int .i64 0, .bool false] 46)
  have x2 := Blk.new u2 46 #[.int .i64 0, .int .i64 0, .slice P2 8 c2, .slice M2 0 d2, .int .i64 0, .int .i64 0, .int .i64 0, .int .i64 0, .int .i64 0, .int .i64 0, .bool false, .int .i64 0, .int .i64 0, .bool false]
  have t3 := t2.trans ta
  have t4 := t1.trans t3
  have hV := hV.keep t3
  have tt := tt.trans t4
  have x1 := x1.keep t4 id
  have hp1 := Lib.hid (hp1.out.keep t4)
  have hp2 := Lib.hid (hp2.out.keep ta)
  clear hpt hmt ta t1 t2 t3 t4
  go_wp2_with fail
  generalize u2.alloc _ = W2 at *
  generalize u2.heap.size = y2 at *
  go_wp2_with fail
  refine (key36_any 7 3 2 W2).mono ?_
  rintro _ v3 ⟨rfl, t1⟩
  have hV := hV.keep t1
  go_wp2_with fail
  refine (consrec_any hV group_hn (by decide) (by decide) 7 3 2 0 1 0).mono ?_
  rintro _ u3 ⟨q3, rfl, h1, t2⟩
  rw [group_c3] at h1 ⊢
  obtain ⟨pt, mt, rfl, hpt, hmt⟩ := h1
  obtain ⟨P3, c3, rfl, _, _⟩ := hpt.form
  obtain ⟨M3, d3, rfl, _, _⟩ := hmt.form
  have hp3 := Lib.hid hpt
  unfold rcpV
  simp only [List.length_nil, List.length_cons, Nat.zero_add, Nat.reduceAdd] at hp3 ⊢
  have ta := Tch.alloc (fun _ => False) u3 (.cells #[.int .i64 0, .int .i64 0, .slice P3 2 c3, .slice M3 0 d3, .int .i64 0, .int .i64 0, .int .i64 0, .int .i64 0, .int .i64 0, .int .i64 0, .bool false, .int .i64 0, .int .i64 0, .bool false] 46)
  have x3 := Blk.new u3 46 #[.int .i64 0, .int .i64 0, .slice P3 2 c3, .slice M3 0 d3, .int .i64 0, .int .i64 0, .int .i64 0, .int .i64 0, .int .i64 0, .int .i64 0, .bool false, .int .i64 0, .int .i64 0, .bool false]
  have t3 := t2.trans ta
  have t4 := t1.trans t3
  have hV := hV.keep t3
  have tt := tt.trans t4
  have x1 := x1.keep t4 id
  have hp1 := Lib.hid (hp1.out.keep t4)
  have x2 := x2.keep t4 id
  have hp2 := Lib.hid (hp2.out.keep t4)
  have hp3 := Lib.hid (hp3.out.keep ta)
  clear hpt hmt ta t1 t2 t3 t4
  go_wp2_with fail
  generalize u3.alloc _ = W3 at *
  generalize u3.heap.size = y3 at *
  go_wp2_with fail
  refine (key36_any 4 2 4 W3).mono ?_
  rintro _ v4 ⟨rfl, t1⟩
  have hV := hV.keep t1
  go_wp2_with fail
  refine (consrec_any hV group_hn (by decide) (by decide) 4 2 4 0 1 0).mono ?_
  rintro _ u4 ⟨q4, rfl, h1, t2⟩
  rw [group_c4] at h1 ⊢
  obtain ⟨pt, mt, rfl, hpt, hmt⟩ := h1
  obtain ⟨P4, c4, rfl, _, _⟩ := hpt.form
  obtain ⟨M4, d4, rfl, _, _⟩ := hmt.form
  have hp4 := Lib.hid hpt
  unfold rcpV
  simp only [List.length_nil] at hp4 ⊢
  have ta := Tch.alloc (fun _ => False) u4 (.cells #[.int .i64 0, .int .i64 0, .slice P4 0 c4, .slice M4 0 d4, .int .i64 0, .int .i64 0, .int .i64 0, .int .i64 0, .int .i64 0, .int .i64 0, .bool false, .int .i64 0, .int .i64 0, .bool false] 46)
  have x4 := Blk.new u4 46 #[.int .i64 0, .int .i64 0, .slice P4 0 c4, .slice M4 0 d4, .int .i64 0, .int .i64 0, .int .i64 0, .int .i64 0, .int .i64 0, .int .i64 0, .bool false, .int .i64 0, .int .i64 0, .bool false]
  have t3 := t2.trans ta
  have t4 := t1.trans t3
  have hV := hV.keep t3
  have tt := tt.trans t4
  have x1 := x1.keep t4 id
  have hp1 := Lib.hid (hp1.out.keep t4)
  have x2 := x2.keep t4 id
  have hp2 := Lib.hid (hp2.out.keep t4)
  have x3 := x3.keep t4 id
  have hp3 := Lib.hid (hp3.out.keep t4)
  have hp4 := Lib.hid (hp4.out.keep ta)
  clear hpt hmt ta t1 t2 t3 t4
  go_wp2_with fail
  generalize u4.alloc _ = W4 at *
  generalize u4.heap.size = y4 at *
  have z1 := within_cell (F := fun _ => False) (show W4.cell? ⟨y1, 2, none⟩ = some (.slice P1 4 c1) from x1.cell 2) id
  have z2 := within_cell (F := fun _ => False) (show W4.cell? ⟨y2, 2, none⟩ = some (.slice P2 8 c2) from x2.cell 2) id
  have z3 := within_cell (F := fun _ => False) (show W4.cell? ⟨y3, 2, none⟩ = some (.slice P3 2 c3) from x3.cell 2) id
  have HS1 := Lib.hid (fun (w' : World) (t : Tch (fun _ => False) W4 w') (g : Nat) (hb : Blk w' g 31 #[.int .i64 3, .int .i64 1, .int .i64 4, .int .i64 0, .int .i64 1, .int .i64 0, .int .i64 4, .int .i64 2, .int .i64 4, .int .i64 0, .int .i64 1, .int .i64 0, .int .i64 4, .int .i64 3, .int .i64 4, .int .i64 0, .int .i64 1, .int .i64 0, .int .i64 6, .int .i64 1, .int .i64 4, .int .i64 0, .int .i64 1, .int .i64 0]) => refsame_any (l := [(3, 1, 4, 0, 1, 0), (4, 2, 4, 0, 1, 0), (4, 3, 4, 0, 1, 0), (6, 1, 4, 0, 1, 0)]) (hp1.out.keep t) (Row.blk hb trivial rfl (by decide)))
  simp only [List.length_nil, List.length_cons, Nat.zero_add, Nat.reduceAdd] at HS1
  have HS2 := Lib.hid (fun (w' : World) (t : Tch (fun _ => False) W4 w') (g : Nat) (hb : Blk w' g 31 #[.int .i64 3, .int .i64 1, .int .i64 2, .int .i64 0, .int .i64 1, .int .i64 0, .int .i64 4, .int .i64 2, .int .i64 2, .int .i64 0, .int .i64 1, .int .i64 0, .int .i64 4, .int .i64 3, .int .i64 2, .int .i64 0, .int .i64 1, .int .i64 0, .int .i64 5, .int .i64 2, .int .i64 1, .int .i64 0, .int .i64 1, .int .i64 0, .int .i64 5, .int .i64 2, .int .i64 4, .int .i64 0, .int .i64 1, .int .i64 0, .int .i64 5, .int .i64 3, .int .i64 1, .int .i64 0, .int .i64 1, .int .i64 0, .int .i64 5, .int .i64 3, .int .i64 4, .int .i64 0, .int .i64 1, .int .i64 0, .int .i64 6, .int .i64 1, .int .i64 2, .int .i64 0, .int .i64 1, .int .i64 0]) => refsame_any (l := [(3, 1, 2, 0, 1, 0), (4, 2, 2, 0, 1, 0), (4, 3, 2, 0, 1, 0), (5, 2, 1, 0, 1, 0), (5, 2, 4, 0, 1, 0), (5, 3, 1, 0, 1, 0), (5, 3, 4, 0, 1, 0), (6, 1, 2, 0, 1, 0)]) (hp2.out.keep t) (Row.blk hb trivial rfl (by decide)))
  simp only [List.length_nil, List.length_cons, Nat.zero_add, Nat.reduceAdd] at HS2
  have HS3 := Lib.hid (fun (w' : World) (t : Tch (fun _ => False) W4 w') (g : Nat) (hb : Blk w' g 31 #[.int .i64 3, .int .i64 3, .int .i64 2, .int .i64 0, .int .i64 1, .int .i64 0, .int .i64 6, .int .i64 3, .int .i64 2, .int .i64 0, .int .i64 1, .int .i64 0]) => refsame_any (l := [(3, 3, 2, 0, 1, 0), (6, 3, 2, 0, 1, 0)]) (hp3.out.keep t) (Row.blk hb trivial rfl (by decide)))
  simp only [List.length_nil, List.length_cons, Nat.zero_add, Nat.reduceAdd] at HS3
  have HSP := Lib.hid (fun (w' : World) (t : Tch (fun _ => False) W4 w') => conssplit_any (hV.keep t) group_hn)
  rw [group_splits] at HSP
  clear hV x1 x2 x3 x4 hp1 hp2 hp3 hp4
  obtain ⟨V1, hV1⟩ : ∃ V : Value → World → Prop, V = fun u w' => ∃ g, u = .slice (some ⟨g, 0, none⟩) 4 4 ∧ Blk w' g 31 #[.int .i64 3, .int .i64 1, .int .i64 4, .int .i64 0, .int .i64 1, .int .i64 0, .int .i64 4, .int .i64 2, .int .i64 4, .int .i64 0, .int .i64 1, .int .i64 0, .int .i64 4, .int .i64 3, .int .i64 4, .int .i64 0, .int .i64 1, .int .i64 0, .int .i64 6, .int .i64 1, .int .i64 4, .int .i64 0, .int .i64 1, .int .i64 0] := ⟨_, rfl⟩
  obtain ⟨V2, hV2⟩ : ∃ V : Value → World → Prop, V = fun u w' => ∃ g, u = .slice (some ⟨g, 0, none⟩) 8 8 ∧ Blk w' g 31 #[.int .i64 3, .int .i64 1, .int .i64 2, .int .i64 0, .int .i64 1, .int .i64 0, .int .i64 4, .int .i64 2, .int .i64 2, .int .i64 0, .int .i64 1, .int .i64 0, .int .i64 4, .int .i64 3, .int .i64 2, .int .i64 0, .int .i64 1, .int .i64 0, .int .i64 5, .int .i64 2, .int .i64 1, .int .i64 0, .int .i64 1, .int .i64 0, .int .i64 5, .int .i64 2, .int .i64 4, .int .i64 0, .int .i64 1, .int .i64 0, .int .i64 5, .int .i64 3, .int .i64 1, .int .i64 0, .int .i64 1, .int .i64 0, .int .i64 5, .int .i64 3, .int .i64 4, .int .i64 0, .int .i64 1, .int .i64 0, .int .i64 6, .int .i64 1, .int .i64 2, .int .i64 0, .int .i64 1, .int .i64 0] := ⟨_, rfl⟩
  obtain ⟨V3, hV3⟩ : ∃ V : Value → World → Prop, V = fun u w' => ∃ g, u = .slice (some ⟨g, 0, none⟩) 2 2 ∧ Blk w' g 31 #[.int .i64 3, .int .i64 3, .int .i64 2, .int .i64 0, .int .i64 1, .int .i64 0, .int .i64 6, .int .i64 3, .int .i64 2, .int .i64 0, .int .i64 1, .int .i64 0] := ⟨_, rfl⟩
  obtain ⟨V4, hV4⟩ : ∃ V : Value → World → Prop, V = fun u w' => RowsOf int1 1 (fun _ => True) w' u [1, 4] := ⟨_, rfl⟩
  obtain ⟨V5, hV5⟩ : ∃ V : Value → World → Prop, V = fun u w' => ∃ g, u = .slice (some ⟨g, 0, none⟩) 2 2 ∧ Blk w' g 3 #[.int .i64 1, .int .i64 4] := ⟨_, rfl⟩
  have HV1 := Lib.hid hV1
  have HV2 := Lib.hid hV2
  have HV3 := Lib.hid hV3
  have HV4 := Lib.hid hV4
  have HV5 := Lib.hid hV5
  clear hV1 hV2 hV3 hV4 hV5
  refine wp_region_touch (fun _ => False) [] 50 [(5, .inl (.agg #[.int .i64 3, .int .i64 1, .int .i64 4, .int .i64 0, .int .i64 1, .int .i64 0])), (6, .inl (.agg #[.int .i64 4, .int .i64 2, .int .i64 4, .int .i64 0, .int .i64 1, .int .i64 0])), (7, .inl (.agg #[.int .i64 4, .int .i64 3, .int .i64 4, .int .i64 0, .int .i64 1, .int .i64 0])), (8, .inl (.agg #[.int .i64 6, .int .i64 1, .int .i64 4, .int .i64 0, .int .i64 1, .int .i64 0])), (9, .inr V1), (10, .inl (.bool true)), (19, .inl (.agg #[.int .i64 3, .int .i64 1, .int .i64 2, .int .i64 0, .int .i64 1, .int .i64 0])), (20, .inl (.agg #[.int .i64 4, .int .i64 2, .int .i64 2, .int .i64 0, .int .i64 1, .int .i64 0])), (21, .inl (.agg #[.int .i64 4, .int .i64 3, .int .i64 2, .int .i64 0, .int .i64 1, .int .i64 0])), (22, .inl (.agg #[.int .i64 5, .int .i64 2, .int .i64 1, .int .i64 0, .int .i64 1, .int .i64 0])), (23, .inl (.agg #[.int .i64 5, .int .i64 2, .int .i64 4, .int .i64 0, .int .i64 1, .int .i64 0])), (24, .inl (.agg #[.int .i64 5, .int .i64 3, .int .i64 1, .int .i64 0, .int .i64 1, .int .i64 0])), (25, .inl (.agg #[.int .i64 5, .int .i64 3, .int .i64 4, .int .i64 0, .int .i64 1, .int .i64 0])), (26, .inl (.agg #[.int .i64 6, .int .i64 1, .int .i64 2, .int .i64 0, .int .i64 1, .int .i64 0])), (27, .inr V2), (28, .inl (.bool true)), (37, .inl (.agg #[.int .i64 3, .int .i64 3, .int .i64 2, .int .i64 0, .int .i64 1, .int .i64 0])), (38, .inl (.agg #[.int .i64 6, .int .i64 3, .int .i64 2, .int .i64 0, .int .i64 1, .int .i64 0])), (39, .inr V3), (40, .inl (.bool true)), (48, .inr V4), (49, .inr V5)] [] (by kernel_rfl) rfl (by kernel_rfl) rfl (fun d _ _ _ _ h => by cases d <;> exact h) ?_ ?_
  · rw [HV1.out, HV2.out, HV3.out, HV4.out, HV5.out]
    exact ⟨fun _ _ _ hr ⟨g, h1, h2⟩ => ⟨g, h1, h2.keep hr id⟩, fun _ _ _ hr ⟨g, h1, h2⟩ => ⟨g, h1, h2.keep hr id⟩, fun _ _ _ hr ⟨g, h1, h2⟩ => ⟨g, h1, h2.keep hr id⟩, fun _ _ _ hr h => h.keep hr, fun _ _ _ hr ⟨g, h1, h2⟩ => ⟨g, h1, h2.keep hr id⟩, trivial⟩
  intro bef ops hbef hops
  have hb1 : (bef.getD 10 0).testBit 9 = true := by rw [hbef]; kernel_rfl
  have hb2 : (bef.getD 28 0).testBit 27 = true := by rw [hbef]; kernel_rfl
  have hb3 : (bef.getD 40 0).testBit 39 = true := by rw [hbef]; kernel_rfl
  clear hbef
  subst hops
  simp only [List.take_succ_cons, List.take_zero, List.drop_succ_cons, List.drop_zero]
  iterate 5 (refine t_det (by rfl) (by rfl) (by rfl) (by rfl) (fun K hK => ?_); go_big_quiet_op; (first | refine hK _ ?_ | refine ⟨_, fun _ => rfl, hK _ ?_⟩); clear hK K; (try simp only [Act.put, List.setIfInBounds_toArray, List.set_cons_succ, List.set_cons_zero]))
  refine t_fix (.agg #[.int .i64 3, .int .i64 1, .int .i64 4, .int .i64 0, .int .i64 1, .int .i64 0]) (by rfl) (by rfl) (fun w5 hr hf => ?_) ?_
  · refine yields_of_wp (d := 51) rfl (by simp) (fun K hK => ?_)
    go_step
    refine (key36_any 3 1 4 w5).mono ?_
    rintro _ w6 ⟨rfl, t6⟩
    exact hK _ _ ⟨⟨rfl, t6⟩, newAt_no⟩
  simp only [Act.put, List.setIfInBounds_toArray, List.set_cons_succ, List.set_cons_zero]
  refine t_fix (.agg #[.int .i64 4, .int .i64 2, .int .i64 4, .int .i64 0, .int .i64 1, .int .i64 0]) (by rfl) (by rfl) (fun w5 hr hf => ?_) ?_
  · refine yields_of_wp (d := 52) rfl (by simp) (fun K hK => ?_)
    go_step
    refine (key36_any 4 2 4 w5).mono ?_
    rintro _ w6 ⟨rfl, t6⟩
    exact hK _ _ ⟨⟨rfl, t6⟩, newAt_no⟩
  simp only [Act.put, List.setIfInBounds_toArray, List.set_cons_succ, List.set_cons_zero]
  refine t_fix (.agg #[.int .i64 4, .int .i64 3, .int .i64 4, .int .i64 0, .int .i64 1, .int .i64 0]) (by rfl) (by rfl) (fun w5 hr hf => ?_) ?_
  · refine yields_of_wp (d := 53) rfl (by simp) (fun K hK => ?_)
    go_step
    refine (key36_any 4 3 4 w5).mono ?_
    rintro _ w6 ⟨rfl, t6⟩
    exact hK _ _ ⟨⟨rfl, t6⟩, newAt_no⟩
  simp only [Act.put, List.setIfInBounds_toArray, List.set_cons_succ, List.set_cons_zero]
  refine t_fix (.agg #[.int .i64 6, .int .i64 1, .int .i64 4, .int .i64 0, .int .i64 1, .int .i64 0]) (by rfl) (by rfl) (fun w5 hr hf => ?_) ?_
  · refine yields_of_wp (d := 54) rfl (by simp) (fun K hK => ?_)
    go_step
    refine (key36_any 6 1 4 w5).mono ?_
    rintro _ w6 ⟨rfl, t6⟩
    exact hK _ _ ⟨⟨rfl, t6⟩, newAt_no⟩
  simp only [Act.put, List.setIfInBounds_toArray, List.set_cons_succ, List.set_cons_zero]
  refine t_loose (by rfl) (by rfl) (fun w5 hr hf => ?_) (fun a1 => ?_)
  · refine yields_of_wp (d := 55) rfl (by simp) (fun K hK => ?_)
    go_step
    refine hK _ _ ⟨⟨?_, Tch.alloc _ _ _⟩, newAt_no⟩
    rw [HV1.out]
    exact ⟨_, rfl, Blk.new _ _ _⟩
  simp only [Act.put, List.setIfInBounds_toArray, List.set_cons_succ, List.set_cons_zero]
  refine t_fix (.bool true) (by rfl) (by rfl) (fun w5 hr hf => ?_) ?_
  · have hv := hf (9, fun w' => V1 a1 w') (by simp) hb1
    simp only at hv
    rw [HV1.out] at hv
    obtain ⟨g, rfl, hg⟩ := hv
    refine yields_of_wp (d := 56) rfl (by simp) (fun K hK => ?_)
    go_step
    refine (HS1.out w5 ((Tch.drew _ W4).trans hr) g hg).mono ?_
    rintro _ w6 ⟨rfl, t6⟩
    exact hK _ _ ⟨⟨rfl, t6⟩, newAt_no⟩
  simp only [Act.put, List.setIfInBounds_toArray, List.set_cons_succ, List.set_cons_zero]
  iterate 8 (refine t_det (by rfl) (by rfl) (by rfl) (by rfl) (fun K hK => ?_); go_big_quiet_op; (first | refine hK _ ?_ | refine ⟨_, fun _ => rfl, hK _ ?_⟩); clear hK K; (try simp only [Act.put, List.setIfInBounds_toArray, List.set_cons_succ, List.set_cons_zero]))
  refine t_fix (.agg #[.int .i64 3, .int .i64 1, .int .i64 2, .int .i64 0, .int .i64 1, .int .i64 0]) (by rfl) (by rfl) (fun w5 hr hf => ?_) ?_
  · refine yields_of_wp (d := 65) rfl (by simp) (fun K hK => ?_)
    go_step
    refine (key36_any 3 1 2 w5).mono ?_
    rintro _ w6 ⟨rfl, t6⟩
    exact hK _ _ ⟨⟨rfl, t6⟩, newAt_no⟩
  simp only [Act.put, List.setIfInBounds_toArray, List.set_cons_succ, List.set_cons_zero]
  refine t_fix (.agg #[.int .i64 4, .int .i64 2, .int .i64 2, .int .i64 0, .int .i64 1, .int .i64 0]) (by rfl) (by rfl) (fun w5 hr hf => ?_) ?_
  · refine yields_of_wp (d := 66) rfl (by simp) (fun K hK => ?_)
    go_step
    refine (key36_any 4 2 2 w5).mono ?_
    rintro _ w6 ⟨rfl, t6⟩
    exact hK _ _ ⟨⟨rfl, t6⟩, newAt_no⟩
  simp only [Act.put, List.setIfInBounds_toArray, List.set_cons_succ, List.set_cons_zero]
  refine t_fix (.agg #[.int .i64 4, .int .i64 3, .int .i64 2, .int .i64 0, .int .i64 1, .int .i64 0]) (by rfl) (by rfl) (fun w5 hr hf => ?_) ?_
  · refine yields_of_wp (d := 67) rfl (by simp) (fun K hK => ?_)
    go_step
    refine (key36_any 4 3 2 w5).mono ?_
    rintro _ w6 ⟨rfl, t6⟩
    exact hK _ _ ⟨⟨rfl, t6⟩, newAt_no⟩
  simp only [Act.put, List.setIfInBounds_toArray, List.set_cons_succ, List.set_cons_zero]
  refine t_fix (.agg #[.int .i64 5, .int .i64 2, .int .i64 1, .int .i64 0, .int .i64 1, .int .i64 0]) (by rfl) (by rfl) (fun w5 hr hf => ?_) ?_
  · refine yields_of_wp (d := 68) rfl (by simp) (fun K hK => ?_)
    go_step
    refine (key36_any 5 2 1 w5).mono ?_
    rintro _ w6 ⟨rfl, t6⟩
    exact hK _ _ ⟨⟨rfl, t6⟩, newAt_no⟩
  simp only [Act.put, List.setIfInBounds_toArray, List.set_cons_succ, List.set_cons_zero]
  refine t_fix (.agg #[.int .i64 5, .int .i64 2, .int .i64 4, .int .i64 0, .int .i64 1, .int .i64 0]) (by rfl) (by rfl) (fun w5 hr hf => ?_) ?_
  · refine yields_of_wp (d := 69) rfl (by simp) (fun K hK => ?_)
    go_step
    refine (key36_any 5 2 4 w5).mono ?_
    rintro _ w6 ⟨rfl, t6⟩
    exact hK _ _ ⟨⟨rfl, t6⟩, newAt_no⟩
  simp only [Act.put, List.setIfInBounds_toArray, List.set_cons_succ, List.set_cons_zero]
  refine t_fix (.agg #[.int .i64 5, .int .i64 3, .int .i64 1, .int .i64 0, .int .i64 1, .int .i64 0]) (by rfl) (by rfl) (fun w5 hr hf => ?_) ?_
  · refine yields_of_wp (d := 70) rfl (by simp) (fun K hK => ?_)
    go_step
    refine (key36_any 5 3 1 w5).mono ?_
    rintro _ w6 ⟨rfl, t6⟩
    exact hK _ _ ⟨⟨rfl, t6⟩, newAt_no⟩
  simp only [Act.put, List.setIfInBounds_toArray, List.set_cons_succ, List.set_cons_zero]
  refine t_fix (.agg #[.int .i64 5, .int .i64 3, .int .i64 4, .int .i64 0, .int .i64 1, .int .i64 0]) (by rfl) (by rfl) (fun w5 hr hf => ?_) ?_
  · refine yields_of_wp (d := 71) rfl (by simp) (fun K hK => ?_)
    go_step
    refine (key36_any 5 3 4 w5).mono ?_
    rintro _ w6 ⟨rfl, t6⟩
    exact hK _ _ ⟨⟨rfl, t6⟩, newAt_no⟩
  simp only [Act.put, List.setIfInBounds_toArray, List.set_cons_succ, List.set_cons_zero]
  refine t_fix (.agg #[.int .i64 6, .int .i64 1, .int .i64 2, .int .i64 0, .int .i64 1, .int .i64 0]) (by rfl) (by rfl) (fun w5 hr hf => ?_) ?_
  · refine yields_of_wp (d := 72) rfl (by simp) (fun K hK => ?_)
    go_step
    refine (key36_any 6 1 2 w5).mono ?_
    rintro _ w6 ⟨rfl, t6⟩
    exact hK _ _ ⟨⟨rfl, t6⟩, newAt_no⟩
  simp only [Act.put, List.setIfInBounds_toArray, List.set_cons_succ, List.set_cons_zero]
  refine t_loose (by rfl) (by rfl) (fun w5 hr hf => ?_) (fun a2 => ?_)
  · refine yields_of_wp (d := 73) rfl (by simp) (fun K hK => ?_)
    go_step
    refine hK _ _ ⟨⟨?_, Tch.alloc _ _ _⟩, newAt_no⟩
    rw [HV2.out]
    exact ⟨_, rfl, Blk.new _ _ _⟩
  simp only [Act.put, List.setIfInBounds_toArray, List.set_cons_succ, List.set_cons_zero]
  refine t_fix (.bool true) (by rfl) (by rfl) (fun w5 hr hf => ?_) ?_
  · have hv := hf (27, fun w' => V2 a2 w') (by simp) hb2
    simp only at hv
    rw [HV2.out] at hv
    obtain ⟨g, rfl, hg⟩ := hv
    refine yields_of_wp (d := 74) rfl (by simp) (fun K hK => ?_)
    go_step
    refine (HS2.out w5 ((Tch.drew _ W4).trans hr) g hg).mono ?_
    rintro _ w6 ⟨rfl, t6⟩
    exact hK _ _ ⟨⟨rfl, t6⟩, newAt_no⟩
  simp only [Act.put, List.setIfInBounds_toArray, List.set_cons_succ, List.set_cons_zero]
  iterate 8 (refine t_det (by rfl) (by rfl) (by rfl) (by rfl) (fun K hK => ?_); go_big_quiet_op; (first | refine hK _ ?_ | refine ⟨_, fun _ => rfl, hK _ ?_⟩); clear hK K; (try simp only [Act.put, List.setIfInBounds_toArray, List.set_cons_succ, List.set_cons_zero]))
  refine t_fix (.agg #[.int .i64 3, .int .i64 3, .int .i64 2, .int .i64 0, .int .i64 1, .int .i64 0]) (by rfl) (by rfl) (fun w5 hr hf => ?_) ?_
  · refine yields_of_wp (d := 83) rfl (by simp) (fun K hK => ?_)
    go_step
    refine (key36_any 3 3 2 w5).mono ?_
    rintro _ w6 ⟨rfl, t6⟩
    exact hK _ _ ⟨⟨rfl, t6⟩, newAt_no⟩
  simp only [Act.put, List.setIfInBounds_toArray, List.set_cons_succ, List.set_cons_zero]
  refine t_fix (.agg #[.int .i64 6, .int .i64 3, .int .i64 2, .int .i64 0, .int .i64 1, .int .i64 0]) (by rfl) (by rfl) (fun w5 hr hf => ?_) ?_
  · refine yields_of_wp (d := 84) rfl (by simp) (fun K hK => ?_)
    go_step
    refine (key36_any 6 3 2 w5).mono ?_
    rintro _ w6 ⟨rfl, t6⟩
    exact hK _ _ ⟨⟨rfl, t6⟩, newAt_no⟩
  simp only [Act.put, List.setIfInBounds_toArray, List.set_cons_succ, List.set_cons_zero]
  refine t_loose (by rfl) (by rfl) (fun w5 hr hf => ?_) (fun a3 => ?_)
  · refine yields_of_wp (d := 85) rfl (by simp) (fun K hK => ?_)
    go_step
    refine hK _ _ ⟨⟨?_, Tch.alloc _ _ _⟩, newAt_no⟩
    rw [HV3.out]
    exact ⟨_, rfl, Blk.new _ _ _⟩
  simp only [Act.put, List.setIfInBounds_toArray, List.set_cons_succ, List.set_cons_zero]
  refine t_fix (.bool true) (by rfl) (by rfl) (fun w5 hr hf => ?_) ?_
  · have hv := hf (39, fun w' => V3 a3 w') (by simp) hb3
    simp only at hv
    rw [HV3.out] at hv
    obtain ⟨g, rfl, hg⟩ := hv
    refine yields_of_wp (d := 86) rfl (by simp) (fun K hK => ?_)
    go_step
    refine (HS3.out w5 ((Tch.drew _ W4).trans hr) g hg).mono ?_
    rintro _ w6 ⟨rfl, t6⟩
    exact hK _ _ ⟨⟨rfl, t6⟩, newAt_no⟩
  simp only [Act.put, List.setIfInBounds_toArray, List.set_cons_succ, List.set_cons_zero]
  iterate 7 (refine t_det (by rfl) (by rfl) (by rfl) (by rfl) (fun K hK => ?_); go_big_quiet_op; (first | refine hK _ ?_ | refine ⟨_, fun _ => rfl, hK _ ?_⟩); clear hK K; (try simp only [Act.put, List.setIfInBounds_toArray, List.set_cons_succ, List.set_cons_zero]))
  refine t_loose (by rfl) (by rfl) (fun w5 hr hf => ?_) (fun a4 => ?_)
  · refine yields_of_wp (d := 94) rfl (by simp) (fun K hK => ?_)
    go_step
    refine (HSP.out w5 ((Tch.drew _ W4).trans hr)).mono ?_
    rintro _ w6 ⟨u, rfl, hO⟩
    refine hK _ _ ⟨⟨?_, hO.tch⟩, newAt_no⟩
    rw [HV4.out]
    exact hO.row
  simp only [Act.put, List.setIfInBounds_toArray, List.set_cons_succ, List.set_cons_zero]
  refine t_loose (by rfl) (by rfl) (fun w5 hr hf => ?_) (fun a5 => ?_)
  · refine yields_of_wp (d := 95) rfl (by simp) (fun K hK => ?_)
    go_step
    refine hK _ _ ⟨⟨?_, Tch.alloc _ _ _⟩, newAt_no⟩
    rw [HV5.out]
    exact ⟨_, rfl, Blk.new _ _ _⟩
  simp only [Act.put, List.setIfInBounds_toArray, List.set_cons_succ, List.set_cons_zero]
  refine t_nil ?_
  intro w5 hr hp hap
  have hv4 := hp (48, fun w' => V4 a4 w') (by simp)
  have hv5 := hp (49, fun w' => V5 a5 w') (by simp)
  simp only at hv4 hv5
  rw [HV4.out] at hv4
  rw [HV5.out] at hv5
  obtain ⟨g, rfl, hg⟩ := hv5
  obtain ⟨S4, k4, rfl, _, _⟩ := hv4.form
  have t5 := (Tch.drew (fun _ => False) W4).trans hr
  have hrow : RowsOf int1 1 (fun _ => True) w5 (.slice (some ⟨g, 0, none⟩) 2 2) [1, 4] := Row.blk hg trivial rfl (by decide)
  have HC := Lib.hid (sameints_any hv4 hrow)
  simp only [List.length_nil, List.length_cons, Nat.zero_add, Nat.reduceAdd] at HC
  have tt5 := tt.trans t5
  clear hap hp hr hb1 hb2 hb3 HS1 HS2 HS3 HV1 HV2 HV3 HV4 HV5 hg hv4 hrow z1 z2 z3 HSP
  simp only [List.length_nil, List.length_cons, Nat.zero_add, Nat.reduceAdd]
  go_wp2_with fail
  refine HC.out.mono ?_
  rintro _ w6 ⟨rfl, t6⟩
  go_wp2_with fail
  refine (conssplit_nil w6).mono ?_
  rintro _ w7 ⟨rfl, t7⟩
  go_wp2
  go_ret
  exact ⟨rfl, (tt5.trans t6).trans t7⟩
end Go.Proofs.YtblenmelciaigaaGreat
