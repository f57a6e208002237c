/-
  The probe of layer 36.
-/
import Derived.Test.YtnmogbhmelpbnaaGreatZ29
import Derived.Test.YtnmogbhmelpbnaaGreatZ32
import Derived.Test.YtnmogbhmelpbnaaGreatZ24
namespace Go.Gk
theorem group_c1 : consOf groupBks (7, 1, 4, 0, 1, 0) = (⟨(0, 0), [(3, 1, 4, 0, 1, 0), (4, 2, 4, 0, 1, 0), (4, 3, 4, 0, 1, 0), (6, 1, 4, 0, 1, 0)], [], (0, 0, 0, 0, 0, 0), false, (0, 0), false⟩, 0) := by decide +kernel
theorem group_c2 : consOf groupBks (7, 1, 2, 0, 1, 0) = (⟨(0, 0), [(3, 1, 2, 0, 1, 0), (4, 2, 2, 0, 1, 0), (4, 3, 2, 0, 1, 0), (5, 2, 1, 0, 1, 0), (5, 2, 4, 0, 1, 0), (5, 3, 1, 0, 1, 0), (5, 3, 4, 0, 1, 0), (6, 1, 2, 0, 1, 0)], [], (0, 0, 0, 0, 0, 0), false, (0, 0), false⟩, 0) := by decide +kernel
theorem group_c3 : consOf groupBks (7, 3, 2, 0, 1, 0) = (⟨(0, 0), [(3, 3, 2, 0, 1, 0), (6, 3, 2, 0, 1, 0)], [], (0, 0, 0, 0, 0, 0), false, (0, 0), false⟩, 0) := by decide +kernel
theorem group_c4 : consOf groupBks (4, 2, 4, 0, 1, 0) = (⟨(0, 0), [], [], (0, 0, 0, 0, 0, 0), false, (0, 0), false⟩, 25) := by decide +kernel
theorem group_splits : splitsOf groupBks = [1, 4] := by decide +kernel
end Go.Gk
namespace Go.Proofs.YtnmogbhmelpbnaaGreat
open Go.RowKit Go.Gk

set_option maxRecDepth 100000 in
set_option maxHeartbeats 800000 in
theorem key36_any (r e a : Int) (w : World) :
    Calls Tryz.prog 35 #[.int .i64 r, .int .i64 e, .int .i64 a] w fun x w' => x = .returned (.agg #[.int .i64 r, .int .i64 e, .int .i64 a, .int .i64 0, .int .i64 1, .int .i64 0]) ∧ Tch (fun _ => False) w w' := by
  go_enter Tryz.func35, Tryz.ntmps35
  go_wp2
  refine bodyPost_ret (results_cell_row (P := Tryz.prog) rfl _ _ (w.heap.size) 31 _ (0, 0) _ rfl (Blk.new w 31 _) Tryz.underlying31 rfl (by kernel_rfl)) rfl ?_
  exact ⟨rfl, Tch.alloc _ _ _⟩

set_option maxRecDepth 100000 in
set_option maxHeartbeats 25600000 in
theorem awake36_any (w : World) :
    Calls Tryz.prog 9 #[] w fun x w' => x = .returned (.bool true) ∧ Tch (fun _ => False) w w' := by
  go_enter Tryz.func9, Tryz.ntmps9
  go_wp2_with fail
  refine (group_any w).mono ?_
  rintro _ w1 ⟨e, a, s, r, l, n, us, rfl, hB, t1⟩
  go_wp2_with fail
  refine (see_any hB groupBks_few groupBks_64).mono ?_
  rintro _ w2 ⟨hsee, t2⟩
  have tt := t1.trans t2
  clear hB t1 t2
  rcases hsee with ⟨h, _⟩ | ⟨_, bv, bi, B, t, mr, mp, e, a, s, r, l, n, lv, fs, us, rfl, hV⟩
  · rw [groupBks_ok] at h; cases h
  go_wp2_with fail
  refine (key36_any 7 1 4 w2).mono ?_
  rintro _ v1 ⟨rfl, t1⟩
  have hV := hV.keep t1
  go_wp2_with fail
  refine (consrec_any hV group_hn (by decide) (by decide) 7 1 4 0 1 0).mono ?_
  rintro _ u1 ⟨q1, rfl, h1, t2⟩
  rw [group_c1] at h1 ⊢
  obtain ⟨pt, mt, rfl, hpt, hmt⟩ := h1
  obtain ⟨P1, c1, rfl, _, _⟩ := hpt.form
  obtain ⟨M1, d1, rfl, _, _⟩ := hmt.form
  have hp1 := Lib.hid hpt
  unfold rcpV
  simp only [List.length_nil, List.length_cons, Nat.zero_add, Nat.reduceAdd] at hp1 ⊢
  have ta := Tch.alloc (fun _ => False) u1 (.cells #[.int .i64 0, .int .i64 0, .slice P1 4 c1, .slice M1 0 d1, .int .i64 0, .int .i64 0, .int .i64 0, .int .i64 0, .int .i64 0, .int .i64 0, .bool false, .int .i64 0, .int .i64 0, .bool false] 46)
  have x1 := Blk.new u1 46 #[.int .i64 0, .int .i64 0, .slice P1 4 c1, .slice M1 0 d1, .int .i64 0, .int .i64 0, .int .i64 0, .int .i64 0, .int .i64 0, .int .i64 0, .bool false, .int .i64 0, .int .i64 0, .bool false]
  have t3 := t2.trans ta
  have t4 := t1.trans t3
  have hV := hV.keep t3
  have tt := tt.trans t4
  have hp1 := Lib.hid (hp1.out.keep ta)
  clear hpt hmt ta t1 t2 t3 t4
  go_wp2_with fail
  generalize u1.alloc _ = W1 at *
  generalize u1.heap.size = y1 at *
  go_wp2_with fail
  refine (key36_any 7 1 2 W1).mono ?_
  rintro _ v2 ⟨rfl, t1⟩
  have hV := hV.keep t1
  go_wp2_with fail
  refine (consrec_any hV group_hn (by decide) (by decide) 7 1 2 0 1 0).mono ?_
  rintro _ u2 ⟨q2, rfl, h1, t2⟩
  rw [group_c2] at h1 ⊢
  obtain ⟨pt, mt, rfl, hpt, hmt⟩ := h1
  obtain ⟨P2, c2, rfl, _, _⟩ := hpt.form
  obtain ⟨M2, d2, rfl, _, _⟩ := hmt.form
  have hp2 := Lib.hid hpt
  unfold rcpV
  simp only [List.length_nil, List.length_cons, Nat.zero_add, Nat.reduceAdd] at hp2 ⊢
  have ta := Tch.alloc (fun _ => False) u2 (.cells #[.int .i64 0, .int .i64 0, .slice P2 8 c2, .slice M2 0 d2, .int .i64 0, .int .i64 0, .int .i64 0, .int .i64 0, .int .i64 0, .int .i64 0, .bool false, .int .i64 0, .int .i64 0, .bool false] 46)
  have x2 := Blk.new u2 46 #[.int .i64 0, .int .i64 0, .slice P2 8 c2, .slice M2 0 d2, .int .i64 0, .int .i64 0, .int .i64 0, .int .i64 0, .int .i64 0, .int .i64 0, .bool false, .int .i64 0, .int .i64 0, .bool false]
  have t3 := t2.trans ta
  have t4 := t1.trans t3
  have hV := hV.keep t3
  have tt := tt.trans t4
  have x1 := x1.keep t4 id
  have hp1 := Lib.hid (hp1.out.keep t4)
  have hp2 := Lib.hid (hp2.out.keep ta)
  clear hpt hmt ta t1 t2 t3 t4
  go_wp2_with fail
  generalize u2.alloc _ = W2 at *
  generalize u2.heap.size = y2 at *
  go_wp2_with fail
  refine (key36_any 7 3 2 W2).mono ?_
  rintro _ v3 ⟨rfl, t1⟩
  have hV := hV.keep t1
  go_wp2_with fail
  refine (consrec_any hV group_hn (by decide) (by decide) 7 3 2 0 1 0).mono ?_
  rintro _ u3 ⟨q3, rfl, h1, t2⟩
  rw [group_c3] at h1 ⊢
  obtain ⟨pt, mt, rfl, hpt, hmt⟩ := h1
  obtain ⟨P3, c3, rfl, _, _⟩ := hpt.form
  obtain ⟨M3, d3, rfl, _, _⟩ := hmt.form
  have hp3 := Lib.hid hpt
  unfold rcpV
  simp only [List.length_nil, List.length_cons, Nat.zero_add, Nat.reduceAdd] at hp3 ⊢
  have ta := Tch.alloc (fun _ => False) u3 (.cells #[.int .i64 0, .int .i64 0, .slice P3 2 c3, .slice M3 0 d3, .int .i64 0, .int .i64 0, .int .i64 0, .int .i64 0, .int .i64 0, .int .i64 0, .bool false, .int .i64 0, .int .i64 0, .bool false] 46)
  have x3 := Blk.new u3 46 #[.int .i64 0, .int .i64 0, .slice P3 2 c3, .slice M3 0 d3, .int .i64 0, .int .i64 0, .int .i64 0, .int .i64 0, .int .i64 0, .int .i64 0, .bool false, .int .i64 0, .int .i64 0, .bool false]
  have t3 := t2.trans ta
  have t4 := t1.trans t3
  have hV := hV.keep t3
  have tt := tt.trans t4
  have x1 := x1.keep t4 id
  have hp1 := Lib.hid (hp1.out.keep t4)
  have x2 := x2.keep t4 id
  have hp2 := Lib.hid (hp2.out.keep t4)
  have hp3 := Lib.hid (hp3.out.keep ta)
  clear hpt hmt ta t1 t2 t3 t4
  go_wp2_with fail
  generalize u3.alloc _ = W3 at *
  generalize u3.heap.size = y3 at *
  go_wp2_with fail
  refine (key36_any 4 2 4 W3).mono ?_
  rintro _ v4 ⟨rfl, t1⟩
  have hV := hV.keep t1
  go_wp2_with fail
  refine (consrec_any hV group_hn (by decide) (by decide) 4 2 4 0 1 0).mono ?_
  rintro _ u4 ⟨q4, rfl, h1, t2⟩
  rw [group_c4] at h1 ⊢
  obtain ⟨pt, mt, rfl, hpt, hmt⟩ := h1
  obtain ⟨P4, c4, rfl, _, _⟩ := hpt.form
  obtain ⟨M4, d4, rfl, _, _⟩ := hmt.form
  have hp4 := Lib.hid hpt
  unfold rcpV
  simp only [List.length_nil] at hp4 ⊢
  have ta := Tch.alloc (fun _ => False) u4 (.cells #[.int .i64 0, .int .i64 0, .slice P4 0 c4, .slice M4 0 d4, .int .i64 0, .int .i64 0, .int .i64 0, .int .i64 0, .int .i64 0, .int .i64 0, .bool false, .int .i64 0, .int .i64 0, .bool false] 46)
  have x4 := Blk.new u4 46 #[.int .i64 0, .int .i64 0, .slice P4 0 c4, .slice M4 0 d4, .int .i64 0, .int .i64 0, .int .i64 0, .int .i64 0, .int .i64 0, .int .i64 0, .bool false, .int .i64 0, .int .i64 0, .bool false]
  have t3 := t2.trans ta
  have t4 := t1.trans t3
  have hV := hV.keep t3
  have tt := tt.trans t4
  have x1 := x1.keep t4 id
  have hp1 := Lib.hid (hp1.out.keep t4)
  have x2 := x2.keep t4 id
  have hp2 := Lib.hid (hp2.out.keep t4)
  have x3 := x3.keep t4 id
  have hp3 := Lib.hid (hp3.out.keep t4)
  have hp4 := Lib.hid (hp4.out.keep ta)
  clear hpt hmt ta t1 t2 t3 t4
  go_wp2_with fail
  generalize u4.alloc _ = W4 at *
  generalize u4.heap.size = y4 at *
  have z1 := within_cell (F := fun _ => False) (show W4.cell? ⟨y1, 2, none⟩ = some (.slice P1 4 c1) from x1.cell 2) id
  have z2 := within_cell (F := fun _ => False) (show W4.cell? ⟨y2, 2, none⟩ = some (.slice P2 8 c2) from x2.cell 2) id
  have z3 := within_cell (F := fun _ => False) (show W4.cell? ⟨y3, 2, none⟩ = some (.slice P3 2 c3) from x3.cell 2) id
  have HS1 := Lib.hid (fun (w' : World) (t : Tch (fun _ => False) W4 w') (g : Nat) (hb : Blk w' g 31 #[.int .i64 3, .int .i64 1, .int .i64 4, .int .i64 0, .int .i64 1, .int .i64 0, .int .i64 4, .int .i64 2, .int .i64 4, .int .i64 0, .int .i64 1, .int .i64 0, .int .i64 4, .int .i64 3, .int .i64 4, .int .i64 0, .int .i64 1, .int .i64 0, .int .i64 6, .int .i64 1, .int .i64 4, .int .i64 0, .int .i64 1, .int .i64 0]) => refsame_any (l := [(3, 1, 4, 0, 1, 0), (4, 2, 4, 0, 1, 0), (4, 3, 4, 0, 1, 0), (6, 1, 4, 0, 1, 0)]) (hp1.out.keep t) (Row.blk hb trivial rfl (by decide)))
  simp only [List.length_nil, List.length_cons, Nat.zero_add, Nat.reduceAdd] at HS1
  have HS2 := Lib.hid (fun (w' : World) (t : Tch (fun _ => False) W4 w') (g : Nat) (hb : Blk w' g 31 #[.int .i64 3, .int .i64 1, .int .i64 2, .int .i64 0, .int .i64 1, .int .i64 0, .int .i64 4, .int .i64 2, .int .i64 2, .int .i64 0, .int .i64 1, .int .i64 0, .int .i64 4, .int .i64 3, .int .i64 2, .int .i64 0, .int .i64 1, .int .i64 0, .int .i64 5, .int .i64 2, .int .i64 1, .int .i64 0, .int .i64 1, .int .i64 0, .int .i64 5, .int .i64 2, .int .i64 4, .int .i64 0, .int .i64 1, .int .i64 0, .int .i64 5, .int .i64 3, .int .i64 1, .int .i64 0, .int .i64 1, .int .i64 0, .int .i64 5, .int .i64 3, .int .i64 4, .int .i64 0, .int .i64 1, .int .i64 0, .int .i64 6, .int .i64 1, .int .i64 2, .int .i64 0, .int .i64 1, .int .i64 0]) => refsame_any (l := [(3, 1, 2, 0, 1, 0), (4, 2, 2, 0, 1, 0), (4, 3, 2, 0, 1, 0), (5, 2, 1, 0, 1, 0), (5, 2, 4, 0, 1, 0), (5, 3, 1, 0, 1, 0), (5, 3, 4, 0, 1, 0), (6, 1, 2, 0, 1, 0)]) (hp2.out.keep t) (Row.blk hb trivial rfl (by decide)))
  simp only [List.length_nil, List.length_cons, Nat.zero_add, Nat.reduceAdd] at HS2
  have HS3 := Lib.hid (fun (w' : World) (t : Tch (fun _ => False) W4 w') (g : Nat) (hb : Blk w' g 31 #[.int .i64 3, .int .i64 3, .int .i64 2, .int .i64 0, .int .i64 1, .int .i64 0, .int .i64 6, .int .i64 3, .int .i64 2, .int .i64 0, .int .i64 1, .int .i64 0]) => refsame_any (l := [(3, 3, 2, 0, 1, 0), (6, 3, 2, 0, 1, 0)]) (hp3.out.keep t) (Row.blk hb trivial rfl (by decide)))
  simp only [List.length_nil, List.length_cons, Nat.zero_add, Nat.reduceAdd] at HS3
  have HSP := Lib.hid (fun (w' : World) (t : Tch (fun _ => False) W4 w') => conssplit_any (hV.keep t) group_hn)
  rw [group_splits] at HSP
  clear hV x1 x2 x3 x4 hp1 hp2 hp3 hp4
  obtain ⟨V1, hV1⟩ : ∃ V : Value → World → Prop, V = fun u w' => ∃ g, u = .slice (some ⟨g, 0, none⟩) 4 4 ∧ Blk w' g 31 #[.int .i64 3, .int .i64 1, .int .i64 4, .int .i64 0, .int .i64 1, .int .i64 0, .int .i64 4, .int .i64 2, .int .i64 4, .int .i64 0, .int .i64 1, .int .i64 0, .int .i64 4, .int .i64 3, .int .i64 4, .int .i64 0, .int .i64 1, .int .i64 0, .int .i64 6, .int .i64 1, .int .i64 4, .int .i64 0, .int .i64 1, .int .i64 0] := ⟨_, rfl⟩
  obtain ⟨V2, hV2⟩ : ∃ V : Value → World → Prop, V = fun u w' => ∃ g, u = .slice (some ⟨g, 0, none⟩) 8 8 ∧ Blk w' g 31 #[.int .i64 3, .int .i64 1, .int .i64 2, .int .i64 0, .int .i64 1, .int .i64 0, .int .i64 4, .int .i64 2, .int .i64 2, .int .i64 0, .int .i64 1, .int .i64 0, .int .i64 4, .int .i64 3, .int .i64 2, .int .i64 0, .int .i64 1, .int .i64 0, .int .i64 5, .int .i64 2, .int .i64 1, .int .i64 0, .int .i64 1, .int .i64 0, .int .i64 5, .int .i64 2, .int .i64 4, .int .i64 0, .int .i64 1, .int .i64 0, .int .i64 5, .int .i64 3, .int .i64 1, .int .i64 0, .int .i64 1, .int .i64 0, .int .i64 5, .int .i64 3, .int .i64 4, .int .i64 0, .int .i64 1, .int .i64 0, .int .i64 6, .int .i64 1, .int .i64 2, .int .i64 0, .int .i64 1, .int .i64 0] := ⟨_, rfl⟩
  obtain ⟨V3, hV3⟩ : ∃ V : Value → World → Prop, V = fun u w' => ∃ g, u = .slice (some ⟨g, 0, none⟩) 2 2 ∧ Blk w' g 31 #[.int .i64 3, .int .i64 3, .int .i64 2, .int .i64 0, .int .i64 1, .int .i64 0, .int .i64 6, .int .i64 3, .int .i64 2, .int .i64 0, .int .i64 1, .int .i64 0] := ⟨_, rfl⟩
  obtain ⟨V4, hV4⟩ : ∃ V : Value → World → Prop, V = fun u w' => RowsOf int1 1 (fun _ => True) w' u [1, 4] := ⟨_, rfl⟩
  obtain ⟨V5, hV5⟩ : ∃ V : Value → World → Prop, V = fun u w' => ∃ g, u = .slice (some ⟨g, 0, none⟩) 2 2 ∧ Blk w' g 3 #[.int .i64 1, .int .i64 4] := ⟨_, rfl⟩
  have HV1 := Lib.hid hV1
  have HV2 := Lib.hid hV2
  have HV3 := Lib.hid hV3
  have HV4 := Lib.hid hV4
  have HV5 := Lib.hid hV5
  clear hV1 hV2 hV3 hV4 hV5
  refine wp_region_touch (fun _ => False) [] 50 [(5, .inl (.agg #[.int .i64 3, .int .i64 1, .int .i64 4, .int .i64 0, .int .i64 1, .int .i64 0])), (6, .inl (.agg #[.int .i64 4, .int .i64 2, .int .i64 4, .int .i64 0, .int .i64 1, .int .i64 0])), (7, .inl (.agg #[.int .i64 4, .int .i64 3, .int .i64 4, .int .i64 0, .int .i64 1, .int .i64 0])), (8, .inl (.agg #[.int .i64 6, .int .i64 1, .int .i64 4, .int .i64 0, .int .i64 1, .int .i64 0])), (9, .inr V1), (10, .inl (.bool true)), (19, .inl (.agg #[.int .i64 3, .int .i64 1, .int .i64 2, .int .i64 0, .int .i64 1, .int .i64 0])), (20, .inl (.agg #[.int .i64 4, .int .i64 2, .int .i64 2, .int .i64 0, .int .i64 1, .int .i64 0])), (21, .inl (.agg #[.int .i64 4, .int .i64 3, .int .i64 2, .int .i64 0, .int .i64 1, .int .i64 0])), (22, .inl (.agg #[.int .i64 5, .int .i64 2, .int .i64 1, .int .i64 0, .int .i64 1, .int .i64 0])), (23, .inl (.agg #[.int .i64 5, .int .i64 2, .int .i64 4, .int .i64 0, .int .i64 1, .int .i64 0])), (24, .inl (.agg #[.int .i64 5, .int .i64 3, .int .i64 1, .int .i64 0, .int .i64 1, .int .i64 0])), (25, .inl (.agg #[.int .i64 5, .int .i64 3, .int .i64 4, .int .i64 0, .int .i64 1, .int .i64 0])), (26, .inl (.agg #[.int .i64 6, .int .i64 1, .int .i64 2, .int .i64 0, .int .i64 1, .int .i64 0])), (27, .inr V2), (28, .inl (.bool true)), (37, .inl (.agg #[.int .i64 3, .int .i64 3, .int .i64 2, .int .i64 0, .int .i64 1, .int .i64 0])), (38, .inl (.agg #[.int .i64 6, .int .i64 3, .int .i64 2, .int .i64 0, .int .i64 1, .int .i64 0])), (39, .inr V3), (40, .inl (.bool true)), (48, .inr V4), (49, .inr V5)] [] (by kernel_rfl) rfl (by kernel_rfl) rfl (fun d _ _ _ _ h => by cases d <;> exact h) ?_ ?_
  · rw [HV1.out, HV2.out, HV3.out, HV4.out, HV5.out]
    exact ⟨fun _ _ _ hr ⟨g, h1, h2⟩ => ⟨g, h1, h2.keep hr id⟩, fun _ _ _ hr ⟨g, h1, h2⟩ => ⟨g, h1, h2.keep hr id⟩, fun _ _ _ hr ⟨g, h1, h2⟩ => ⟨g, h1, h2.keep hr id⟩, fun _ _ _ hr h => h.keep hr, fun _ _ _ hr ⟨g, h1, h2⟩ => ⟨g, h1, h2.keep hr id⟩, trivial⟩
  intro bef ops hbef hops
  have hb1 : (bef.getD 10 0).testBit 9 = true := by rw [hbef]; kernel_rfl
  have hb2 : (bef.getD 28 0).testBit 27 = true := by rw [hbef]; kernel_rfl
  have hb3 : (bef.getD 40 0).testBit 39 = true := by rw [hbef]; kernel_rfl
  clear hbef
  subst hops
  simp only [List.take_succ_cons, List.take_zero, List.drop_succ_cons, List.drop_zero]
  iterate 5 (refine t_det (by rfl) (by rfl) (by rfl) (by rfl) (fun K hK => ?_); go_big_quiet_op; (first | refine hK _ ?_ | refine ⟨_, fun _ => rfl, hK _ ?_⟩); clear hK K; (try simp only [Act.put, List.setIfInBounds_toArray, List.set_cons_succ, List.set_cons_zero]))
  refine t_fix (.agg #[.int .i64 3, .int .i64 1, .int .i64 4, .int .i64 0, .int .i64 1, .int .i64 0]) (by rfl) (by rfl) (fun w5 hr hf => ?_) ?_
  · refine yields_of_wp (d := 51) rfl (by simp) (fun K hK => ?_)
    go_step
    refine (key36_any 3 1 4 w5).mono ?_
    rintro _ w6 ⟨rfl, t6⟩
    exact hK _ _ ⟨⟨rfl, t6⟩, newAt_no⟩
  simp only [Act.put, List.setIfInBounds_toArray, List.set_cons_succ, List.set_cons_zero]
  refine t_fix (.agg #[.int .i64 4, .int .i64 2, .int .i64 4, .int .i64 0, .int .i64 1, .int .i64 0]) (by rfl) (by rfl) (fun w5 hr hf => ?_) ?_
  · refine yields_of_wp (d := 52) rfl (by simp) (fun K hK => ?_)
    go_step
    refine (key36_any 4 2 4 w5).mono ?_
    rintro _ w6 ⟨rfl, t6⟩
    exact hK _ _ ⟨⟨rfl, t6⟩, newAt_no⟩
  simp only [Act.put, List.setIfInBounds_toArray, List.set_cons_succ, List.set_cons_zero]
  refine t_fix (.agg #[.int .i64 4, .int .i64 3, .int .i64 4, .int .i64 0, .int .i64 1, .int .i64 0]) (by rfl) (by rfl) (fun w5 hr hf => ?_) ?_
  · refine yields_of_wp (d := 53) rfl (by simp) (fun K hK => ?_)
    go_step
    refine (key36_any 4 3 4 w5).mono ?_
    rintro _ w6 ⟨rfl, t6⟩
    exact hK _ _ ⟨⟨rfl, t6⟩, newAt_no⟩
  simp only [Act.put, List.setIfInBounds_toArray, List.set_cons_succ, List.set_cons_zero]
  refine t_fix (.agg #[.int .i64 6, .int .i64 1, .int .i64 4, .int .i64 0, .int .i64 1, .int .i64 0]) (by rfl) (by rfl) (fun w5 hr hf => ?_) ?_
  · refine yields_of_wp (d := 54) rfl (by simp) (fun K hK => ?_)
    go_step
    refine (key36_any 6 1 4 w5).mono ?_
    rintro _ w6 ⟨rfl, t6⟩
    exact hK _ _ ⟨⟨rfl, t6⟩, newAt_no⟩
  simp only [Act.put, List.setIfInBounds_toArray, List.set_cons_succ, List.set_cons_zero]
  refine t_loose (by rfl) (by rfl) (fun w5 hr hf => ?_) (fun a1 => ?_)
  · refine yields_of_wp (d := 55) rfl (by simp) (fun K hK => ?_)
    go_step
    refine hK _ _ ⟨⟨?_, Tch.alloc _ _ _⟩, newAt_no⟩
    rw [HV1.out]
    exact ⟨_, rfl, Blk.new _ _ _⟩
  simp only [Act.put, List.setIfInBounds_toArray, List.set_cons_succ, List.set_cons_zero]
  refine t_fix (.bool true) (by rfl) (by rfl) (fun w5 hr hf => ?_) ?_
  · have hv := hf (9, fun w' => V1 a1 w') (by simp) hb1
    simp only at hv
    rw [HV1.out] at hv
    obtain ⟨g, rfl, hg⟩ := hv
    refine yields_of_wp (d := 56) rfl (by simp) (fun K hK => ?_)
    go_step
    refine (HS1.out w5 ((Tch.drew _ W4).trans hr) g hg).mono ?_
    rintro _ w6 ⟨rfl, t6⟩
    exact hK _ _ ⟨⟨rfl, t6⟩, newAt_no⟩
  simp only [Act.put, List.setIfInBounds_toArray, List.set_cons_succ, List.set_cons_zero]
  iterate 8 (refine t_det (by rfl) (by rfl) (by rfl) (by rfl) (fun K hK => ?_); go_big_quiet_op; (first | refine hK _ ?_ | refine ⟨_, fun _ => rfl, hK _ ?_⟩); clear hK K; (try simp only [Act.put, List.setIfInBounds_toArray, List.set_cons_succ, List.set_cons_zero]))
  refine t_fix (.agg #[.int .i64 3, .int .i64 1, .int .i64 2, .int .i64 0, .int .i64 1, .int .i64 0]) (by rfl) (by rfl) (fun w5 hr hf => ?_) ?_
  · refine yields_of_wp (d := 65) rfl (by simp) (fun K hK => ?_)
    go_step
    refine (key36_any 3 1 2 w5).mono ?_
    rintro _ w6 ⟨rfl, t6⟩
    exact hK _ _ ⟨⟨rfl, t6⟩, newAt_no⟩
  simp only [Act.put, List.setIfInBounds_toArray, List.set_cons_succ, List.set_cons_zero]
  refine t_fix (.agg #[.int .i64 4, .int .i64 2, .int .i64 2, .int .i64 0, .int .i64 1, .int .i64 0]) (by rfl) (by rfl) (fun w5 hr hf => ?_) ?_
  · refine yields_of_wp (d := 66) rfl (by simp) (fun K hK => ?_)
    go_step
    refine (key36_any 4 2 2 w5).mono ?_
    rintro _ w6 ⟨rfl, t6⟩
    exact hK _ _ ⟨⟨rfl, t6⟩, newAt_no⟩
  simp only [Act.put, List.setIfInBounds_toArray, List.set_cons_succ, List.set_cons_zero]
  refine t_fix (.agg #[.int .i64 4, .int .i64 3, .int .i64 2, .int .i64 0, .int .i64 1, .int .i64 0]) (by rfl) (by rfl) (fun w5 hr hf => ?_) ?_
  · refine yields_of_wp (d := 67) rfl (by simp) (fun K hK => ?_)
    go_step
    refine (key36_any 4 3 2 w5).mono ?_
    rintro _ w6 ⟨rfl, t6⟩
    exact hK _ _ ⟨⟨rfl, t6⟩, newAt_no⟩
  simp only [Act.put, List.setIfInBounds_toArray, List.set_cons_succ, List.set_cons_zero]
  refine t_fix (.agg #[.int .i64 5, .int .i64 2, .int .i64 1, .int .i64 0, .int .i64 1, .int .i64 0]) (by rfl) (by rfl) (fun w5 hr hf => ?_) ?_
  · refine yields_of_wp (d := 68) rfl (by simp) (fun K hK => ?_)
    go_step
    refine (key36_any 5 2 1 w5).mono ?_
    rintro _ w6 ⟨rfl, t6⟩
    exact hK _ _ ⟨⟨rfl, t6⟩, newAt_no⟩
  simp only [Act.put, List.setIfInBounds_toArray, List.set_cons_succ, List.set_cons_zero]
  refine t_fix (.agg #[.int .i64 5, .int .i64 2, .int .i64 4, .int .i64 0, .int .i64 1, .int .i64 0]) (by rfl) (by rfl) (fun w5 hr hf => ?_) ?_
  · refine yields_of_wp (d := 69) rfl (by simp) (fun K hK => ?_)
    go_step
    refine (key36_any 5 2 4 w5).mono ?_
    rintro _ w6 ⟨rfl, t6⟩
    exact hK _ _ ⟨⟨rfl, t6⟩, newAt_no⟩
  simp only [Act.put, List.setIfInBounds_toArray, List.set_cons_succ, List.set_cons_zero]
  refine t_fix (.agg #[.int .i64 5, .int .i64 3, .int .i64 1, .int .i64 0, .int .i64 1, .int .i64 0]) (by rfl) (by rfl) (fun w5 hr hf => ?_) ?_
  · refine yields_of_wp (d := 70) rfl (by simp) (fun K hK => ?_)
    go_step
    refine (key36_any 5 3 1 w5).mono ?_
    rintro _ w6 ⟨rfl, t6⟩
    exact hK _ _ ⟨⟨rfl, t6⟩, newAt_no⟩
  simp only [Act.put, List.setIfInBounds_toArray, List.set_cons_succ, List.set_cons_zero]
  refine t_fix (.agg #[.int .i64 5, .int .i64 3, .int .i64 4, .int .i64 0, .int .i64 1, .int .i64 0]) (by rfl) (by rfl) (fun w5 hr hf => ?_) ?_
  · refine yields_of_wp (d := 71) rfl (by simp) (fun K hK => ?_)
    go_step
    refine (key36_any 5 3 4 w5).mono ?_
    rintro _ w6 ⟨rfl, t6⟩
    exact hK _ _ ⟨⟨rfl, t6⟩, newAt_no⟩
  simp only [Act.put, List.setIfInBounds_toArray, List.set_cons_succ, List.set_cons_zero]
  refine t_fix (.agg #[.int .i64 6, .int .i64 1, .int .i64 2, .int .i64 0, .int .i64 1, .int .i64 0]) (by rfl) (by rfl) (fun w5 hr hf => ?_) ?_
  · refine yields_of_wp (d := 72) rfl (by simp) (fun K hK => ?_)
    go_step
    refine (key36_any 6 1 2 w5).mono ?_
    rintro _ w6 ⟨rfl, t6⟩
    exact hK _ _ ⟨⟨rfl, t6⟩, newAt_no⟩
  simp only [Act.put, List.setIfInBounds_toArray, List.set_cons_succ, List.set_cons_zero]
  refine t_loose (by rfl) (by rfl) (fun w5 hr hf => ?_) (fun a2 => ?_)
  · refine yields_of_wp (d := 73) rfl (by simp) (fun K hK => ?_)
    go_step
    refine hK _ _ ⟨⟨?_, Tch.alloc _ _ _⟩, newAt_no⟩
    rw [HV2.out]
    exact ⟨_, rfl, Blk.new _ _ _⟩
  simp only [Act.put, List.setIfInBounds_toArray, List.set_cons_succ, List.set_cons_zero]
  refine t_fix (.bool true) (by rfl) (by rfl) (fun w5 hr hf => ?_) ?_
  · have hv := hf (27, fun w' => V2 a2 w') (by simp) hb2
    simp only at hv
    rw [HV2.out] at hv
    obtain ⟨g, rfl, hg⟩ := hv
    refine yields_of_wp (d := 74) rfl (by simp) (fun K hK => ?_)
    go_step
    refine (HS2.out w5 ((Tch.drew _ W4).trans hr) g hg).mono ?_
    rintro _ w6 ⟨rfl, t6⟩
    exact hK _ _ ⟨⟨rfl, t6⟩, newAt_no⟩
  simp only [Act.put, List.setIfInBounds_toArray, List.set_cons_succ, List.set_cons_zero]
  iterate 8 (refine t_det (by rfl) (by rfl) (by rfl) (by rfl) (fun K hK => ?_); go_big_quiet_op; (first | refine hK _ ?_ | refine ⟨_, fun _ => rfl, hK _ ?_⟩); clear hK K; (try simp only [Act.put, List.setIfInBounds_toArray, List.set_cons_succ, List.set_cons_zero]))
  refine t_fix (.agg #[.int .i64 3, .int .i64 3, .int .i64 2, .int .i64 0, .int .i64 1, .int .i64 0]) (by rfl) (by rfl) (fun w5 hr hf => ?_) ?_
  · refine yields_of_wp (d := 83) rfl (by simp) (fun K hK => ?_)
    go_step
    refine (key36_any 3 3 2 w5).mono ?_
    rintro _ w6 ⟨rfl, t6⟩
    exact hK _ _ ⟨⟨rfl, t6⟩, newAt_no⟩
  simp only [Act.put, List.setIfInBounds_toArray, List.set_cons_succ, List.set_cons_zero]
  refine t_fix (.agg #[.int .i64 6, .int .i64 3, .int .i64 2, .int .i64 0, .int .i64 1, .int .i64 0]) (by rfl) (by rfl) (fun w5 hr hf => ?_) ?_
  · refine yields_of_wp (d := 84) rfl (by simp) (fun K hK => ?_)
    go_step
    refine (key36_any 6 3 2 w5).mono ?_
    rintro _ w6 ⟨rfl, t6⟩
    exact hK _ _ ⟨⟨rfl, t6⟩, newAt_no⟩
  simp only [Act.put, List.setIfInBounds_toArray, List.set_cons_succ, List.set_cons_zero]
  refine t_loose (by rfl) (by rfl) (fun w5 hr hf => ?_) (fun a3 => ?_)
  · refine yields_of_wp (d := 85) rfl (by simp) (fun K hK => ?_)
    go_step
    refine hK _ _ ⟨⟨?_, Tch.alloc _ _ _⟩, newAt_no⟩
    rw [HV3.out]
    exact ⟨_, rfl, Blk.new _ _ _⟩
  simp only [Act.put, List.setIfInBounds_toArray, List.set_cons_succ, List.set_cons_zero]
  refine t_fix (.bool true) (by rfl) (by rfl) (fun w5 hr hf => ?_) ?_
  · have hv := hf (39, fun w' => V3 a3 w') (by simp) hb3
    simp only at hv
    rw [HV3.out] at hv
    obtain ⟨g, rfl, hg⟩ := hv
    refine yields_of_wp (d := 86) rfl (by simp) (fun K hK => ?_)
    go_step
    refine (HS3.out w5 ((Tch.drew _ W4).trans hr) g hg).mono ?_
    rintro _ w6 ⟨rfl, t6⟩
    exact hK _ _ ⟨⟨rfl, t6⟩, newAt_no⟩
  simp only [Act.put, List.setIfInBounds_toArray, List.set_cons_succ, List.set_cons_zero]
  iterate 7 (refine t_det (by rfl) (by rfl) (by rfl) (by rfl) (fun K hK => ?_); go_big_quiet_op; (first | refine hK _ ?_ | refine ⟨_, fun _ => rfl, hK _ ?_⟩); clear hK K; (try simp only [Act.put, List.setIfInBounds_toArray, List.set_cons_succ, List.set_cons_zero]))
  refine t_loose (by rfl) (by rfl) (fun w5 hr hf => ?_) (fun a4 => ?_)
  · refine yields_of_wp (d := 94) rfl (by simp) (fun K hK => ?_)
    go_step
    refine (HSP.out w5 ((Tch.drew _ W4).trans hr)).mono ?_
    rintro _ w6 ⟨u, rfl, hO⟩
    refine hK _ _ ⟨⟨?_, hO.tch⟩, newAt_no⟩
    rw [HV4.out]
    exact hO.row
  simp only [Act.put, List.setIfInBounds_toArray, List.set_cons_succ, List.set_cons_zero]
  refine t_loose (by rfl) (by rfl) (fun w5 hr hf => ?_) (fun a5 => ?_)
  · refine yields_of_wp (d := 95) rfl (by simp) (fun K hK => ?_)
    go_step
    refine hK _ _ ⟨⟨?_, Tch.alloc _ _ _⟩, newAt_no⟩
    rw [HV5.out]
    exact ⟨_, rfl, Blk.new _ _ _⟩
  simp only [Act.put, List.setIfInBounds_toArray, List.set_cons_succ, List.set_cons_zero]
  refine t_nil ?_
  intro w5 hr hp hap
  have hv4 := hp (48, fun w' => V4 a4 w') (by simp)
  have hv5 := hp (49, fun w' => V5 a5 w') (by simp)
  simp only at hv4 hv5
  rw [HV4.out] at hv4
  rw [HV5.out] at hv5
  obtain ⟨g, rfl, hg⟩ := hv5
  obtain ⟨S4, k4, rfl, _, _⟩ := hv4.form
  have t5 := (Tch.drew (fun _ => False) W4).trans hr
  have hrow : RowsOf int1 1 (fun _ => True) w5 (.slice (some ⟨g, 0, none⟩) 2 2) [1, 4] := Row.blk hg trivial rfl (by decide)
  have HC := Lib.hid (sameints_any hv4 hrow)
  simp only [List.length_nil, List.length_cons, Nat.zero_add, Nat.reduceAdd] at HC
  have tt5 := tt.trans t5
  clear hap hp hr hb1 hb2 hb3 HS1 HS2 HS3 HV1 HV2 HV3 HV4 HV5 hg hv4 hrow z1 z2 z3 HSP
  simp only [List.length_nil, List.length_cons, Nat.zero_add, Nat.reduceAdd]
  go_wp2_with fail
  refine HC.out.mono ?_
  rintro _ w6 ⟨rfl, t6⟩
  go_wp2_with fail
  refine (conssplit_nil w6).mono ?_
  rintro _ w7 ⟨rfl, t7⟩
  go_wp2
  go_ret
  exact ⟨rfl, (tt5.trans t6).trans t7⟩
end Go.Proofs.YtnmogbhmelpbnaaGreat

/-
  The document's: recipes of what a node has.
-/
namespace Go.Gk
open Go.RowKit
/-- The parts so far, in the box behind z + 3; their row lies in blocks of Q. -/
def PlusAt (T TC : TypeId) (z : Nat) (Q : Nat → Prop) (w : World) (xs : List Rt6) : Prop :=
  ∃ O co, Blk w (z + 3) T #[.int .i64 0, .int .i64 0, .slice O xs.length co, .slice none 0 0, .int .i64 0, .int .i64 0, .int .i64 0, .int .i64 0, .int .i64 0, .int .i64 0, .bool false, .int .i64 0, .int .i64 0, .bool false] ∧ w.ownsRow (z + 4) TC 6 (.slice O xs.length co) xs.length (xs.flatMap int6) ∧ ∀ g, (Value.slice O xs.length co).ownBlock = some g → Q g
theorem PlusAt.keep {T TC : TypeId} {z : Nat} {Q : Nat → Prop} {w w' : World} {xs : List Rt6} (h : PlusAt T TC z Q w xs) (t : Tch (fun _ => False) w w') : PlusAt T TC z Q w' xs :=
  let ⟨O, co, h1, h2, h3⟩ := h; ⟨O, co, h1.keep t id, t.own h2 (fun _ _ => id), h3⟩
theorem PlusAt.weak {T TC : TypeId} {z : Nat} {Q Q' : Nat → Prop} {w : World} {xs : List Rt6} (h : PlusAt T TC z Q w xs) (hq : ∀ g, Q g → g < w.heap.size → Q' g) : PlusAt T TC z Q' w xs :=
  let ⟨O, co, h1, h2, h3⟩ := h; ⟨O, co, h1, h2, fun g hg => hq g (h3 g hg) (h2.lt g hg).2⟩
theorem PlusAt.start {T TC : TypeId} {z : Nat} {Q : Nat → Prop} {w : World} (h : Blk w (z + 3) T #[.int .i64 0, .int .i64 0, .slice none 0 0, .slice none 0 0, .int .i64 0, .int .i64 0, .int .i64 0, .int .i64 0, .int .i64 0, .int .i64 0, .bool false, .int .i64 0, .int .i64 0, .bool false]) : PlusAt T TC z Q w [] := ⟨none, 0, h, World.ownsRow_nil _ _ _ _, fun g hg => by cases hg⟩
theorem PlusAt.next {T TC : TypeId} {z : Nat} {Q : Nat → Prop} {w : World} {xs : List Rt6} {X : Rt6} {O : Option Addr} {co : Nat} (h : Blk w (z + 3) T #[.int .i64 0, .int .i64 0, .slice O (xs.length + 1) co, .slice none 0 0, .int .i64 0, .int .i64 0, .int .i64 0, .int .i64 0, .int .i64 0, .int .i64 0, .bool false, .int .i64 0, .int .i64 0, .bool false]) (ho : w.ownsRow 0 TC 6 (.slice O (xs.length + 1) co) (xs.length + 1) (xs.flatMap int6 ++ int6 X)) (hq : ∀ g, (Value.slice O (xs.length + 1) co).ownBlock = some g → Q g) (h4 : ∀ g, Q g → z + 4 ≤ g) : PlusAt T TC z Q w (xs ++ [X]) := by
  have hl : (xs ++ [X]).length = xs.length + 1 := by simp
  refine ⟨O, co, ?_, ?_, ?_⟩
  · rw [hl]; exact h
  · rw [hl, List.flatMap_append]
    exact own_up (by simpa using ho) fun g hg => h4 g (hq g hg)
  · rw [hl]; exact hq
end Go.Gk
namespace Go.Proofs.YtnmogbhmelpbnaaGreat
open Go.RowKit Go.Gk

set_option maxRecDepth 100000 in
set_option maxHeartbeats 800000 in
theorem consof_any (c1 c2 c3 c4 c5 c6 r e a : Int) (w : World) :
    Calls Tryz.prog 48 #[.agg #[.int .i64 c1, .int .i64 c2, .int .i64 c3, .int .i64 c4, .int .i64 c5, .int .i64 c6], .int .i64 r, .int .i64 e, .int .i64 a] w fun x w' => x = .returned (.agg #[.int .i64 r, .int .i64 e, .int .i64 a, .int .i64 c4, .int .i64 c5, .int .i64 0]) ∧ Tch (fun _ => False) w w' := by
  go_enter Tryz.func48, Tryz.ntmps48
  go_wp2
  refine bodyPost_ret (results_cell_row (P := Tryz.prog) rfl _ _ (w.heap.size + 1) 31 _ (0, 0) _ rfl (Blk.new2 w _ 31 _) Tryz.underlying31 rfl (by kernel_rfl)) rfl ?_
  exact ⟨rfl, (Tch.alloc _ _ _).trans (Tch.alloc _ _ _)⟩

section
variable {w : World} {e a s r l n : Value} {b : Bks} {us : List (Ent × Value)}

set_option maxRecDepth 100000 in
set_option maxHeartbeats 25600000 in
theorem refcons_any (h : BksAt w e a s r l n b us) (hn : b.accs.length ≤ 1000) (h40 : b.ents.length ≤ 40) (h400 : b.stakes.length ≤ 400) (hok : stakesOK b.stakes b.ents.length = true) (c1 c2 c3 c4 c5 c6 : Int) :
    Calls Tryz.prog 12 #[.agg #[e, a, s, r, l, n], .agg #[.int .i64 c1, .int .i64 c2, .int .i64 c3, .int .i64 c4, .int .i64 c5, .int .i64 c6]] w (ConsOk b (c1, c2, c3, c4, c5, c6) w) := by
  have ta := Tch.alloc (fun _ => False) w (.cells #[e, a, s, r, l, n] 29)
  have tb := Tch.alloc (fun _ => False) (w.alloc (.cells #[e, a, s, r, l, n] 29)) (.cells #[.int .i64 c1, .int .i64 c2, .int .i64 c3, .int .i64 c4, .int .i64 c5, .int .i64 c6] 31)
  have tc := Tch.alloc (fun _ => False) ((w.alloc (.cells #[e, a, s, r, l, n] 29)).alloc (.cells #[.int .i64 c1, .int .i64 c2, .int .i64 c3, .int .i64 c4, .int .i64 c5, .int .i64 c6] 31)) (.cells #[.int .i64 0, .int .i64 0, .slice none 0 0, .slice none 0 0, .int .i64 0, .int .i64 0, .int .i64 0, .int .i64 0, .int .i64 0, .int .i64 0, .bool false, .int .i64 0, .int .i64 0, .bool false] 50)
  have td := Tch.alloc (fun _ => False) (((w.alloc (.cells #[e, a, s, r, l, n] 29)).alloc (.cells #[.int .i64 c1, .int .i64 c2, .int .i64 c3, .int .i64 c4, .int .i64 c5, .int .i64 c6] 31)).alloc (.cells #[.int .i64 0, .int .i64 0, .slice none 0 0, .slice none 0 0, .int .i64 0, .int .i64 0, .int .i64 0, .int .i64 0, .int .i64 0, .int .i64 0, .bool false, .int .i64 0, .int .i64 0, .bool false] 50)) (.cells #[.int .i64 0, .int .i64 0, .slice none 0 0, .slice none 0 0, .int .i64 0, .int .i64 0, .int .i64 0, .int .i64 0, .int .i64 0, .int .i64 0, .bool false, .int .i64 0, .int .i64 0, .bool false] 50)
  have tw := ((ta.trans tb).trans tc).trans td
  have hbB := (((Blk.new w 29 #[e, a, s, r, l, n]).keep tb id).keep tc id).keep td id
  have hbC := ((Blk.new2 w (.cells #[e, a, s, r, l, n] 29) 31 #[.int .i64 c1, .int .i64 c2, .int .i64 c3, .int .i64 c4, .int .i64 c5, .int .i64 c6]).keep tc id).keep td id
  have hbR := (Blk.new ((w.alloc (.cells #[e, a, s, r, l, n] 29)).alloc (.cells #[.int .i64 c1, .int .i64 c2, .int .i64 c3, .int .i64 c4, .int .i64 c5, .int .i64 c6] 31)) 50 #[.int .i64 0, .int .i64 0, .slice none 0 0, .slice none 0 0, .int .i64 0, .int .i64 0, .int .i64 0, .int .i64 0, .int .i64 0, .int .i64 0, .bool false, .int .i64 0, .int .i64 0, .bool false]).keep td id
  have hbN := Blk.new (((w.alloc (.cells #[e, a, s, r, l, n] 29)).alloc (.cells #[.int .i64 c1, .int .i64 c2, .int .i64 c3, .int .i64 c4, .int .i64 c5, .int .i64 c6] 31)).alloc (.cells #[.int .i64 0, .int .i64 0, .slice none 0 0, .slice none 0 0, .int .i64 0, .int .i64 0, .int .i64 0, .int .i64 0, .int .i64 0, .int .i64 0, .bool false, .int .i64 0, .int .i64 0, .bool false] 50)) 50 #[.int .i64 0, .int .i64 0, .slice none 0 0, .slice none 0 0, .int .i64 0, .int .i64 0, .int .i64 0, .int .i64 0, .int .i64 0, .int .i64 0, .bool false, .int .i64 0, .int .i64 0, .bool false]
  rw [show ((w.alloc (.cells #[e, a, s, r, l, n] 29)).alloc (.cells #[.int .i64 c1, .int .i64 c2, .int .i64 c3, .int .i64 c4, .int .i64 c5, .int .i64 c6] 31)).heap.size = w.heap.size + 2 by simp] at hbR
  rw [show (((w.alloc (.cells #[e, a, s, r, l, n] 29)).alloc (.cells #[.int .i64 c1, .int .i64 c2, .int .i64 c3, .int .i64 c4, .int .i64 c5, .int .i64 c6] 31)).alloc (.cells #[.int .i64 0, .int .i64 0, .slice none 0 0, .slice none 0 0, .int .i64 0, .int .i64 0, .int .i64 0, .int .i64 0, .int .i64 0, .int .i64 0, .bool false, .int .i64 0, .int .i64 0, .bool false] 50)).heap.size = w.heap.size + 3 by simp] at hbN
  have hsz : ((((w.alloc (.cells #[e, a, s, r, l, n] 29)).alloc (.cells #[.int .i64 c1, .int .i64 c2, .int .i64 c3, .int .i64 c4, .int .i64 c5, .int .i64 c6] 31)).alloc (.cells #[.int .i64 0, .int .i64 0, .slice none 0 0, .slice none 0 0, .int .i64 0, .int .i64 0, .int .i64 0, .int .i64 0, .int .i64 0, .int .i64 0, .bool false, .int .i64 0, .int .i64 0, .bool false] 50)).alloc (.cells #[.int .i64 0, .int .i64 0, .slice none 0 0, .slice none 0 0, .int .i64 0, .int .i64 0, .int .i64 0, .int .i64 0, .int .i64 0, .int .i64 0, .bool false, .int .i64 0, .int .i64 0, .bool false] 50)).heap.size = w.heap.size + 4 := by simp
  have HM := Lib.hid (refmay31_any (h.keep tw) (by omega) (c1, c2, c3, c4, c5, c6) 7 7)
  unfold cellV at HM
  simp only at HM
  have HL : Hid (consOf b (c1, c2, c3, c4, c5, c6) = if mayOf b (c1, c2, c3, c4, c5, c6) 7 7 = 0 then ({ Rcp.none with plus := consPlus (c1, c2, c3, c4, c5, c6) (kidsOf b c2 c4) (splitsOf b) }, 0) else (Rcp.none, mayOf b (c1, c2, c3, c4, c5, c6) 7 7)) := Lib.hid rfl
  have HFA := Lib.hid (fun h => may_facts (b := b) (c := (c1, c2, c3, c4, c5, c6)) (lo := 7) (hi := 7) h)
  have HAL := Lib.hid (fun h => may_alone (b := b) (c := (c1, c2, c3, c4, c5, c6)) (lo := 7) (hi := 7) h (by decide))
  generalize mayOf b (c1, c2, c3, c4, c5, c6) 7 7 = m at *
  have HFO := Lib.hid (fun w' (t : Tch (fun _ => False) w w') (h0 : 0 ≤ c4) (h1 : c4 ≤ 23) => refforest30_any (h.keep t) h40 h400 hok c4 h0 h1)
  have HCH := Lib.hid (fun w' (t : Tch (fun _ => False) w w') => refkids19_any (h.keep t).stakes h400 b.ents.length h40 c4 c2)
  have HSP := Lib.hid (fun w' (t : Tch (fun _ => False) w w') => refsplit36_any (h.keep t) (by omega))
  have hkl := kids_len b c2 c4
  have hsl := splits_len b
  have HKD := Lib.hid (show kidsOf b c2 c4 = (if 1 ≤ c2 ∧ c2 ≤ (b.ents.length : Int) then (accIds b.ents.length).filter (fun i => stkUp b.stakes i c4 == c2) else []) from rfl)
  rw [← HKD.out] at HCH
  have hkl : (kidsOf b c2 c4).length ≤ 40 := by omega
  have hsl : (splitsOf b).length ≤ 1000 := by omega
  clear HKD
  generalize kidsOf b c2 c4 = kids at *
  generalize splitsOf b = splits at *
  obtain ⟨Ae, ce, rfl, _, _⟩ := h.ents.form
  obtain ⟨Aa, ca, rfl, _, _⟩ := h.accs.form
  obtain ⟨As, cs, rfl, _, _⟩ := h.stakes.form
  obtain ⟨Ar, cr, rfl, _, _⟩ := h.rates.form
  obtain ⟨Al, cl, rfl, _, _⟩ := h.locks.form
  obtain ⟨An, cn, rfl, _, _⟩ := h.ent.row.form
  clear ta tb tc td h hok
  go_enter Tryz.func12, Tryz.ntmps12
  go_wp2_with fail
  generalize (((w.alloc (.cells #[.slice Ae b.ents.length ce, .slice Aa b.accs.length ca, .slice As b.stakes.length cs, .slice Ar b.rates.length cr, .slice Al b.locks.length cl, .slice An us.length cn] 29)).alloc (.cells #[.int .i64 c1, .int .i64 c2, .int .i64 c3, .int .i64 c4, .int .i64 c5, .int .i64 c6] 31)).alloc (.cells #[.int .i64 0, .int .i64 0, .slice none 0 0, .slice none 0 0, .int .i64 0, .int .i64 0, .int .i64 0, .int .i64 0, .int .i64 0, .int .i64 0, .bool false, .int .i64 0, .int .i64 0, .bool false] 50)).alloc (.cells #[.int .i64 0, .int .i64 0, .slice none 0 0, .slice none 0 0, .int .i64 0, .int .i64 0, .int .i64 0, .int .i64 0, .int .i64 0, .int .i64 0, .bool false, .int .i64 0, .int .i64 0, .bool false] 50) = W at *
  generalize hzw : w.heap.size = z at *
  have HZW := Lib.hid hzw
  clear hzw
  refine HM.out.mono ?_
  rintro _ w1 ⟨rfl, t1⟩
  clear HM
  have hC := hbC.keep t1 id
  have hR := hbR.keep t1 id
  have hN := hbN.keep t1 id
  have hB := hbB.keep t1 id
  have hT := tw.trans t1
  have hS : z + 4 ≤ w1.heap.size := by have := t1.size; omega
  clear hbC hbR hbN hbB tw t1 hsz
  by_cases hm : m = 0
  rotate_left
  · have hm' : (m != 0) = true := by simpa using hm
    have HLN := Lib.hid (show consOf b (c1, c2, c3, c4, c5, c6) = (Rcp.none, m) by rw [HL.out, if_neg hm])
    clear hm hB hC HFO HCH HSP
    go_wp2_with (refine wpList_load_row rfl _ _ rfl (z + 3) (by rfl) 50 #[.int .i64 0, .int .i64 0, .slice none 0 0, .slice none 0 0, .int .i64 0, .int .i64 0, .int .i64 0, .int .i64 0, .int .i64 0, .int .i64 0, .bool false, .int .i64 0, .int .i64 0, .bool false] (0, 0) _ hN Tryz.underlying50 rfl (by kernel_rfl) ?_; refine Hid.out ?_)
    refine Lib.hid ?_
    go_wp2_with (refine wpList_store_blk rfl _ _ _ rfl (z + 2) #[.int .i64 0, .int .i64 0, .slice none 0 0, .slice none 0 0, .int .i64 0, .int .i64 0, .int .i64 0, .int .i64 0, .int .i64 0, .int .i64 0, .bool false, .int .i64 0, .int .i64 0, .bool false] (by rfl) (by rfl) hR (by kernel_rfl) rfl (by simp [Value.oneCell']) ?_; refine Hid.out ?_)
    refine Lib.hid ?_
    intro w9 hF tF
    have HBF := Lib.hid hF
    have TT := Lib.hid (hT.trans' (F' := fun g => g = z + 2) tF (fun i hi => .inr (by have hi : i = z + 2 := hi; have := HZW.out; omega)))
    clear hF tF hN hR hT
    go_wp2
    (try simp only [Exit.inBlock, Exit.then])
    (try rw [Exit.noGoto_ret])
    refine bodyPost_ret (results_row_tmp (P := Tryz.prog) rfl _ _ (z + 2) 50 _ (0, 0) _ rfl HBF.out Tryz.underlying50 rfl (by kernel_rfl)) rfl ?_
    unfold ConsOk
    rw [HLN.out]
    exact ⟨_, rfl, ⟨_, _, rfl, Row.nil _ _ _, Row.nil _ _ _⟩, TT.out⟩
  subst hm
  obtain ⟨⟨hr0, hr1⟩, ⟨hp0, hp1⟩, _, _⟩ := HFA.out rfl
  have hc6 := HAL.out rfl
  (try simp only at hr0 hr1 hp0 hp1 hc6)
  obtain rfl : c1 = 7 := by omega
  subst hc6
  clear HFA HAL hr0 hr1
  have HFO2 := Lib.hid (fun w' t => HFO.out w' t hp0 hp1)
  clear HFO hp0 hp1
  have HLL := Lib.hid (show consOf b (7, c2, c3, c4, c5, 0) = ({ Rcp.none with plus := consPlus (7, c2, c3, c4, c5, 0) kids splits }, 0) by rw [HL.out, if_pos rfl])
  clear HL
  have Y0 := within_cell (F := fun _ => False) (show w1.cell? ⟨z, 0, none⟩ = some (.slice Ae b.ents.length ce) from hB.cell 0) id
  have Y1 := within_cell (F := fun _ => False) (show w1.cell? ⟨z, 1, none⟩ = some (.slice Aa b.accs.length ca) from hB.cell 1) id
  have Y2 := within_cell (F := fun _ => False) (show w1.cell? ⟨z, 2, none⟩ = some (.slice As b.stakes.length cs) from hB.cell 2) id
  have Y3 := within_cell (F := fun _ => False) (show w1.cell? ⟨z, 3, none⟩ = some (.slice Ar b.rates.length cr) from hB.cell 3) id
  have Y4 := within_cell (F := fun _ => False) (show w1.cell? ⟨z, 4, none⟩ = some (.slice Al b.locks.length cl) from hB.cell 4) id
  have Y5 := within_cell (F := fun _ => False) (show w1.cell? ⟨z, 5, none⟩ = some (.slice An us.length cn) from hB.cell 5) id
  have X3 := within_cell (F := fun _ => False) (show w1.cell? ⟨z + 1, 3, none⟩ = some (.int .i64 c4) from hC.cell 3) id
  have X1 := within_cell (F := fun _ => False) (show w1.cell? ⟨z + 1, 1, none⟩ = some (.int .i64 c2) from hC.cell 1) id
  go_wp2_with fail
  refine wp_region_touch (fun _ => False) [] 6 [(3, .inl (.agg #[.slice As b.stakes.length cs, .int .i64 b.ents.length, .int .i64 c4]))] [] (by kernel_rfl) rfl (by kernel_rfl) rfl (fun d _ _ _ _ h => by cases d <;> exact h) ?_ ?_
  · exact trivial
  (intro bef ops hbef hops; clear hbef; subst hops; simp only [List.take_succ_cons, List.take_zero, List.drop_succ_cons, List.drop_zero])
  iterate 3 (refine t_det (by rfl) (by rfl) (by rfl) (by rfl) (fun K hK => ?_); go_big_quiet_op; (first | refine hK _ ?_ | refine ⟨_, fun _ => rfl, hK _ ?_⟩); clear hK K; (try simp only [Act.put, List.setIfInBounds_toArray, List.set_cons_succ, List.set_cons_zero]))
  refine t_fix (.agg #[.slice As b.stakes.length cs, .int .i64 b.ents.length, .int .i64 c4]) (by rfl) (by rfl) (fun w3 hr hf => ?_) ?_
  · refine yields_of_wp (d := 23) rfl (by simp) (fun K hK => ?_)
    go_step
    refine (HFO2.out w3 (hT.trans ((Tch.drew _ w1).trans hr))).mono ?_
    rintro _ w4 ⟨rfl, t4⟩
    exact hK _ _ ⟨⟨rfl, t4⟩, newAt_no⟩
  simp only [Act.put, List.setIfInBounds_toArray, List.set_cons_succ, List.set_cons_zero]
  iterate 2 (refine t_det (by rfl) (by rfl) (by rfl) (by rfl) (fun K hK => ?_); go_big_quiet_op; (first | refine hK _ ?_ | refine ⟨_, fun _ => rfl, hK _ ?_⟩); clear hK K; (try simp only [Act.put, List.setIfInBounds_toArray, List.set_cons_succ, List.set_cons_zero]))
  refine t_nil ?_
  intro w3 hr hp9 hap
  have t3 := (Tch.drew (fun _ => False) w1).trans hr
  clear hap hp9 hr X1 X3 Y0 Y1 Y2 Y3 Y4 Y5 HFO2
  go_wp2_with fail
  refine (HCH.out w3 (hT.trans t3)).mono ?_
  rintro _ w4 ⟨u, rfl, hK⟩
  obtain ⟨K, ck, rfl, _, _⟩ := hK.form
  have hS3 : z + 4 ≤ w3.heap.size := by have := t3.size; omega
  have hrow := hK.rowN.keepTo (P' := fun g => z + 4 ≤ g ∧ g < w4.heap.size) (Tch.refl (fun _ => False) _) (fun g hg h => ⟨id, by have h : w3.heap.size ≤ g := h; omega, hg⟩)
  have t24 := t3.trans hK.tch
  have hC := hC.keep t24 id
  have hR := hR.keep t24 id
  have hN := hN.keep t24 id
  have hB := hB.keep t24 id
  have hT := hT.trans t24
  have hS4 : z + 4 ≤ w4.heap.size := by have := t24.size; omega
  clear HCH hK t3 t24 hS
  obtain ⟨F4, hF4⟩ : ∃ F : Int → Rt6, (fun k => ofC (7, c2, c3, c4, c5, 0) 4 k c3) = F := ⟨_, rfl⟩
  have HF4 := Lib.hid (fun k => show F4 k = (4, k, c3, c4, c5, 0) by rw [← hF4]; rfl)
  have HE4 := Lib.hid hF4
  clear hF4
  obtain ⟨Y, hY⟩ : ∃ Y, w4.heap.size = Y := ⟨_, rfl⟩
  obtain ⟨Q, hQ⟩ : ∃ Q : Nat → Prop, Q = fun g => Y ≤ g := ⟨_, rfl⟩
  have HQN := Lib.hid (show ∀ g, Y ≤ g → Q g by rw [hQ]; exact fun g h => h)
  have HQ4 := Lib.hid (show ∀ g, Q g → z + 4 ≤ g by rw [hQ]; intro g h; have h : Y ≤ g := h; omega)
  have HQK := Lib.hid (show ∀ g, Q g → ¬ g < w4.heap.size by rw [hQ]; intro g h; have h : Y ≤ g := h; omega)
  have HQE := Lib.hid hQ
  have hYW : Y ≤ w4.heap.size := by omega
  have HYE := Lib.hid hY
  have hPl : PlusAt 50 31 z Q w4 [] := .start hN
  clear hQ hY hN
  obtain ⟨O, co, hN, ho, hob⟩ := hPl
  have Y0 := within_cell (F := fun _ => False) (show w4.cell? ⟨z + 1, 0, none⟩ = some (.int .i64 7) from hC.cell 0) id
  have Y1 := within_cell (F := fun _ => False) (show w4.cell? ⟨z + 1, 1, none⟩ = some (.int .i64 c2) from hC.cell 1) id
  have Y2 := within_cell (F := fun _ => False) (show w4.cell? ⟨z + 1, 2, none⟩ = some (.int .i64 c3) from hC.cell 2) id
  have Y3 := within_cell (F := fun _ => False) (show w4.cell? ⟨z + 1, 3, none⟩ = some (.int .i64 c4) from hC.cell 3) id
  have Y4 := within_cell (F := fun _ => False) (show w4.cell? ⟨z + 1, 4, none⟩ = some (.int .i64 c5) from hC.cell 4) id
  have Y5 := within_cell (F := fun _ => False) (show w4.cell? ⟨z + 1, 5, none⟩ = some (.int .i64 0) from hC.cell 5) id
  have Y6 := within_cell (F := fun _ => False) (show w4.cell? ⟨z + 3, 2, none⟩ = some (.slice O ([] : List Rt6).length co) from hN.cell 2) id
  go_wp2_with fail
  refine wp_region_touch (fun _ => False) [] 9 [(7, .inl (.agg #[.int .i64 3, .int .i64 c2, .int .i64 c3, .int .i64 c4, .int .i64 c5, .int .i64 0])), (8, .inr fun u w' => ∃ g, u = .slice (some ⟨g, 0, none⟩) 1 1 ∧ Blk w' g 31 #[.int .i64 3, .int .i64 c2, .int .i64 c3, .int .i64 c4, .int .i64 c5, .int .i64 0])] [] (by kernel_rfl) rfl (by kernel_rfl) rfl (fun d _ _ _ _ h => by cases d <;> exact h) ?_ ?_
  · exact ⟨fun _ _ _ hr ⟨g, h1, h2⟩ => ⟨g, h1, h2.keep hr id⟩, trivial⟩
  (intro bef ops hbef hops; clear hbef; subst hops; simp only [List.take_succ_cons, List.take_zero, List.drop_succ_cons, List.drop_zero])
  iterate 7 (refine t_det (by rfl) (by rfl) (by rfl) (by rfl) (fun K hK => ?_); go_big_quiet_op; (first | refine hK _ ?_ | refine ⟨_, fun _ => rfl, hK _ ?_⟩); clear hK K; (try simp only [Act.put, List.setIfInBounds_toArray, List.set_cons_succ, List.set_cons_zero]))
  refine t_fix (.agg #[.int .i64 3, .int .i64 c2, .int .i64 c3, .int .i64 c4, .int .i64 c5, .int .i64 0]) (by rfl) (by rfl) (fun w4 hr hf => ?_) ?_
  · refine yields_of_wp (d := 34) rfl (by simp) (fun K hK => ?_)
    go_step
    refine (consof_any 7 c2 c3 c4 c5 0 3 (c2) (c3) w4).mono ?_
    rintro _ w5 ⟨rfl, t5⟩
    exact hK _ _ ⟨⟨rfl, t5⟩, newAt_no⟩
  simp only [Act.put, List.setIfInBounds_toArray, List.set_cons_succ, List.set_cons_zero]
  refine t_loose (by rfl) (by rfl) (fun w4 hr hf => ?_) (fun u => ?_)
  · refine yields_of_wp (d := 35) rfl (by simp) (fun K hK => ?_)
    go_step
    exact hK _ _ ⟨⟨⟨_, rfl, Blk.new _ _ _⟩, Tch.alloc _ _ _⟩, newAt_no⟩
  simp only [Act.put, List.setIfInBounds_toArray, List.set_cons_succ, List.set_cons_zero]
  refine t_nil ?_
  intro a5 hr hp hap
  obtain ⟨gq, rfl, hgq⟩ := hp _ (List.Mem.head _)
  have t4 := (Tch.drew (fun _ => False) w4).trans hr
  clear hp hap hr Y0 Y1 Y2 Y3 Y4 Y5 Y6
  have ho4 := t4.own ho (fun _ _ => id)
  have hN4 := hN.keep t4 id
  refine wpList_append _ rfl _ _ 40 rfl rowCells (own_base ho4) (by rfl) (Go.Gk.Src.one (news := int6 (3, c2, c3, c4, c5, 0)) rfl (fun m9 u9 hu9 => by rw [hgq.cell m9]; simpa [int6] using hu9)) (by rfl) (one6 _) (by unfold maxLen; (try simp only [List.length_nil]); omega) (by (try simp only [List.length_nil]); omega) ?_
  intro v2 b5 ho2 hg2 hl2
  obtain ⟨O2, co2, rfl, _, _⟩ := own_form ho2
  have tg : Tch Q a5 b5 := Tch.grown hg2 fun k9 hk9 => .inl (hob k9 hk9)
  have ob2 : ∀ g, (Value.slice O2 (([] : List Rt6).length + 1) co2).ownBlock = some g → Q g := fun g9 hg9 => by
    rcases hl2 g9 hg9 with h9 | h9
    · exact hob g9 h9
    · exact HQN.out g9 (by have := t4.size; omega)
  have hN5 := hN4.keep tg (fun h => by have := HQ4.out _ h; omega)
  clear hg2 hl2 hN hN4 ho ho4 hob hgq
  go_step
  go_step
  go_step
  refine wpList_store_cell rfl _ _ _ rfl (z + 3) 2 (.slice O2 (([] : List Rt6).length + 1) co2) (by rfl) (by rfl) rfl (by rfl) hN5 (by simp) ?_
  intro w5 hN6 ts6
  have hPl := PlusAt.next (X := (3, c2, c3, c4, c5, 0)) hN6 (ts6.own ho2 (fun g9 hg9 he9 => by have he9 : g9 = z + 3 := he9; have := HQ4.out g9 (ob2 g9 hg9); omega)) ob2 HQ4.out
  have tq : Tch (fun g => g = z + 3 ∨ Q g) w4 w5 := ((t4.mono fun i _ h => h.elim).trans (tg.mono fun i _ h => .inr h)).trans (ts6.mono fun i _ h => .inl h)
  clear hN5 hN6 ho2 ob2 tg ts6 t4
  have HKR := Lib.hid (fun wq (t : Tch (fun g => g = z + 3 ∨ Q g) w4 wq) => hrow.keepTo (P' := fun g => z + 4 ≤ g ∧ g < w4.heap.size) t (fun g hg h => ⟨fun e => by rcases e with e | e; (have h : z + 4 ≤ g ∧ g < w4.heap.size := h; omega); exact HQK.out g e h.2, h⟩))
  have HCK := Lib.hid (fun wq (t : Tch (fun g => g = z + 3 ∨ Q g) w4 wq) => hC.keep t (fun e => by rcases e with e | e; omega; (have := HQ4.out _ e; omega)))
  have HRK := Lib.hid (fun wq (t : Tch (fun g => g = z + 3 ∨ Q g) w4 wq) => hR.keep t (fun e => by rcases e with e | e; omega; (have := HQ4.out _ e; omega)))
  have HBK := Lib.hid (fun wq (t : Tch (fun g => g = z + 3 ∨ Q g) w4 wq) => hB.keep t (fun e => by rcases e with e | e; omega; (have := HQ4.out _ e; omega)))
  have HTK := Lib.hid (fun wq (t : Tch (fun g => g = z + 3 ∨ Q g) w4 wq) => hT.trans' t (fun i hi => .inr (by have := HZW.out; rcases hi with e | e; omega; (have := HQ4.out _ e; omega))))
  have t5 := tq
  clear tq hrow hC hR hB hT
  go_wp2_with fail
  go_loopw [9] (fun i wr => ∃ (j : Nat) (xs : List Rt6), j ≤ kids.length ∧ i = .int .i64 j ∧ [(3, c2, c3, c4, c5, 0)] ++ (kids.take j).map F4 = xs ∧ PlusAt 50 31 z Q wr xs ∧ Tch (fun g => g = z + 3 ∨ Q g) w4 wr) (fun i _ => kids.length - (intOf i).toNat)
  case atStart => exact ⟨0, _, Nat.zero_le _, rfl, rfl, hPl, t5⟩
  case round =>
    clear hPl t5
    obtain ⟨j, xs, hj, rfl, hx, hPl, ht⟩ := hrel
    have HXL := Lib.hid (show xs.length = j + 1 by rw [← hx]; simp; omega)
    have hxl : xs.length ≤ j + 1 := by have := HXL.out; omega
    have HX := Lib.hid hx
    have hj0 : (0 : Int) ≤ (j : Int) := Int.natCast_nonneg _
    clear hx
    have hC := HCK.out wr ht
    by_cases hlt : j < kids.length
    · have hlt' : (j : Int) < (kids.length : Int) := by omega
      obtain ⟨g5, o5, rfl⟩ := (HKR.out wr ht).head (by omega)
      have q5 := Row.one (HKR.out wr ht) int1_len hlt rfl
      have HS := Lib.hid (show [(3, c2, c3, c4, c5, 0)] ++ (kids.take (j + 1)).map F4 = xs ++ [F4 kids[j]] by rw [map_take F4 hlt, ← List.append_assoc, HX.out])
      generalize kids[j] = x at *
      rw [HF4.out] at HS
      have hYr : Y ≤ wr.heap.size := by have := ht.size; omega
      obtain ⟨O, co, hN, ho, hob⟩ := hPl
      have Y0 := within_cell (F := fun _ => False) (show wr.cell? ⟨z + 1, 0, none⟩ = some (.int .i64 7) from hC.cell 0) id
      have Y1 := within_cell (F := fun _ => False) (show wr.cell? ⟨z + 1, 1, none⟩ = some (.int .i64 c2) from hC.cell 1) id
      have Y2 := within_cell (F := fun _ => False) (show wr.cell? ⟨z + 1, 2, none⟩ = some (.int .i64 c3) from hC.cell 2) id
      have Y3 := within_cell (F := fun _ => False) (show wr.cell? ⟨z + 1, 3, none⟩ = some (.int .i64 c4) from hC.cell 3) id
      have Y4 := within_cell (F := fun _ => False) (show wr.cell? ⟨z + 1, 4, none⟩ = some (.int .i64 c5) from hC.cell 4) id
      have Y5 := within_cell (F := fun _ => False) (show wr.cell? ⟨z + 1, 5, none⟩ = some (.int .i64 0) from hC.cell 5) id
      have Y6 := within_cell (F := fun _ => False) (show wr.cell? ⟨z + 3, 2, none⟩ = some (.slice O xs.length co) from hN.cell 2) id
      have Z0 := within_cell (F := fun _ => False) (q5) id
      go_wp2_with fail
      refine wp_region_touch (fun _ => False) [] 11 [(9, .inl (.agg #[.int .i64 4, .int .i64 x, .int .i64 c3, .int .i64 c4, .int .i64 c5, .int .i64 0])), (10, .inr fun u w' => ∃ g, u = .slice (some ⟨g, 0, none⟩) 1 1 ∧ Blk w' g 31 #[.int .i64 4, .int .i64 x, .int .i64 c3, .int .i64 c4, .int .i64 c5, .int .i64 0])] [] (by kernel_rfl) rfl (by kernel_rfl) rfl (fun d _ _ _ _ h => by cases d <;> exact h) ?_ ?_
      · exact ⟨fun _ _ _ hr ⟨g, h1, h2⟩ => ⟨g, h1, h2.keep hr id⟩, trivial⟩
      (intro bef ops hbef hops; clear hbef; subst hops; simp only [List.take_succ_cons, List.take_zero, List.drop_succ_cons, List.drop_zero])
      iterate 9 (refine t_det (by rfl) (by rfl) (by rfl) (by rfl) (fun K hK => ?_); go_big_quiet_op; (first | refine hK _ ?_ | refine ⟨_, fun _ => rfl, hK _ ?_⟩); clear hK K; (try simp only [Act.put, List.setIfInBounds_toArray, List.set_cons_succ, List.set_cons_zero]))
      refine t_fix (.agg #[.int .i64 4, .int .i64 x, .int .i64 c3, .int .i64 c4, .int .i64 c5, .int .i64 0]) (by rfl) (by rfl) (fun w4 hr hf => ?_) ?_
      · refine yields_of_wp (d := 53) rfl (by simp) (fun K hK => ?_)
        go_step
        refine (consof_any 7 c2 c3 c4 c5 0 4 (x) (c3) w4).mono ?_
        rintro _ w5 ⟨rfl, t5⟩
        exact hK _ _ ⟨⟨rfl, t5⟩, newAt_no⟩
      simp only [Act.put, List.setIfInBounds_toArray, List.set_cons_succ, List.set_cons_zero]
      refine t_loose (by rfl) (by rfl) (fun w4 hr hf => ?_) (fun u => ?_)
      · refine yields_of_wp (d := 54) rfl (by simp) (fun K hK => ?_)
        go_step
        exact hK _ _ ⟨⟨⟨_, rfl, Blk.new _ _ _⟩, Tch.alloc _ _ _⟩, newAt_no⟩
      simp only [Act.put, List.setIfInBounds_toArray, List.set_cons_succ, List.set_cons_zero]
      refine t_nil ?_
      intro a6 hr hp hap
      obtain ⟨gq, rfl, hgq⟩ := hp _ (List.Mem.head _)
      have t4 := (Tch.drew (fun _ => False) wr).trans hr
      clear hp hap hr Y0 Y1 Y2 Y3 Y4 Y5 Y6 Z0
      have ho4 := t4.own ho (fun _ _ => id)
      have hN4 := hN.keep t4 id
      refine wpList_append _ rfl _ _ 40 rfl rowCells (own_base ho4) (by rfl) (Go.Gk.Src.one (news := int6 (4, x, c3, c4, c5, 0)) rfl (fun m9 u9 hu9 => by rw [hgq.cell m9]; simpa [int6] using hu9)) (by rfl) (one6 _) (by unfold maxLen; (try simp only [List.length_nil]); omega) (by (try simp only [List.length_nil]); omega) ?_
      intro v2 b6 ho2 hg2 hl2
      obtain ⟨O2, co2, rfl, _, _⟩ := own_form ho2
      have tg : Tch Q a6 b6 := Tch.grown hg2 fun k9 hk9 => .inl (hob k9 hk9)
      have ob2 : ∀ g, (Value.slice O2 (xs.length + 1) co2).ownBlock = some g → Q g := fun g9 hg9 => by
        rcases hl2 g9 hg9 with h9 | h9
        · exact hob g9 h9
        · exact HQN.out g9 (by have := t4.size; omega)
      have hN5 := hN4.keep tg (fun h => by have := HQ4.out _ h; omega)
      clear hg2 hl2 hN hN4 ho ho4 hob hgq
      go_step
      go_step
      go_step
      refine wpList_store_cell rfl _ _ _ rfl (z + 3) 2 (.slice O2 (xs.length + 1) co2) (by rfl) (by rfl) rfl (by rfl) hN5 (by simp) ?_
      intro w6 hN6 ts6
      have hPl := PlusAt.next (X := (4, x, c3, c4, c5, 0)) hN6 (ts6.own ho2 (fun g9 hg9 he9 => by have he9 : g9 = z + 3 := he9; have := HQ4.out g9 (ob2 g9 hg9); omega)) ob2 HQ4.out
      have tq : Tch (fun g => g = z + 3 ∨ Q g) wr w6 := ((t4.mono fun i _ h => h.elim).trans (tg.mono fun i _ h => .inr h)).trans (ts6.mono fun i _ h => .inl h)
      clear hN5 hN6 ho2 ob2 tg ts6 t4
      have ht2 := ht.trans tq
      clear q5 hC tq
      go_wp2_with fail
      go_roundw
      case rel => exact ⟨j + 1, _, by omega, by go_num, HS.out, hPl, ht2⟩
      case measure => simp [intOf]; omega
    · obtain rfl : kids.length = j := by omega
      rw [List.take_length] at HX
      have HX1 := Lib.hid (show [(3, c2, c3, c4, c5, 0)] ++ kids.map F4 = xs from HX.out)
      -- the leaves that are split
      have hB := HBK.out wr ht
      have b0 : wr.cell? ⟨z, 0, none⟩ = some (.slice Ae b.ents.length ce) := hB.cell 0
      have b1 : wr.cell? ⟨z, 1, none⟩ = some (.slice Aa b.accs.length ca) := hB.cell 1
      have b2 : wr.cell? ⟨z, 2, none⟩ = some (.slice As b.stakes.length cs) := hB.cell 2
      have b3 : wr.cell? ⟨z, 3, none⟩ = some (.slice Ar b.rates.length cr) := hB.cell 3
      have b4 : wr.cell? ⟨z, 4, none⟩ = some (.slice Al b.locks.length cl) := hB.cell 4
      have b5 : wr.cell? ⟨z, 5, none⟩ = some (.slice An us.length cn) := hB.cell 5
      have hYr : Y ≤ wr.heap.size := by have := ht.size; omega
      go_wp2_with fail
      refine (HSP.out wr (HTK.out wr ht)).mono ?_
      rintro _ w6 ⟨u, rfl, hSp⟩
      obtain ⟨SS, cs2, rfl, _, _⟩ := hSp.form
      have t6 := hSp.tch
      have hrS := hSp.rowN.keepTo (P' := fun g => wr.heap.size ≤ g ∧ g < w6.heap.size) (Tch.refl (fun _ => False) _) (fun g hg h => ⟨id, h, hg⟩)
      have t46 := ht.trans (Exn.touch t6)
      have hC := hC.keep t6 id
      have hR := (HRK.out wr ht).keep t6 id
      have hT := HTK.out w6 t46
      have hrow := (HKR.out w6 t46)
      have hS6 : wr.heap.size ≤ w6.heap.size := t6.size
      have hY4 := HYE.out
      obtain ⟨Q2, hQ2⟩ : ∃ Q : Nat → Prop, Q = fun g => (Y ≤ g ∧ g < wr.heap.size) ∨ w6.heap.size ≤ g := ⟨_, rfl⟩
      have hPl : PlusAt 50 31 z Q2 w6 xs := (hPl.weak (Q' := Q2) (fun g hg hlt => by rw [hQ2]; rw [HQE.out] at hg; exact .inl ⟨hg, hlt⟩)).keep t6
      obtain ⟨Y2, hY2⟩ : ∃ Y, w6.heap.size = Y := ⟨_, rfl⟩
      have HQN2 := Lib.hid (show ∀ g, Y2 ≤ g → Q2 g by rw [hQ2]; intro g h; exact .inr (by omega))
      have HQ42 := Lib.hid (show ∀ g, Q2 g → z + 4 ≤ g by rw [hQ2]; intro g h; rcases h with h | h <;> omega)
      have HQK2 := Lib.hid (show ∀ g, Q2 g → ¬ g < w4.heap.size by rw [hQ2]; intro g h; rcases h with h | h <;> omega)
      have HQS2 := Lib.hid (show ∀ g, Q2 g → ¬ (wr.heap.size ≤ g ∧ g < w6.heap.size) by rw [hQ2]; intro g h; rcases h with h | h <;> omega)
      have hY2W : Y2 ≤ w6.heap.size := by omega
      have hwr4 : z + 4 ≤ wr.heap.size := by omega
      clear HQN HQ4 HQK HQE hQ2 hY2 hY4 HCK HRK HBK HTK HKR hSp hB b0 b1 b2 b3 b4 b5 hYW hYr ht t46 t6 hlt hS6
      have HQN := HQN2
      have HQ4 := HQ42
      have HKR := Lib.hid (fun wq (t : Tch (fun g => g = z + 3 ∨ Q2 g) w6 wq) => hrow.keepTo (P' := fun g => z + 4 ≤ g ∧ g < w4.heap.size) t (fun g hg h => ⟨fun e => by rcases e with e | e; (have h : z + 4 ≤ g ∧ g < w4.heap.size := h; omega); exact HQK2.out g e h.2, h⟩))
      have HSR := Lib.hid (fun wq (t : Tch (fun g => g = z + 3 ∨ Q2 g) w6 wq) => hrS.keepTo (P' := fun g => wr.heap.size ≤ g ∧ g < w6.heap.size) t (fun g hg h => ⟨fun e => by rcases e with e | e; (have := h.1; omega); exact HQS2.out g e h, h⟩))
      have HCK := Lib.hid (fun wq (t : Tch (fun g => g = z + 3 ∨ Q2 g) w6 wq) => hC.keep t (fun e => by rcases e with e | e; omega; (have := HQ4.out _ e; omega)))
      have HRK := Lib.hid (fun wq (t : Tch (fun g => g = z + 3 ∨ Q2 g) w6 wq) => hR.keep t (fun e => by rcases e with e | e; omega; (have := HQ4.out _ e; omega)))
      have HTK := Lib.hid (fun wq (t : Tch (fun g => g = z + 3 ∨ Q2 g) w6 wq) => hT.trans' t (fun i hi => .inr (by have := HZW.out; rcases hi with e | e; omega; (have := HQ4.out _ e; omega))))
      clear HQN2 HQ42 HQK2 HQS2 hrow hrS hR hT
      have hY := hY2W
      by_cases h2 : c3 = 2
      · subst h2
        obtain ⟨F5, hF5⟩ : ∃ F : Int → Int → Rt6, (fun k a => ofC (7, c2, 2, c4, c5, 0) 5 k a) = F := ⟨_, rfl⟩
        have HF5 := Lib.hid (fun k a => show F5 k a = (5, k, a, c4, c5, 0) by rw [← hF5]; rfl)
        have HE5 := Lib.hid (fun k a => show ofC (7, c2, 2, c4, c5, 0) 5 k a = F5 k a by rw [← hF5])
        clear hF5
        have HCM := Lib.hid (fun j => cons_min_len (7, c2, 2, c4, c5, 0) splits (kids.take j))
        have HCT := Lib.hid (fun j (h : j < kids.length) => cons_min_take (7, c2, 2, c4, c5, 0) kids splits h)
        simp only [HE5.out] at HCT
        obtain ⟨CM, hCM⟩ : ∃ C : List Int → List Rt6, (fun ks => consMin (7, c2, 2, c4, c5, 0) ks splits) = C := ⟨_, rfl⟩
        have HCE := Lib.hid (fun ks => show consMin (7, c2, 2, c4, c5, 0) ks splits = CM ks by rw [← hCM])
        simp only [HCE.out] at HCM HCT
        have HC0 := Lib.hid (show CM [] = [] by rw [← hCM]; rfl)
        clear hCM hC
        go_wp2_with fail
        go_loopw [11] (fun i wr => ∃ (j : Nat) (ys : List Rt6), j ≤ kids.length ∧ i = .int .i64 j ∧ xs ++ CM (kids.take j) = ys ∧ PlusAt 50 31 z Q2 wr ys ∧ Tch (fun g => g = z + 3 ∨ Q2 g) w6 wr) (fun i _ => kids.length - (intOf i).toNat)
        case atStart => exact ⟨0, xs, Nat.zero_le _, rfl, by rw [List.take_zero, HC0.out, List.append_nil], hPl, Tch.refl _ _⟩
        case round =>
          clear hPl
          obtain ⟨j, ys, hj, rfl, hx, hPl, ht⟩ := hrel
          have hyl : ys.length ≤ 100 + j * 1000 := by
            have := HXL.out
            rw [← hx, List.length_append, HCM.out, List.length_take, Nat.min_eq_left hj]
            have := Nat.mul_le_mul_left j hsl
            omega
          have HX2 := Lib.hid hx
          have hj0 : (0 : Int) ≤ (j : Int) := Int.natCast_nonneg _
          clear hx
          have hC := HCK.out wr ht
          have k2 : wr.cell? ⟨z + 1, 2, none⟩ = some (.int .i64 2) := hC.cell 2
          by_cases hlt : j < kids.length
          · have hlt' : (j : Int) < (kids.length : Int) := by omega
            obtain ⟨g5, o5, rfl⟩ := (HKR.out wr ht).head (by omega)
            have HQ5 := Lib.hid (fun wq t => Row.one (HKR.out wq t) int1_len hlt rfl)
            have HT5 := Lib.hid (HCT.out j hlt)
            generalize kids[j] = kk at *
            go_wp2_with fail
            go_loopw [12] (fun i wr => ∃ (m : Nat) (zs : List Rt6), m ≤ splits.length ∧ i = .int .i64 m ∧ ys ++ (splits.take m).map (F5 kk) = zs ∧ PlusAt 50 31 z Q2 wr zs ∧ Tch (fun g => g = z + 3 ∨ Q2 g) w6 wr) (fun i _ => splits.length - (intOf i).toNat)
            case atStart => exact ⟨0, ys, Nat.zero_le _, rfl, by simp, hPl, ht⟩
            case round =>
              clear hPl ht hC k2
              obtain ⟨m, zs, hm, rfl, hx, hPl, ht⟩ := hrel
              have hzl : zs.length ≤ 42000 := by
                rw [← hx, List.length_append, List.length_map, List.length_take]
                omega
              have HX3 := Lib.hid hx
              have hm0 : (0 : Int) ≤ (m : Int) := Int.natCast_nonneg _
              clear hx
              have hC := HCK.out wr ht
              by_cases hml : m < splits.length
              · have hml' : (m : Int) < (splits.length : Int) := by omega
                obtain ⟨g7, o7, rfl⟩ := (HSR.out wr ht).head (by omega)
                have q7 := Row.one (HSR.out wr ht) int1_len hml rfl
                have q5 := HQ5.out wr ht
                have HS := Lib.hid (show ys ++ (splits.take (m + 1)).map (F5 kk) = zs ++ [F5 kk splits[m]] by rw [map_take (F5 kk) hml, ← List.append_assoc, HX3.out])
                generalize splits[m] = x at *
                rw [HF5.out] at HS
                have hYr : Y2 ≤ wr.heap.size := by have := ht.size; omega
                obtain ⟨O, co, hN, ho, hob⟩ := hPl
                have Y0 := within_cell (F := fun _ => False) (show wr.cell? ⟨z + 1, 0, none⟩ = some (.int .i64 7) from hC.cell 0) id
                have Y1 := within_cell (F := fun _ => False) (show wr.cell? ⟨z + 1, 1, none⟩ = some (.int .i64 c2) from hC.cell 1) id
                have Y2 := within_cell (F := fun _ => False) (show wr.cell? ⟨z + 1, 2, none⟩ = some (.int .i64 2) from hC.cell 2) id
                have Y3 := within_cell (F := fun _ => False) (show wr.cell? ⟨z + 1, 3, none⟩ = some (.int .i64 c4) from hC.cell 3) id
                have Y4 := within_cell (F := fun _ => False) (show wr.cell? ⟨z + 1, 4, none⟩ = some (.int .i64 c5) from hC.cell 4) id
                have Y5 := within_cell (F := fun _ => False) (show wr.cell? ⟨z + 1, 5, none⟩ = some (.int .i64 0) from hC.cell 5) id
                have Y6 := within_cell (F := fun _ => False) (show wr.cell? ⟨z + 3, 2, none⟩ = some (.slice O zs.length co) from hN.cell 2) id
                have Z0 := within_cell (F := fun _ => False) (q5) id
                have Z1 := within_cell (F := fun _ => False) (q7) id
                go_wp2_with fail
                refine wp_region_touch (fun _ => False) [] 13 [(11, .inl (.agg #[.int .i64 5, .int .i64 kk, .int .i64 x, .int .i64 c4, .int .i64 c5, .int .i64 0])), (12, .inr fun u w' => ∃ g, u = .slice (some ⟨g, 0, none⟩) 1 1 ∧ Blk w' g 31 #[.int .i64 5, .int .i64 kk, .int .i64 x, .int .i64 c4, .int .i64 c5, .int .i64 0])] [] (by kernel_rfl) rfl (by kernel_rfl) rfl (fun d _ _ _ _ h => by cases d <;> exact h) ?_ ?_
                · exact ⟨fun _ _ _ hr ⟨g, h1, h2⟩ => ⟨g, h1, h2.keep hr id⟩, trivial⟩
                (intro bef ops hbef hops; clear hbef; subst hops; simp only [List.take_succ_cons, List.take_zero, List.drop_succ_cons, List.drop_zero])
                iterate 11 (refine t_det (by rfl) (by rfl) (by rfl) (by rfl) (fun K hK => ?_); go_big_quiet_op; (first | refine hK _ ?_ | refine ⟨_, fun _ => rfl, hK _ ?_⟩); clear hK K; (try simp only [Act.put, List.setIfInBounds_toArray, List.set_cons_succ, List.set_cons_zero]))
                refine t_fix (.agg #[.int .i64 5, .int .i64 kk, .int .i64 x, .int .i64 c4, .int .i64 c5, .int .i64 0]) (by rfl) (by rfl) (fun w4 hr hf => ?_) ?_
                · refine yields_of_wp (d := 87) rfl (by simp) (fun K hK => ?_)
                  go_step
                  refine (consof_any 7 c2 2 c4 c5 0 5 (kk) (x) w4).mono ?_
                  rintro _ w5 ⟨rfl, t5⟩
                  exact hK _ _ ⟨⟨rfl, t5⟩, newAt_no⟩
                simp only [Act.put, List.setIfInBounds_toArray, List.set_cons_succ, List.set_cons_zero]
                refine t_loose (by rfl) (by rfl) (fun w4 hr hf => ?_) (fun u => ?_)
                · refine yields_of_wp (d := 88) rfl (by simp) (fun K hK => ?_)
                  go_step
                  exact hK _ _ ⟨⟨⟨_, rfl, Blk.new _ _ _⟩, Tch.alloc _ _ _⟩, newAt_no⟩
                simp only [Act.put, List.setIfInBounds_toArray, List.set_cons_succ, List.set_cons_zero]
                refine t_nil ?_
                intro a7 hr hp hap
                obtain ⟨gq, rfl, hgq⟩ := hp _ (List.Mem.head _)
                have t4 := (Tch.drew (fun _ => False) wr).trans hr
                clear hp hap hr Y0 Y1 Y2 Y3 Y4 Y5 Y6 Z0 Z1
                have ho4 := t4.own ho (fun _ _ => id)
                have hN4 := hN.keep t4 id
                refine wpList_append _ rfl _ _ 40 rfl rowCells (own_base ho4) (by rfl) (Go.Gk.Src.one (news := int6 (5, kk, x, c4, c5, 0)) rfl (fun m9 u9 hu9 => by rw [hgq.cell m9]; simpa [int6] using hu9)) (by rfl) (one6 _) (by unfold maxLen; (try simp only [List.length_nil]); omega) (by (try simp only [List.length_nil]); omega) ?_
                intro v2 b7 ho2 hg2 hl2
                obtain ⟨O2, co2, rfl, _, _⟩ := own_form ho2
                have tg : Tch Q2 a7 b7 := Tch.grown hg2 fun k9 hk9 => .inl (hob k9 hk9)
                have ob2 : ∀ g, (Value.slice O2 (zs.length + 1) co2).ownBlock = some g → Q2 g := fun g9 hg9 => by
                  rcases hl2 g9 hg9 with h9 | h9
                  · exact hob g9 h9
                  · exact HQN.out g9 (by have := t4.size; omega)
                have hN5 := hN4.keep tg (fun h => by have := HQ4.out _ h; omega)
                clear hg2 hl2 hN hN4 ho ho4 hob hgq
                go_step
                go_step
                go_step
                refine wpList_store_cell rfl _ _ _ rfl (z + 3) 2 (.slice O2 (zs.length + 1) co2) (by rfl) (by rfl) rfl (by rfl) hN5 (by simp) ?_
                intro w7 hN6 ts6
                have hPl := PlusAt.next (X := (5, kk, x, c4, c5, 0)) hN6 (ts6.own ho2 (fun g9 hg9 he9 => by have he9 : g9 = z + 3 := he9; have := HQ4.out g9 (ob2 g9 hg9); omega)) ob2 HQ4.out
                have tq : Tch (fun g => g = z + 3 ∨ Q2 g) wr w7 := ((t4.mono fun i _ h => h.elim).trans (tg.mono fun i _ h => .inr h)).trans (ts6.mono fun i _ h => .inl h)
                clear hN5 hN6 ho2 ob2 tg ts6 t4
                have ht2 := ht.trans tq
                clear q5 q7 hC tq
                go_wp2_with fail
                go_roundw
                case rel => exact ⟨m + 1, _, by omega, by go_num, HS.out, hPl, ht2⟩
                case measure => simp [intOf]; omega
              · obtain rfl : splits.length = m := by omega
                rw [List.take_length] at HX3
                have HX4 := Lib.hid (show xs ++ CM (kids.take (j + 1)) = zs by rw [HT5.out, ← List.append_assoc, HX2.out]; exact HX3.out)
                clear HT5 HX3 HX2
                go_wp2
                go_roundw
                case rel => exact ⟨j + 1, zs, by omega, by go_num, HX4.out, hPl, ht⟩
                case measure => simp [intOf]; omega
          · obtain rfl : kids.length = j := by omega
            rw [List.take_length] at HX2
            have HALL := Lib.hid (cons_plus_yes (c := (7, c2, 2, c4, c5, 0)) (ys := CM kids) kids splits rfl (HCE.out kids))
            have HFX := Lib.hid (show ys ++ [(6, c2, 2, c4, c5, 0)] = consPlus (7, c2, 2, c4, c5, 0) kids splits by
              rw [HALL.out, ← HX2.out, ← HX1.out, ← HE4.out]
              simp [ofC])
            have hyl2 : ys.length ≤ 41000 := by omega
            have hYr : Y2 ≤ wr.heap.size := by have := ht.size; omega
            have hR := HRK.out wr ht
            have hT := HTK.out wr ht
            clear HALL HX2 HX1 HE4 HCE HC0 HCT HCM HF5 HE5 HF4 HCK HRK HTK HKR HSR hlt k2 hyl
            obtain ⟨O, co, hN, ho, hob⟩ := hPl
            have Y0 := within_cell (F := fun _ => False) (show wr.cell? ⟨z + 1, 0, none⟩ = some (.int .i64 7) from hC.cell 0) id
            have Y1 := within_cell (F := fun _ => False) (show wr.cell? ⟨z + 1, 1, none⟩ = some (.int .i64 c2) from hC.cell 1) id
            have Y2 := within_cell (F := fun _ => False) (show wr.cell? ⟨z + 1, 2, none⟩ = some (.int .i64 2) from hC.cell 2) id
            have Y3 := within_cell (F := fun _ => False) (show wr.cell? ⟨z + 1, 3, none⟩ = some (.int .i64 c4) from hC.cell 3) id
            have Y4 := within_cell (F := fun _ => False) (show wr.cell? ⟨z + 1, 4, none⟩ = some (.int .i64 c5) from hC.cell 4) id
            have Y5 := within_cell (F := fun _ => False) (show wr.cell? ⟨z + 1, 5, none⟩ = some (.int .i64 0) from hC.cell 5) id
            have Y6 := within_cell (F := fun _ => False) (show wr.cell? ⟨z + 3, 2, none⟩ = some (.slice O ys.length co) from hN.cell 2) id
            go_wp2_with fail
            refine wp_region_touch (fun _ => False) [] 9 [(7, .inl (.agg #[.int .i64 6, .int .i64 c2, .int .i64 2, .int .i64 c4, .int .i64 c5, .int .i64 0])), (8, .inr fun u w' => ∃ g, u = .slice (some ⟨g, 0, none⟩) 1 1 ∧ Blk w' g 31 #[.int .i64 6, .int .i64 c2, .int .i64 2, .int .i64 c4, .int .i64 c5, .int .i64 0])] [] (by kernel_rfl) rfl (by kernel_rfl) rfl (fun d _ _ _ _ h => by cases d <;> exact h) ?_ ?_
            · exact ⟨fun _ _ _ hr ⟨g, h1, h2⟩ => ⟨g, h1, h2.keep hr id⟩, trivial⟩
            (intro bef ops hbef hops; clear hbef; subst hops; simp only [List.take_succ_cons, List.take_zero, List.drop_succ_cons, List.drop_zero])
            iterate 7 (refine t_det (by rfl) (by rfl) (by rfl) (by rfl) (fun K hK => ?_); go_big_quiet_op; (first | refine hK _ ?_ | refine ⟨_, fun _ => rfl, hK _ ?_⟩); clear hK K; (try simp only [Act.put, List.setIfInBounds_toArray, List.set_cons_succ, List.set_cons_zero]))
            refine t_fix (.agg #[.int .i64 6, .int .i64 c2, .int .i64 2, .int .i64 c4, .int .i64 c5, .int .i64 0]) (by rfl) (by rfl) (fun w4 hr hf => ?_) ?_
            · refine yields_of_wp (d := 98) rfl (by simp) (fun K hK => ?_)
              go_step
              refine (consof_any 7 c2 2 c4 c5 0 6 (c2) (2) w4).mono ?_
              rintro _ w5 ⟨rfl, t5⟩
              exact hK _ _ ⟨⟨rfl, t5⟩, newAt_no⟩
            simp only [Act.put, List.setIfInBounds_toArray, List.set_cons_succ, List.set_cons_zero]
            refine t_loose (by rfl) (by rfl) (fun w4 hr hf => ?_) (fun u => ?_)
            · refine yields_of_wp (d := 99) rfl (by simp) (fun K hK => ?_)
              go_step
              exact hK _ _ ⟨⟨⟨_, rfl, Blk.new _ _ _⟩, Tch.alloc _ _ _⟩, newAt_no⟩
            simp only [Act.put, List.setIfInBounds_toArray, List.set_cons_succ, List.set_cons_zero]
            refine t_nil ?_
            intro a8 hr hp hap
            obtain ⟨gq, rfl, hgq⟩ := hp _ (List.Mem.head _)
            have t4 := (Tch.drew (fun _ => False) wr).trans hr
            clear hp hap hr Y0 Y1 Y2 Y3 Y4 Y5 Y6
            have ho4 := t4.own ho (fun _ _ => id)
            have hN4 := hN.keep t4 id
            refine wpList_append _ rfl _ _ 40 rfl rowCells (own_base ho4) (by rfl) (Go.Gk.Src.one (news := int6 (6, c2, 2, c4, c5, 0)) rfl (fun m9 u9 hu9 => by rw [hgq.cell m9]; simpa [int6] using hu9)) (by rfl) (one6 _) (by unfold maxLen; (try simp only [List.length_nil]); omega) (by (try simp only [List.length_nil]); omega) ?_
            intro v2 b8 ho2 hg2 hl2
            obtain ⟨O2, co2, rfl, _, _⟩ := own_form ho2
            have tg : Tch Q2 a8 b8 := Tch.grown hg2 fun k9 hk9 => .inl (hob k9 hk9)
            have ob2 : ∀ g, (Value.slice O2 (ys.length + 1) co2).ownBlock = some g → Q2 g := fun g9 hg9 => by
              rcases hl2 g9 hg9 with h9 | h9
              · exact hob g9 h9
              · exact HQN.out g9 (by have := t4.size; omega)
            have hN5 := hN4.keep tg (fun h => by have := HQ4.out _ h; omega)
            clear hg2 hl2 hN hN4 ho ho4 hob hgq
            go_step
            go_step
            go_step
            refine wpList_store_cell rfl _ _ _ rfl (z + 3) 2 (.slice O2 (ys.length + 1) co2) (by rfl) (by rfl) rfl (by rfl) hN5 (by simp) ?_
            intro w8 hN6 ts6
            have hPl := PlusAt.next (X := (6, c2, 2, c4, c5, 0)) hN6 (ts6.own ho2 (fun g9 hg9 he9 => by have he9 : g9 = z + 3 := he9; have := HQ4.out g9 (ob2 g9 hg9); omega)) ob2 HQ4.out
            have tq : Tch (fun g => g = z + 3 ∨ Q2 g) wr w8 := ((t4.mono fun i _ h => h.elim).trans (tg.mono fun i _ h => .inr h)).trans (ts6.mono fun i _ h => .inl h)
            clear hN5 hN6 ho2 ob2 tg ts6 t4
            have hR := hR.keep tq (fun e => by rcases e with e | e; omega; (have := HQ4.out _ e; omega))
            have hT := hT.trans' tq (fun i hi => .inr (by have := HZW.out; rcases hi with e | e; omega; (have := HQ4.out _ e; omega)))
            obtain ⟨O, co, hN, ho, hob⟩ := hPl
            have e9 : (ys ++ [((6, c2, 2, c4, c5, 0) : Rt6)]).length = ys.length + 1 := by simp
            rw [e9] at hN ho hob
            clear e9
            have HOW := Lib.hid (fun wq (t : Tch (fun g => g = z + 2) w8 wq) => t.own ho (fun g hg he => by have he : g = z + 2 := he; have := HQ4.out g (hob g hg); omega))
            clear tq hC 
            go_wp2_with (refine wpList_load_row rfl _ _ rfl (z + 3) (by rfl) 50 #[.int .i64 0, .int .i64 0, .slice O (ys.length + 1) co, .slice none 0 0, .int .i64 0, .int .i64 0, .int .i64 0, .int .i64 0, .int .i64 0, .int .i64 0, .bool false, .int .i64 0, .int .i64 0, .bool false] (0, 0) _ hN Tryz.underlying50 rfl (by kernel_rfl) ?_; refine Hid.out ?_)
            refine Lib.hid ?_
            go_wp2_with (refine wpList_store_blk rfl _ _ _ rfl (z + 2) #[.int .i64 0, .int .i64 0, .slice O (ys.length + 1) co, .slice none 0 0, .int .i64 0, .int .i64 0, .int .i64 0, .int .i64 0, .int .i64 0, .int .i64 0, .bool false, .int .i64 0, .int .i64 0, .bool false] (by rfl) (by rfl) hR (by kernel_rfl) rfl (by simp [Value.oneCell']) ?_; refine Hid.out ?_)
            refine Lib.hid ?_
            intro w9 hF tF
            have HBF := Lib.hid hF
            have TT := Lib.hid (hT.trans' (F' := fun g => g = z + 2) tF (fun i hi => .inr (by have hi : i = z + 2 := hi; have := HZW.out; omega)))
            have HO9 := Lib.hid (HOW.out w9 tF)
            clear hF tF hN hR hT
            go_wp2
            (try simp only [Exit.inBlock, Exit.then])
            (try rw [Exit.noGoto_ret])
            refine bodyPost_ret (results_row_tmp (P := Tryz.prog) rfl _ _ (z + 2) 50 _ (0, 0) _ rfl HBF.out Tryz.underlying50 rfl (by kernel_rfl)) rfl ?_
            unfold ConsOk
            rw [HLL.out]
            have hrf := Row.own (P := fun _ => True) HO9.out (fun _ _ => trivial)
            refine ⟨_, rfl, ⟨_, _, rfl, ?_, Row.nil _ _ _⟩, TT.out⟩
            simp only
            rw [← HFX.out]
            unfold RowsOf
            rw [List.length_append, List.length_singleton]
            exact hrf
      · have h2' : (c3 == 2) = false := by simpa using h2
        have HALL := Lib.hid (cons_plus_no (c := (7, c2, c3, c4, c5, 0)) kids splits h2)
        have HFX := Lib.hid (show xs ++ [(6, c2, c3, c4, c5, 0)] = consPlus (7, c2, c3, c4, c5, 0) kids splits by
          rw [HALL.out, ← HX1.out, ← HE4.out]
          simp [ofC])
        have hR := HRK.out w6 (Tch.refl _ _)
        have hT := HTK.out w6 (Tch.refl _ _)
        have k2 : w6.cell? ⟨z + 1, 2, none⟩ = some (.int .i64 c3) := hC.cell 2
        have hxl2 : xs.length ≤ 50 := by omega
        clear HALL HX1 HE4 HF4 HCK HRK HTK HKR HSR h2
        by_cases hk0 : 0 < kids.length
        · have hk0' : (0 : Int) < (kids.length : Int) := by omega
          go_wp2_with fail
          go_loopw [11] (fun i wr => i = .int .i64 0 ∧ w6 = wr) (fun _ _ => 0)
          case atStart => exact ⟨rfl, rfl⟩
          case round =>
            obtain ⟨rfl, rfl⟩ := hrel
            obtain ⟨O, co, hN, ho, hob⟩ := hPl
            have Y0 := within_cell (F := fun _ => False) (show w6.cell? ⟨z + 1, 0, none⟩ = some (.int .i64 7) from hC.cell 0) id
            have Y1 := within_cell (F := fun _ => False) (show w6.cell? ⟨z + 1, 1, none⟩ = some (.int .i64 c2) from hC.cell 1) id
            have Y2 := within_cell (F := fun _ => False) (show w6.cell? ⟨z + 1, 2, none⟩ = some (.int .i64 c3) from hC.cell 2) id
            have Y3 := within_cell (F := fun _ => False) (show w6.cell? ⟨z + 1, 3, none⟩ = some (.int .i64 c4) from hC.cell 3) id
            have Y4 := within_cell (F := fun _ => False) (show w6.cell? ⟨z + 1, 4, none⟩ = some (.int .i64 c5) from hC.cell 4) id
            have Y5 := within_cell (F := fun _ => False) (show w6.cell? ⟨z + 1, 5, none⟩ = some (.int .i64 0) from hC.cell 5) id
            have Y6 := within_cell (F := fun _ => False) (show w6.cell? ⟨z + 3, 2, none⟩ = some (.slice O xs.length co) from hN.cell 2) id
            go_wp2_with fail
            refine wp_region_touch (fun _ => False) [] 9 [(7, .inl (.agg #[.int .i64 6, .int .i64 c2, .int .i64 c3, .int .i64 c4, .int .i64 c5, .int .i64 0])), (8, .inr fun u w' => ∃ g, u = .slice (some ⟨g, 0, none⟩) 1 1 ∧ Blk w' g 31 #[.int .i64 6, .int .i64 c2, .int .i64 c3, .int .i64 c4, .int .i64 c5, .int .i64 0])] [] (by kernel_rfl) rfl (by kernel_rfl) rfl (fun d _ _ _ _ h => by cases d <;> exact h) ?_ ?_
            · exact ⟨fun _ _ _ hr ⟨g, h1, h2⟩ => ⟨g, h1, h2.keep hr id⟩, trivial⟩
            (intro bef ops hbef hops; clear hbef; subst hops; simp only [List.take_succ_cons, List.take_zero, List.drop_succ_cons, List.drop_zero])
            iterate 7 (refine t_det (by rfl) (by rfl) (by rfl) (by rfl) (fun K hK => ?_); go_big_quiet_op; (first | refine hK _ ?_ | refine ⟨_, fun _ => rfl, hK _ ?_⟩); clear hK K; (try simp only [Act.put, List.setIfInBounds_toArray, List.set_cons_succ, List.set_cons_zero]))
            refine t_fix (.agg #[.int .i64 6, .int .i64 c2, .int .i64 c3, .int .i64 c4, .int .i64 c5, .int .i64 0]) (by rfl) (by rfl) (fun w4 hr hf => ?_) ?_
            · refine yields_of_wp (d := 98) rfl (by simp) (fun K hK => ?_)
              go_step
              refine (consof_any 7 c2 c3 c4 c5 0 6 (c2) (c3) w4).mono ?_
              rintro _ w5 ⟨rfl, t5⟩
              exact hK _ _ ⟨⟨rfl, t5⟩, newAt_no⟩
            simp only [Act.put, List.setIfInBounds_toArray, List.set_cons_succ, List.set_cons_zero]
            refine t_loose (by rfl) (by rfl) (fun w4 hr hf => ?_) (fun u => ?_)
            · refine yields_of_wp (d := 99) rfl (by simp) (fun K hK => ?_)
              go_step
              exact hK _ _ ⟨⟨⟨_, rfl, Blk.new _ _ _⟩, Tch.alloc _ _ _⟩, newAt_no⟩
            simp only [Act.put, List.setIfInBounds_toArray, List.set_cons_succ, List.set_cons_zero]
            refine t_nil ?_
            intro a8 hr hp hap
            obtain ⟨gq, rfl, hgq⟩ := hp _ (List.Mem.head _)
            have t4 := (Tch.drew (fun _ => False) w6).trans hr
            clear hp hap hr Y0 Y1 Y2 Y3 Y4 Y5 Y6
            have ho4 := t4.own ho (fun _ _ => id)
            have hN4 := hN.keep t4 id
            refine wpList_append _ rfl _ _ 40 rfl rowCells (own_base ho4) (by rfl) (Go.Gk.Src.one (news := int6 (6, c2, c3, c4, c5, 0)) rfl (fun m9 u9 hu9 => by rw [hgq.cell m9]; simpa [int6] using hu9)) (by rfl) (one6 _) (by unfold maxLen; (try simp only [List.length_nil]); omega) (by (try simp only [List.length_nil]); omega) ?_
            intro v2 b8 ho2 hg2 hl2
            obtain ⟨O2, co2, rfl, _, _⟩ := own_form ho2
            have tg : Tch Q2 a8 b8 := Tch.grown hg2 fun k9 hk9 => .inl (hob k9 hk9)
            have ob2 : ∀ g, (Value.slice O2 (xs.length + 1) co2).ownBlock = some g → Q2 g := fun g9 hg9 => by
              rcases hl2 g9 hg9 with h9 | h9
              · exact hob g9 h9
              · exact HQN.out g9 (by have := t4.size; omega)
            have hN5 := hN4.keep tg (fun h => by have := HQ4.out _ h; omega)
            clear hg2 hl2 hN hN4 ho ho4 hob hgq
            go_step
            go_step
            go_step
            refine wpList_store_cell rfl _ _ _ rfl (z + 3) 2 (.slice O2 (xs.length + 1) co2) (by rfl) (by rfl) rfl (by rfl) hN5 (by simp) ?_
            intro w8 hN6 ts6
            have hPl := PlusAt.next (X := (6, c2, c3, c4, c5, 0)) hN6 (ts6.own ho2 (fun g9 hg9 he9 => by have he9 : g9 = z + 3 := he9; have := HQ4.out g9 (ob2 g9 hg9); omega)) ob2 HQ4.out
            have tq : Tch (fun g => g = z + 3 ∨ Q2 g) w6 w8 := ((t4.mono fun i _ h => h.elim).trans (tg.mono fun i _ h => .inr h)).trans (ts6.mono fun i _ h => .inl h)
            clear hN5 hN6 ho2 ob2 tg ts6 t4
            have hR := hR.keep tq (fun e => by rcases e with e | e; omega; (have := HQ4.out _ e; omega))
            have hT := hT.trans' tq (fun i hi => .inr (by have := HZW.out; rcases hi with e | e; omega; (have := HQ4.out _ e; omega)))
            obtain ⟨O, co, hN, ho, hob⟩ := hPl
            have e9 : (xs ++ [((6, c2, c3, c4, c5, 0) : Rt6)]).length = xs.length + 1 := by simp
            rw [e9] at hN ho hob
            clear e9
            have HOW := Lib.hid (fun wq (t : Tch (fun g => g = z + 2) w8 wq) => t.own ho (fun g hg he => by have he : g = z + 2 := he; have := HQ4.out g (hob g hg); omega))
            clear tq hC k2
            go_wp2_with (refine wpList_load_row rfl _ _ rfl (z + 3) (by rfl) 50 #[.int .i64 0, .int .i64 0, .slice O (xs.length + 1) co, .slice none 0 0, .int .i64 0, .int .i64 0, .int .i64 0, .int .i64 0, .int .i64 0, .int .i64 0, .bool false, .int .i64 0, .int .i64 0, .bool false] (0, 0) _ hN Tryz.underlying50 rfl (by kernel_rfl) ?_; refine Hid.out ?_)
            refine Lib.hid ?_
            go_wp2_with (refine wpList_store_blk rfl _ _ _ rfl (z + 2) #[.int .i64 0, .int .i64 0, .slice O (xs.length + 1) co, .slice none 0 0, .int .i64 0, .int .i64 0, .int .i64 0, .int .i64 0, .int .i64 0, .int .i64 0, .bool false, .int .i64 0, .int .i64 0, .bool false] (by rfl) (by rfl) hR (by kernel_rfl) rfl (by simp [Value.oneCell']) ?_; refine Hid.out ?_)
            refine Lib.hid ?_
            intro w9 hF tF
            have HBF := Lib.hid hF
            have TT := Lib.hid (hT.trans' (F' := fun g => g = z + 2) tF (fun i hi => .inr (by have hi : i = z + 2 := hi; have := HZW.out; omega)))
            have HO9 := Lib.hid (HOW.out w9 tF)
            clear hF tF hN hR hT
            go_wp2
            (try simp only [Exit.inBlock, Exit.then])
            (try rw [Exit.noGoto_ret])
            refine bodyPost_ret (results_row_tmp (P := Tryz.prog) rfl _ _ (z + 2) 50 _ (0, 0) _ rfl HBF.out Tryz.underlying50 rfl (by kernel_rfl)) rfl ?_
            unfold ConsOk
            rw [HLL.out]
            have hrf := Row.own (P := fun _ => True) HO9.out (fun _ _ => trivial)
            refine ⟨_, rfl, ⟨_, _, rfl, ?_, Row.nil _ _ _⟩, TT.out⟩
            simp only
            rw [← HFX.out]
            unfold RowsOf
            rw [List.length_append, List.length_singleton]
            exact hrf
        · have hk0' : ¬ (0 : Int) < (kids.length : Int) := by omega
          go_wp2_with fail
          go_loopw [11] (fun i wr => i = .int .i64 0 ∧ w6 = wr) (fun _ _ => 0)
          case atStart => exact ⟨rfl, rfl⟩
          case round =>
            obtain ⟨rfl, rfl⟩ := hrel
            obtain ⟨O, co, hN, ho, hob⟩ := hPl
            have Y0 := within_cell (F := fun _ => False) (show w6.cell? ⟨z + 1, 0, none⟩ = some (.int .i64 7) from hC.cell 0) id
            have Y1 := within_cell (F := fun _ => False) (show w6.cell? ⟨z + 1, 1, none⟩ = some (.int .i64 c2) from hC.cell 1) id
            have Y2 := within_cell (F := fun _ => False) (show w6.cell? ⟨z + 1, 2, none⟩ = some (.int .i64 c3) from hC.cell 2) id
            have Y3 := within_cell (F := fun _ => False) (show w6.cell? ⟨z + 1, 3, none⟩ = some (.int .i64 c4) from hC.cell 3) id
            have Y4 := within_cell (F := fun _ => False) (show w6.cell? ⟨z + 1, 4, none⟩ = some (.int .i64 c5) from hC.cell 4) id
            have Y5 := within_cell (F := fun _ => False) (show w6.cell? ⟨z + 1, 5, none⟩ = some (.int .i64 0) from hC.cell 5) id
            have Y6 := within_cell (F := fun _ => False) (show w6.cell? ⟨z + 3, 2, none⟩ = some (.slice O xs.length co) from hN.cell 2) id
            go_wp2_with fail
            refine wp_region_touch (fun _ => False) [] 9 [(7, .inl (.agg #[.int .i64 6, .int .i64 c2, .int .i64 c3, .int .i64 c4, .int .i64 c5, .int .i64 0])), (8, .inr fun u w' => ∃ g, u = .slice (some ⟨g, 0, none⟩) 1 1 ∧ Blk w' g 31 #[.int .i64 6, .int .i64 c2, .int .i64 c3, .int .i64 c4, .int .i64 c5, .int .i64 0])] [] (by kernel_rfl) rfl (by kernel_rfl) rfl (fun d _ _ _ _ h => by cases d <;> exact h) ?_ ?_
            · exact ⟨fun _ _ _ hr ⟨g, h1, h2⟩ => ⟨g, h1, h2.keep hr id⟩, trivial⟩
            (intro bef ops hbef hops; clear hbef; subst hops; simp only [List.take_succ_cons, List.take_zero, List.drop_succ_cons, List.drop_zero])
            iterate 7 (refine t_det (by rfl) (by rfl) (by rfl) (by rfl) (fun K hK => ?_); go_big_quiet_op; (first | refine hK _ ?_ | refine ⟨_, fun _ => rfl, hK _ ?_⟩); clear hK K; (try simp only [Act.put, List.setIfInBounds_toArray, List.set_cons_succ, List.set_cons_zero]))
            refine t_fix (.agg #[.int .i64 6, .int .i64 c2, .int .i64 c3, .int .i64 c4, .int .i64 c5, .int .i64 0]) (by rfl) (by rfl) (fun w4 hr hf => ?_) ?_
            · refine yields_of_wp (d := 98) rfl (by simp) (fun K hK => ?_)
              go_step
              refine (consof_any 7 c2 c3 c4 c5 0 6 (c2) (c3) w4).mono ?_
              rintro _ w5 ⟨rfl, t5⟩
              exact hK _ _ ⟨⟨rfl, t5⟩, newAt_no⟩
            simp only [Act.put, List.setIfInBounds_toArray, List.set_cons_succ, List.set_cons_zero]
            refine t_loose (by rfl) (by rfl) (fun w4 hr hf => ?_) (fun u => ?_)
            · refine yields_of_wp (d := 99) rfl (by simp) (fun K hK => ?_)
              go_step
              exact hK _ _ ⟨⟨⟨_, rfl, Blk.new _ _ _⟩, Tch.alloc _ _ _⟩, newAt_no⟩
            simp only [Act.put, List.setIfInBounds_toArray, List.set_cons_succ, List.set_cons_zero]
            refine t_nil ?_
            intro a8 hr hp hap
            obtain ⟨gq, rfl, hgq⟩ := hp _ (List.Mem.head _)
            have t4 := (Tch.drew (fun _ => False) w6).trans hr
            clear hp hap hr Y0 Y1 Y2 Y3 Y4 Y5 Y6
            have ho4 := t4.own ho (fun _ _ => id)
            have hN4 := hN.keep t4 id
            refine wpList_append _ rfl _ _ 40 rfl rowCells (own_base ho4) (by rfl) (Go.Gk.Src.one (news := int6 (6, c2, c3, c4, c5, 0)) rfl (fun m9 u9 hu9 => by rw [hgq.cell m9]; simpa [int6] using hu9)) (by rfl) (one6 _) (by unfold maxLen; (try simp only [List.length_nil]); omega) (by (try simp only [List.length_nil]); omega) ?_
            intro v2 b8 ho2 hg2 hl2
            obtain ⟨O2, co2, rfl, _, _⟩ := own_form ho2
            have tg : Tch Q2 a8 b8 := Tch.grown hg2 fun k9 hk9 => .inl (hob k9 hk9)
            have ob2 : ∀ g, (Value.slice O2 (xs.length + 1) co2).ownBlock = some g → Q2 g := fun g9 hg9 => by
              rcases hl2 g9 hg9 with h9 | h9
              · exact hob g9 h9
              · exact HQN.out g9 (by have := t4.size; omega)
            have hN5 := hN4.keep tg (fun h => by have := HQ4.out _ h; omega)
            clear hg2 hl2 hN hN4 ho ho4 hob hgq
            go_step
            go_step
            go_step
            refine wpList_store_cell rfl _ _ _ rfl (z + 3) 2 (.slice O2 (xs.length + 1) co2) (by rfl) (by rfl) rfl (by rfl) hN5 (by simp) ?_
            intro w8 hN6 ts6
            have hPl := PlusAt.next (X := (6, c2, c3, c4, c5, 0)) hN6 (ts6.own ho2 (fun g9 hg9 he9 => by have he9 : g9 = z + 3 := he9; have := HQ4.out g9 (ob2 g9 hg9); omega)) ob2 HQ4.out
            have tq : Tch (fun g => g = z + 3 ∨ Q2 g) w6 w8 := ((t4.mono fun i _ h => h.elim).trans (tg.mono fun i _ h => .inr h)).trans (ts6.mono fun i _ h => .inl h)
            clear hN5 hN6 ho2 ob2 tg ts6 t4
            have hR := hR.keep tq (fun e => by rcases e with e | e; omega; (have := HQ4.out _ e; omega))
            have hT := hT.trans' tq (fun i hi => .inr (by have := HZW.out; rcases hi with e | e; omega; (have := HQ4.out _ e; omega)))
            obtain ⟨O, co, hN, ho, hob⟩ := hPl
            have e9 : (xs ++ [((6, c2, c3, c4, c5, 0) : Rt6)]).length = xs.length + 1 := by simp
            rw [e9] at hN ho hob
            clear e9
            have HOW := Lib.hid (fun wq (t : Tch (fun g => g = z + 2) w8 wq) => t.own ho (fun g hg he => by have he : g = z + 2 := he; have := HQ4.out g (hob g hg); omega))
            clear tq hC k2
            go_wp2_with (refine wpList_load_row rfl _ _ rfl (z + 3) (by rfl) 50 #[.int .i64 0, .int .i64 0, .slice O (xs.length + 1) co, .slice none 0 0, .int .i64 0, .int .i64 0, .int .i64 0, .int .i64 0, .int .i64 0, .int .i64 0, .bool false, .int .i64 0, .int .i64 0, .bool false] (0, 0) _ hN Tryz.underlying50 rfl (by kernel_rfl) ?_; refine Hid.out ?_)
            refine Lib.hid ?_
            go_wp2_with (refine wpList_store_blk rfl _ _ _ rfl (z + 2) #[.int .i64 0, .int .i64 0, .slice O (xs.length + 1) co, .slice none 0 0, .int .i64 0, .int .i64 0, .int .i64 0, .int .i64 0, .int .i64 0, .int .i64 0, .bool false, .int .i64 0, .int .i64 0, .bool false] (by rfl) (by rfl) hR (by kernel_rfl) rfl (by simp [Value.oneCell']) ?_; refine Hid.out ?_)
            refine Lib.hid ?_
            intro w9 hF tF
            have HBF := Lib.hid hF
            have TT := Lib.hid (hT.trans' (F' := fun g => g = z + 2) tF (fun i hi => .inr (by have hi : i = z + 2 := hi; have := HZW.out; omega)))
            have HO9 := Lib.hid (HOW.out w9 tF)
            clear hF tF hN hR hT
            go_wp2
            (try simp only [Exit.inBlock, Exit.then])
            (try rw [Exit.noGoto_ret])
            refine bodyPost_ret (results_row_tmp (P := Tryz.prog) rfl _ _ (z + 2) 50 _ (0, 0) _ rfl HBF.out Tryz.underlying50 rfl (by kernel_rfl)) rfl ?_
            unfold ConsOk
            rw [HLL.out]
            have hrf := Row.own (P := fun _ => True) HO9.out (fun _ _ => trivial)
            refine ⟨_, rfl, ⟨_, _, rfl, ?_, Row.nil _ _ _⟩, TT.out⟩
            simp only
            rw [← HFX.out]
            unfold RowsOf
            rw [List.length_append, List.length_singleton]
            exact hrf
end
end Go.Proofs.YtnmogbhmelpbnaaGreat
