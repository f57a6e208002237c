/-
  The probe of layer 34.
-/
import Derived.Test.YtdangnmeligfjaaGreatDoorZ29
import Derived.Test.YtdangnmeligfjaaGreatDoorQk
import Derived.Test.YtdangnmeligfjaaGreatDoorVxo
import Derived.Test.YtdangnmeligfjaaGreatDoorZ14
namespace Go.Gk.V33
theorem group_e1 : elimOf groupBks (6, 1, 5, 0, 1, 0) = (⟨(0, 0), [], [(3, 2, 5, 0, 1, 3), (3, 3, 5, 0, 1, 2)], (0, 0, 0, 0, 0, 0), false, (0, 0), false⟩, 0) := by decide +kernel
theorem group_e2 : elimOf groupBks (6, 1, 3, 0, 1, 0) = (⟨(0, 0), [(3, 2, 5, 0, 1, 3), (3, 3, 5, 0, 1, 2)], [], (0, 0, 0, 0, 0, 0), false, (0, 0), false⟩, 0) := by decide +kernel
theorem group_e3 : elimOf groupBks (6, 1, 4, 0, 1, 0) = (⟨(0, 0), [], [], (0, 0, 0, 0, 0, 0), false, (0, 0), false⟩, 0) := by decide +kernel
theorem group_e4 : elimOf groupBks (7, 1, 5, 0, 1, 0) = (⟨(0, 0), [], [], (0, 0, 0, 0, 0, 0), false, (0, 0), false⟩, 25) := by decide +kernel
theorem group_v1 : valE groupBks (6, 1, 5, 0, 1, 0) = (-2, 0) := by decide +kernel
theorem group_v2 : valE groupBks (6, 1, 3, 0, 1, 0) = (2, 0) := by decide +kernel
theorem group_own {k : Rt6} (h : k ∈ [((3, 2, 5, 0, 1, 3) : Rt6), (3, 3, 5, 0, 1, 2)]) : V32.OwnKey groupBks k := by
  simp only [List.mem_cons, List.not_mem_nil, or_false] at h
  rcases h with rfl | rfl <;> (intro _; decide)
theorem group_r1 : readsOf (elimOf groupBks (6, 1, 5, 0, 1, 0)).1 = [(3, 2, 5, 0, 1, 3), (3, 3, 5, 0, 1, 2)] := by decide +kernel
theorem group_r2 : readsOf (elimOf groupBks (6, 1, 3, 0, 1, 0)).1 = [(3, 2, 5, 0, 1, 3), (3, 3, 5, 0, 1, 2)] := by decide +kernel
theorem group_less : (posts groupBks.entries).length ≤ 3000 := by decide
end Go.Gk.V33
namespace Go.Proofs.YtdangnmeligfjaaGreatDoor
open Go.RowKit Go.Gk Go.Gk.V33

set_option maxRecDepth 100000 in
set_option maxHeartbeats 800000 in
theorem key34_any (a : Int) (w : World) :
    Calls Tryz.prog 24 #[.int .i64 a] w fun x w' => x = .returned (.agg #[.int .i64 6, .int .i64 1, .int .i64 a, .int .i64 0, .int .i64 1, .int .i64 0]) ∧ Tch (fun _ => False) w w' := by
  go_enter Tryz.func24, Tryz.ntmps24
  go_wp2
  refine bodyPost_ret (results_cell_row (P := Tryz.prog) rfl _ _ (w.heap.size) 31 _ (0, 0) _ rfl (Blk.new w 31 _) Tryz.underlying31 rfl (by kernel_rfl)) rfl ?_
  exact ⟨rfl, Tch.alloc _ _ _⟩

set_option maxRecDepth 100000 in
set_option maxHeartbeats 800000 in
theorem side34_any (x y : Int) (w : World) :
    Calls Tryz.prog 25 #[.int .i64 x, .int .i64 y] w fun e w' => e = .returned (.agg #[.int .i64 3, .int .i64 x, .int .i64 5, .int .i64 0, .int .i64 1, .int .i64 y]) ∧ Tch (fun _ => False) w w' := by
  go_enter Tryz.func25, Tryz.ntmps25
  go_wp2
  refine bodyPost_ret (results_cell_row (P := Tryz.prog) rfl _ _ (w.heap.size) 31 _ (0, 0) _ rfl (Blk.new w 31 _) Tryz.underlying31 rfl (by kernel_rfl)) rfl ?_
  exact ⟨rfl, Tch.alloc _ _ _⟩

set_option maxRecDepth 100000 in
set_option maxHeartbeats 25600000 in
theorem awake34_any (w : World) :
    Calls Tryz.prog 7 #[] w fun x w' => x = .returned (.bool true) ∧ Tch (fun _ => False) w w' := by
  go_enter Tryz.func7, Tryz.ntmps7
  go_wp2_with fail
  refine (group_any w).mono ?_
  rintro _ w1 ⟨e, a, s, r, l, n, us, rfl, hB, t1⟩
  go_wp2_with fail
  refine (see_any hB groupBks_few groupBks_64).mono ?_
  rintro _ w2 ⟨hsee, t2⟩
  have tt := t1.trans t2
  clear hB t1 t2
  rcases hsee with ⟨h, _⟩ | ⟨_, bv, bi, B, t, mr, mp, e, a, s, r, l, n, lv, fs, us, rfl, hV⟩
  · rw [groupBks_ok] at h; cases h
  go_wp2_with fail
  refine (key34_any 5 w2).mono ?_
  rintro _ v1 ⟨rfl, t1⟩
  have hV := hV.keep t1
  go_wp2_with fail
  refine (elimrec_x hV group_hn group_hp groupBks_ok 6 1 5 0 1 0).mono ?_
  rintro _ u1 ⟨q1, rfl, h1, t2⟩
  rw [group_e1] at h1 ⊢
  obtain ⟨pt, mt, rfl, hpt, hmt⟩ := h1
  obtain ⟨P1, c1, rfl, _, _⟩ := hpt.form
  obtain ⟨M1, d1, rfl, _, _⟩ := hmt.form
  have hp1 := Lib.hid hpt
  have hm1 := Lib.hid hmt
  unfold rcpV
  simp only [List.length_nil, List.length_cons, Nat.zero_add, Nat.reduceAdd] at hp1 hm1 ⊢
  have ta := Tch.alloc (fun _ => False) u1 (.cells #[.int .i64 0, .int .i64 0, .slice P1 0 c1, .slice M1 2 d1, .int .i64 0, .int .i64 0, .int .i64 0, .int .i64 0, .int .i64 0, .int .i64 0, .bool false, .int .i64 0, .int .i64 0, .bool false] 46)
  have x1 := Blk.new u1 46 #[.int .i64 0, .int .i64 0, .slice P1 0 c1, .slice M1 2 d1, .int .i64 0, .int .i64 0, .int .i64 0, .int .i64 0, .int .i64 0, .int .i64 0, .bool false, .int .i64 0, .int .i64 0, .bool false]
  have t3 := t2.trans ta
  have t4 := t1.trans t3
  have hV := hV.keep t3
  have tt := tt.trans t4
  have hp1 := Lib.hid (hp1.out.keep ta)
  have hm1 := Lib.hid (hm1.out.keep ta)
  clear hpt hmt ta t1 t2 t3 t4
  go_wp2_with fail
  generalize u1.alloc _ = W1 at *
  generalize u1.heap.size = y1 at *
  go_wp2_with fail
  refine (key34_any 3 W1).mono ?_
  rintro _ v2 ⟨rfl, t1⟩
  have hV := hV.keep t1
  go_wp2_with fail
  refine (elimrec_x hV group_hn group_hp groupBks_ok 6 1 3 0 1 0).mono ?_
  rintro _ u2 ⟨q2, rfl, h1, t2⟩
  rw [group_e2] at h1 ⊢
  obtain ⟨pt, mt, rfl, hpt, hmt⟩ := h1
  obtain ⟨P2, c2, rfl, _, _⟩ := hpt.form
  obtain ⟨M2, d2, rfl, _, _⟩ := hmt.form
  have hp2 := Lib.hid hpt
  have hm2 := Lib.hid hmt
  unfold rcpV
  simp only [List.length_nil, List.length_cons, Nat.zero_add, Nat.reduceAdd] at hp2 hm2 ⊢
  have ta := Tch.alloc (fun _ => False) u2 (.cells #[.int .i64 0, .int .i64 0, .slice P2 2 c2, .slice M2 0 d2, .int .i64 0, .int .i64 0, .int .i64 0, .int .i64 0, .int .i64 0, .int .i64 0, .bool false, .int .i64 0, .int .i64 0, .bool false] 46)
  have x2 := Blk.new u2 46 #[.int .i64 0, .int .i64 0, .slice P2 2 c2, .slice M2 0 d2, .int .i64 0, .int .i64 0, .int .i64 0, .int .i64 0, .int .i64 0, .int .i64 0, .bool false, .int .i64 0, .int .i64 0, .bool false]
  have t3 := t2.trans ta
  have t4 := t1.trans t3
  have hV := hV.keep t3
  have tt := tt.trans t4
  have x1 := x1.keep t4 id
  have hp1 := Lib.hid (hp1.out.keep t4)
  have hm1 := Lib.hid (hm1.out.keep t4)
  have hp2 := Lib.hid (hp2.out.keep ta)
  have hm2 := Lib.hid (hm2.out.keep ta)
  clear hpt hmt ta t1 t2 t3 t4
  go_wp2_with fail
  generalize u2.alloc _ = W2 at *
  generalize u2.heap.size = y2 at *
  go_wp2_with fail
  refine (key34_any 4 W2).mono ?_
  rintro _ v3 ⟨rfl, t1⟩
  have hV := hV.keep t1
  go_wp2_with fail
  refine (elimrec_x hV group_hn group_hp groupBks_ok 6 1 4 0 1 0).mono ?_
  rintro _ u3 ⟨q3, rfl, h1, t2⟩
  rw [group_e3] at h1 ⊢
  obtain ⟨pt, mt, rfl, hpt, hmt⟩ := h1
  obtain ⟨P3, c3, rfl, _, _⟩ := hpt.form
  obtain ⟨M3, d3, rfl, _, _⟩ := hmt.form
  have hp3 := Lib.hid hpt
  have hm3 := Lib.hid hmt
  unfold rcpV
  simp only [List.length_nil] at hp3 hm3 ⊢
  have ta := Tch.alloc (fun _ => False) u3 (.cells #[.int .i64 0, .int .i64 0, .slice P3 0 c3, .slice M3 0 d3, .int .i64 0, .int .i64 0, .int .i64 0, .int .i64 0, .int .i64 0, .int .i64 0, .bool false, .int .i64 0, .int .i64 0, .bool false] 46)
  have x3 := Blk.new u3 46 #[.int .i64 0, .int .i64 0, .slice P3 0 c3, .slice M3 0 d3, .int .i64 0, .int .i64 0, .int .i64 0, .int .i64 0, .int .i64 0, .int .i64 0, .bool false, .int .i64 0, .int .i64 0, .bool false]
  have t3 := t2.trans ta
  have t4 := t1.trans t3
  have hV := hV.keep t3
  have tt := tt.trans t4
  have x1 := x1.keep t4 id
  have hp1 := Lib.hid (hp1.out.keep t4)
  have hm1 := Lib.hid (hm1.out.keep t4)
  have x2 := x2.keep t4 id
  have hp2 := Lib.hid (hp2.out.keep t4)
  have hm2 := Lib.hid (hm2.out.keep t4)
  have hp3 := Lib.hid (hp3.out.keep ta)
  have hm3 := Lib.hid (hm3.out.keep ta)
  clear hpt hmt ta t1 t2 t3 t4
  go_wp2_with fail
  generalize u3.alloc _ = W3 at *
  generalize u3.heap.size = y3 at *
  go_wp2_with fail
  refine (elimrec_x hV group_hn group_hp groupBks_ok 7 1 5 0 1 0).mono ?_
  rintro _ u4 ⟨q4, rfl, h1, t2⟩
  rw [group_e4] at h1 ⊢
  obtain ⟨pt, mt, rfl, hpt, hmt⟩ := h1
  obtain ⟨P4, c4, rfl, _, _⟩ := hpt.form
  obtain ⟨M4, d4, rfl, _, _⟩ := hmt.form
  have hp4 := Lib.hid hpt
  have hm4 := Lib.hid hmt
  unfold rcpV
  simp only [List.length_nil] at hp4 hm4 ⊢
  have ta := Tch.alloc (fun _ => False) u4 (.cells #[.int .i64 0, .int .i64 0, .slice P4 0 c4, .slice M4 0 d4, .int .i64 0, .int .i64 0, .int .i64 0, .int .i64 0, .int .i64 0, .int .i64 0, .bool false, .int .i64 0, .int .i64 0, .bool false] 46)
  have x4 := Blk.new u4 46 #[.int .i64 0, .int .i64 0, .slice P4 0 c4, .slice M4 0 d4, .int .i64 0, .int .i64 0, .int .i64 0, .int .i64 0, .int .i64 0, .int .i64 0, .bool false, .int .i64 0, .int .i64 0, .bool false]
  have t3 := t2.trans ta
  have t4 := t3
  have hV := hV.keep t3
  have tt := tt.trans t4
  have x1 := x1.keep t4 id
  have hp1 := Lib.hid (hp1.out.keep t4)
  have hm1 := Lib.hid (hm1.out.keep t4)
  have x2 := x2.keep t4 id
  have hp2 := Lib.hid (hp2.out.keep t4)
  have hm2 := Lib.hid (hm2.out.keep t4)
  have x3 := x3.keep t4 id
  have hp3 := Lib.hid (hp3.out.keep t4)
  have hm3 := Lib.hid (hm3.out.keep t4)
  have hp4 := Lib.hid (hp4.out.keep ta)
  have hm4 := Lib.hid (hm4.out.keep ta)
  clear hpt hmt ta t2 t3 t4
  go_wp2_with fail
  generalize u4.alloc _ = W4 at *
  generalize u4.heap.size = y4 at *
  clear x4 hp4 hm4
  refine (side34_any 2 3 W4).mono ?_
  rintro _ v5 ⟨rfl, t5⟩
  go_wp2_with fail
  refine (side34_any 3 2 v5).mono ?_
  rintro _ v6 ⟨rfl, t6⟩
  have tb := Tch.alloc (fun _ => False) v6 (.cells #[.int .i64 3, .int .i64 2, .int .i64 5, .int .i64 0, .int .i64 1, .int .i64 3, .int .i64 3, .int .i64 3, .int .i64 5, .int .i64 0, .int .i64 1, .int .i64 2] 31)
  have xb := Blk.new v6 31 #[.int .i64 3, .int .i64 2, .int .i64 5, .int .i64 0, .int .i64 1, .int .i64 3, .int .i64 3, .int .i64 3, .int .i64 5, .int .i64 0, .int .i64 1, .int .i64 2]
  have t7 := (t5.trans t6).trans tb
  have hV := hV.keep t7
  have tt := tt.trans t7
  have x1 := x1.keep t7 id
  have hp1 := Lib.hid (hp1.out.keep t7)
  have hm1 := Lib.hid (hm1.out.keep t7)
  have x2 := x2.keep t7 id
  have hp2 := Lib.hid (hp2.out.keep t7)
  have hm2 := Lib.hid (hm2.out.keep t7)
  have x3 := x3.keep t7 id
  have hp3 := Lib.hid (hp3.out.keep t7)
  have hm3 := Lib.hid (hm3.out.keep t7)
  clear t5 t6 tb t7
  have hrow : RowsOf int6 6 (fun _ => True) (v6.alloc (.cells #[.int .i64 3, .int .i64 2, .int .i64 5, .int .i64 0, .int .i64 1, .int .i64 3, .int .i64 3, .int .i64 3, .int .i64 5, .int .i64 0, .int .i64 1, .int .i64 2] 31)) (.slice (some ⟨v6.heap.size, 0, none⟩) 2 2) [(3, 2, 5, 0, 1, 3), (3, 3, 5, 0, 1, 2)] := Row.blk xb trivial rfl (by decide)
  have HROW := Lib.hid (fun w' (t9 : Tch (fun _ => False) _ w') => hrow.keep t9)
  have HS1 := Lib.hid (refsame_any hm1.out hrow)
  (try simp only [List.length_nil, List.length_cons, Nat.zero_add, Nat.reduceAdd] at HS1)
  have m1 : (v6.alloc (.cells #[.int .i64 3, .int .i64 2, .int .i64 5, .int .i64 0, .int .i64 1, .int .i64 3, .int .i64 3, .int .i64 3, .int .i64 5, .int .i64 0, .int .i64 1, .int .i64 2] 31)).cell? ⟨y1, 3, none⟩ = some (.slice M1 2 d1) := x1.cell 3
  clear hrow xb
  go_wp2_with fail
  generalize v6.alloc _ = W7 at *
  generalize v6.heap.size = y7 at *
  refine HS1.out.mono ?_
  rintro _ w8 ⟨rfl, t8⟩
  have hV := hV.keep t8
  have tt8 := tt.trans t8
  have x1 := x1.keep t8 id
  have hp1 := Lib.hid (hp1.out.keep t8)
  have hm1 := Lib.hid (hm1.out.keep t8)
  have x2 := x2.keep t8 id
  have hp2 := Lib.hid (hp2.out.keep t8)
  have hm2 := Lib.hid (hm2.out.keep t8)
  have x3 := x3.keep t8 id
  have hp3 := Lib.hid (hp3.out.keep t8)
  have hm3 := Lib.hid (hm3.out.keep t8)
  have HS2 := Lib.hid (refsame_any hp2.out (HROW.out _ t8))
  (try simp only [List.length_nil, List.length_cons, Nat.zero_add, Nat.reduceAdd] at HS2)
  have m2 : w8.cell? ⟨y1, 2, none⟩ = some (.slice P1 0 c1) := x1.cell 2
  have m3 : w8.cell? ⟨y2, 2, none⟩ = some (.slice P2 2 c2) := x2.cell 2
  clear HS1 m1 HROW
  go_wp2_with fail
  refine HS2.out.mono ?_
  rintro _ w9 ⟨rfl, t9⟩
  have hV := hV.keep t9
  have tt9 := tt8.trans t9
  have x1 := x1.keep t9 id
  have hp1 := Lib.hid (hp1.out.keep t9)
  have hm1 := Lib.hid (hm1.out.keep t9)
  have x2 := x2.keep t9 id
  have hp2 := Lib.hid (hp2.out.keep t9)
  have hm2 := Lib.hid (hm2.out.keep t9)
  have x3 := x3.keep t9 id
  have hp3 := Lib.hid (hp3.out.keep t9)
  have hm3 := Lib.hid (hm3.out.keep t9)
  have n0 : w9.cell? ⟨y3, 0, none⟩ = some (.int .i64 0) := x3.cell 0
  have n1 : w9.cell? ⟨y3, 1, none⟩ = some (.int .i64 0) := x3.cell 1
  have n2 : w9.cell? ⟨y3, 2, none⟩ = some (.slice P3 0 c3) := x3.cell 2
  have n3 : w9.cell? ⟨y3, 3, none⟩ = some (.slice M3 0 d3) := x3.cell 3
  have n4 : w9.cell? ⟨y3, 4, none⟩ = some (.int .i64 0) := x3.cell 4
  have n5 : w9.cell? ⟨y3, 5, none⟩ = some (.int .i64 0) := x3.cell 5
  have n6 : w9.cell? ⟨y3, 6, none⟩ = some (.int .i64 0) := x3.cell 6
  have n7 : w9.cell? ⟨y3, 7, none⟩ = some (.int .i64 0) := x3.cell 7
  have n8 : w9.cell? ⟨y3, 8, none⟩ = some (.int .i64 0) := x3.cell 8
  have n9 : w9.cell? ⟨y3, 9, none⟩ = some (.int .i64 0) := x3.cell 9
  have n10 : w9.cell? ⟨y3, 10, none⟩ = some (.bool false) := x3.cell 10
  have n11 : w9.cell? ⟨y3, 11, none⟩ = some (.int .i64 0) := x3.cell 11
  have n12 : w9.cell? ⟨y3, 12, none⟩ = some (.int .i64 0) := x3.cell 12
  have n13 : w9.cell? ⟨y3, 13, none⟩ = some (.bool false) := x3.cell 13
  have m4 : w9.cell? ⟨y2, 3, none⟩ = some (.slice M2 0 d2) := x2.cell 3
  have HRI := Lib.hid (reads_any (r := ⟨(0, 0), [], [], (0, 0, 0, 0, 0, 0), false, (0, 0), false⟩) (show RcpIs w9 (.agg #[.int .i64 0, .int .i64 0, .slice P3 0 c3, .slice M3 0 d3, .int .i64 0, .int .i64 0, .int .i64 0, .int .i64 0, .int .i64 0, .int .i64 0, .bool false, .int .i64 0, .int .i64 0, .bool false]) ⟨(0, 0), [], [], (0, 0, 0, 0, 0, 0), false, (0, 0), false⟩ from ⟨_, _, rfl, hp3.out, hm3.out⟩) (by decide))
  have hre : readsOf ⟨(0, 0), [], [], (0, 0, 0, 0, 0, 0), false, (0, 0), false⟩ = [] := by decide
  rw [hre] at HRI
  clear HS2 m2 m3 x1 x2 x3 hp1 hp2 hp3 hm1 hm2 hm3 t8 t9 hre
  go_wp2_with fail
  refine HRI.out.mono ?_
  rintro _ w10 ⟨u, rfl, hrow, t10⟩
  have hV := hV.keep t10
  have tt10 := tt9.trans t10
  obtain ⟨U, cu, rfl, _, _⟩ := hrow.form
  (try simp only [List.length_nil])
  clear HRI hrow m4 n0 n1 n2 n3 n4 n5 n6 n7 n8 n9 n10 n11 n12 n13 tt tt8 tt9 t10
  go_wp2_with fail
  refine (key34_any 5 w10).mono ?_
  rintro _ ka1 ⟨rfl, tk⟩
  have hV := hV.keep tk
  have HVL := Lib.hid (value34_any hV group_hn group_less groupBks_ok 6 1 5 0 1 0 (fun w' t9 s1 s2 s3 s4 s5 s6 hk => by
    rw [group_r1] at hk
    exact value32_own group_hn group_hp group_h64 20 w' 20 (by decide) (hV.keep t9) s1 s2 s3 s4 s5 s6 (group_own hk)))
  rw [group_v1] at HVL
  unfold vlV at HVL
  (try simp only at HVL)
  have ttk1 := tt10.trans tk
  clear tk
  go_wp2_with fail
  refine HVL.out.mono ?_
  rintro _ kb1 ⟨rfl, tk⟩
  have hV := hV.keep tk
  have ttl1 := ttk1.trans tk
  have hcmp1 : ∀ w' : World, (binOp .eql 39 (.agg #[.int .i64 (-2), .int .i64 0]) (.agg #[.int .i64 (-2), .int .i64 0])).run Tryz.prog w' = .ok (.bool true) w' := fun w' => by rw [run_eq_Val]; simp
  clear tk HVL ttk1
  go_wp2_with fail
  refine (key34_any 3 kb1).mono ?_
  rintro _ ka2 ⟨rfl, tk⟩
  have hV := hV.keep tk
  have HVL := Lib.hid (value34_any hV group_hn group_less groupBks_ok 6 1 3 0 1 0 (fun w' t9 s1 s2 s3 s4 s5 s6 hk => by
    rw [group_r2] at hk
    exact value32_own group_hn group_hp group_h64 20 w' 20 (by decide) (hV.keep t9) s1 s2 s3 s4 s5 s6 (group_own hk)))
  rw [group_v2] at HVL
  unfold vlV at HVL
  (try simp only at HVL)
  have ttk2 := ttl1.trans tk
  clear tk
  go_wp2_with fail
  refine HVL.out.mono ?_
  rintro _ kb2 ⟨rfl, tk⟩
  have hV := hV.keep tk
  have ttl2 := ttk2.trans tk
  have hcmp2 : ∀ w' : World, (binOp .eql 39 (.agg #[.int .i64 (2), .int .i64 0]) (.agg #[.int .i64 (2), .int .i64 0])).run Tryz.prog w' = .ok (.bool true) w' := fun w' => by rw [run_eq_Val]; simp
  clear tk HVL ttk2
  clear hV
  go_wp2
  go_ret
  exact ⟨rfl, ttl2⟩
end Go.Proofs.YtdangnmeligfjaaGreatDoor
