/-
  The probe of layer 34.
-/
import Derived.Test.YtdangnmeligfjaaGreatDoorZ29
import Derived.Test.YtdangnmeligfjaaGreatDoorZ66
import Derived.Test.YtdangnmeligfjaaGreatDoorVx
import Derived.Test.YtdangnmeligfjaaGreatDoorZ14
import Derived.Test.YtdangnmeligfjaaGreatDoorZ24
import Derived.Test.YtdangnmeligfjaaGreatDoorZ64
import Derived.Test.YtdangnmeligfjaaGreatDoorZ7
namespace Go.Gk.V33
theorem group_e1 : elimOf groupBks (6, 1, 5, 0, 1, 0) = (⟨(0, 0), [], [(3, 2, 5, 0, 1, 3), (3, 3, 5, 0, 1, 2)], (0, 0, 0, 0, 0, 0), false, (0, 0), false⟩, 0) := by decide +kernel
theorem group_e2 : elimOf groupBks (6, 1, 3, 0, 1, 0) = (⟨(0, 0), [(3, 2, 5, 0, 1, 3), (3, 3, 5, 0, 1, 2)], [], (0, 0, 0, 0, 0, 0), false, (0, 0), false⟩, 0) := by decide +kernel
theorem group_e3 : elimOf groupBks (6, 1, 4, 0, 1, 0) = (⟨(0, 0), [], [], (0, 0, 0, 0, 0, 0), false, (0, 0), false⟩, 0) := by decide +kernel
theorem group_e4 : elimOf groupBks (7, 1, 5, 0, 1, 0) = (⟨(0, 0), [], [], (0, 0, 0, 0, 0, 0), false, (0, 0), false⟩, 25) := by decide +kernel
theorem group_v1 : valE groupBks (6, 1, 5, 0, 1, 0) = (-2, 0) := by decide +kernel
theorem group_v2 : valE groupBks (6, 1, 3, 0, 1, 0) = (2, 0) := by decide +kernel
theorem group_less : (posts groupBks.entries).length ≤ 3000 := by decide
end Go.Gk.V33
namespace Go.Proofs.YtdangnmeligfjaaGreatDoor
open Go.RowKit Go.Gk Go.Gk.V33
set_option maxRecDepth 100000 in
set_option maxHeartbeats 800000 in
theorem key34_any (a : Int) (w : World) :
 Calls Tryz.prog 24 #[.int .i64 a] w fun x w' => x = .returned (.agg #[.int .i64 6, .int .i64 1, .int .i64 a, .int .i64 0, .int .i64 1, .int .i64 0]) ∧ Tch (fun _ => False) w w' := by
 go_enter Tryz.func24, Tryz.ntmps24
 go_wp2
 refine bodyPost_ret (results_cell_row (P := Tryz.prog) rfl _ _ (w.heap.size) 31 _ (0, 0) _ rfl (Blk.new w 31 _) Tryz.underlying31 rfl (by kernel_rfl)) rfl ?_
 exact ⟨rfl, Tch.alloc _ _ _⟩
set_option maxRecDepth 100000 in
set_option maxHeartbeats 800000 in
theorem side34_any (x y : Int) (w : World) :
 Calls Tryz.prog 25 #[.int .i64 x, .int .i64 y] w fun e w' => e = .returned (.agg #[.int .i64 3, .int .i64 x, .int .i64 5, .int .i64 0, .int .i64 1, .int .i64 y]) ∧ Tch (fun _ => False) w w' := by
 go_enter Tryz.func25, Tryz.ntmps25
 go_wp2
 refine bodyPost_ret (results_cell_row (P := Tryz.prog) rfl _ _ (w.heap.size) 31 _ (0, 0) _ rfl (Blk.new w 31 _) Tryz.underlying31 rfl (by kernel_rfl)) rfl ?_
 exact ⟨rfl, Tch.alloc _ _ _⟩
set_option maxRecDepth 100000 in
set_option maxHeartbeats 25600000 in
theorem awake34_tab (w : World) (hT : Tab64 1 w) :
 Calls Tryz.prog 7 #[] w fun x w' => x = .returned (.bool true) ∧ Tch (fun _ => False) w w' := by
 have HTA := Lib.hid (fun w' (t9 : Tch (fun _ => False) w w') => hT.keep t9)
 clear hT
 go_enter Tryz.func7, Tryz.ntmps7
 go_wp2_with fail
 refine (group_any w).mono ?_
 rintro _ w1 ⟨e, a, s, r, l, n, us, rfl, hB, t1⟩
 go_wp2_with fail
 refine (see_any hB groupBks_few groupBks_64).mono ?_
 rintro _ w2 ⟨hsee, t2⟩
 have tt := t1.trans t2
 clear hB t1 t2
 rcases hsee with ⟨h, _⟩ | ⟨_, bv, bi, B, t, mr, mp, e, a, s, r, l, n, lv, fs, us, rfl, hV⟩
 ·rw [groupBks_ok] at h; cases h
 go_wp2_with fail
 refine (key34_any 5 w2).mono ?_
 rintro _ v1 ⟨rfl, t1⟩
 have hV := hV.keep t1
 go_wp2_with fail
 refine (elimrec_x hV group_hn group_hp groupBks_ok 6 1 5 0 1 0).mono ?_
 rintro _ u1 ⟨q1, rfl, h1, t2⟩
 rw [group_e1] at h1 ⊢
 obtain ⟨pt, mt, rfl, hpt, hmt⟩ := h1
 obtain ⟨P1, c1, rfl, _, _⟩ := hpt.form
 obtain ⟨M1, d1, rfl, _, _⟩ := hmt.form
 have hp1 := Lib.hid hpt
 have hm1 := Lib.hid hmt
 unfold rcpV
 simp only [List.length_nil, List.length_cons, Nat.zero_add, Nat.reduceAdd] at hp1 hm1 ⊢
 have ta := Tch.alloc (fun _ => False) u1 (.cells #[.int .i64 0, .int .i64 0, .slice P1 0 c1, .slice M1 2 d1, .int .i64 0, .int .i64 0, .int .i64 0, .int .i64 0, .int .i64 0, .int .i64 0, .bool false, .int .i64 0, .int .i64 0, .bool false] 46)
 have x1 := Blk.new u1 46 #[.int .i64 0, .int .i64 0, .slice P1 0 c1, .slice M1 2 d1, .int .i64 0, .int .i64 0, .int .i64 0, .int .i64 0, .int .i64 0, .int .i64 0, .bool false, .int .i64 0, .int .i64 0, .bool false]
 have t3 := t2.trans ta
 have t4 := t1.trans t3
 have hV := hV.keep t3
 have tt := tt.trans t4
 have hp1 := Lib.hid (hp1.out.keep ta)
 have hm1 := Lib.hid (hm1.out.keep ta)
 clear hpt hmt ta t1 t2 t3 t4
 go_wp2_with fail
 generalize u1.alloc _ = W1 at *
 generalize u1.heap.size = y1 at *
 go_wp2_with fail
 refine (key34_any 3 W1).mono ?_
 rintro _ v2 ⟨rfl, t1⟩
 have hV := hV.keep t1
 go_wp2_with fail
 refine (elimrec_x hV group_hn group_hp groupBks_ok 6 1 3 0 1 0).mono ?_
 rintro _ u2 ⟨q2, rfl, h1, t2⟩
 rw [group_e2] at h1 ⊢
 obtain ⟨pt, mt, rfl, hpt, hmt⟩ := h1
 obtain ⟨P2, c2, rfl, _, _⟩ := hpt.form
 obtain ⟨M2, d2, rfl, _, _⟩ := hmt.form
 have hp2 := Lib.hid hpt
 have hm2 := Lib.hid hmt
 unfold rcpV
 simp only [List.length_nil, List.length_cons, Nat.zero_add, Nat.reduceAdd] at hp2 hm2 ⊢
 have ta := Tch.alloc (fun _ => False) u2 (.cells #[.int .i64 0, .int .i64 0, .slice P2 2 c2, .slice M2 0 d2, .int .i64 0, .int .i64 0, .int .i64 0, .int .i64 0, .int .i64 0, .int .i64 0, .bool false, .int .i64 0, .int .i64 0, .bool false] 46)
 have x2 := Blk.new u2 46 #[.int .i64 0, .int .i64 0, .slice P2 2 c2, .slice M2 0 d2, .int .i64 0, .int .i64 0, .int .i64 0, .int .i64 0, .int .i64 0, .int .i64 0, .bool false, .int .i64 0, .int .i64 0, .bool false]
 have t3 := t2.trans ta
 have t4 := t1.trans t3
 have hV := hV.keep t3
 have tt := tt.trans t4
 have x1 := x1.keep t4 id
 have hp1 := Lib.hid (hp1.out.keep t4)
 have hm1 := Lib.hid (hm1.out.keep t4)
 have hp2 := Lib.hid (hp2.out.keep ta)
 have hm2 := Lib.hid (hm2.out.keep ta)
 clear hpt hmt ta t1 t2 t3 t4
 go_wp2_with fail
 generalize u2.alloc _ = W2 at *
 generalize u2.heap.size = y2 at *
 go_wp2_with fail
 refine (key34_any 4 W2).mono ?_
 rintro _ v3 ⟨rfl, t1⟩
 have hV := hV.keep t1
 go_wp2_with fail
 refine (elimrec_x hV group_hn group_hp groupBks_ok 6 1 4 0 1 0).mono ?_
 rintro _ u3 ⟨q3, rfl, h1, t2⟩
 rw [group_e3] at h1 ⊢
 obtain ⟨pt, mt, rfl, hpt, hmt⟩ := h1
 obtain ⟨P3, c3, rfl, _, _⟩ := hpt.form
 obtain ⟨M3, d3, rfl, _, _⟩ := hmt.form
 have hp3 := Lib.hid hpt
 have hm3 := Lib.hid hmt
 unfold rcpV
 simp only [List.length_nil] at hp3 hm3 ⊢
 have ta := Tch.alloc (fun _ => False) u3 (.cells #[.int .i64 0, .int .i64 0, .slice P3 0 c3, .slice M3 0 d3, .int .i64 0, .int .i64 0, .int .i64 0, .int .i64 0, .int .i64 0, .int .i64 0, .bool false, .int .i64 0, .int .i64 0, .bool false] 46)
 have x3 := Blk.new u3 46 #[.int .i64 0, .int .i64 0, .slice P3 0 c3, .slice M3 0 d3, .int .i64 0, .int .i64 0, .int .i64 0, .int .i64 0, .int .i64 0, .int .i64 0, .bool false, .int .i64 0, .int .i64 0, .bool false]
 have t3 := t2.trans ta
 have t4 := t1.trans t3
 have hV := hV.keep t3
 have tt := tt.trans t4
 have x1 := x1.keep t4 id
 have hp1 := Lib.hid (hp1.out.keep t4)
 have hm1 := Lib.hid (hm1.out.keep t4)
 have x2 := x2.keep t4 id
 have hp2 := Lib.hid (hp2.out.keep t4)
 have hm2 := Lib.hid (hm2.out.keep t4)
 have hp3 := Lib.hid (hp3.out.keep ta)
 have hm3 := Lib.hid (hm3.out.keep ta)
 clear hpt hmt ta t1 t2 t3 t4
 go_wp2_with fail
 generalize u3.alloc _ = W3 at *
 generalize u3.heap.size = y3 at *
 go_wp2_with fail
 refine (elimrec_x hV group_hn group_hp groupBks_ok 7 1 5 0 1 0).mono ?_
 rintro _ u4 ⟨q4, rfl, h1, t2⟩
 rw [group_e4] at h1 ⊢
 obtain ⟨pt, mt, rfl, hpt, hmt⟩ := h1
 obtain ⟨P4, c4, rfl, _, _⟩ := hpt.form
 obtain ⟨M4, d4, rfl, _, _⟩ := hmt.form
 have hp4 := Lib.hid hpt
 have hm4 := Lib.hid hmt
 unfold rcpV
 simp only [List.length_nil] at hp4 hm4 ⊢
 have ta := Tch.alloc (fun _ => False) u4 (.cells #[.int .i64 0, .int .i64 0, .slice P4 0 c4, .slice M4 0 d4, .int .i64 0, .int .i64 0, .int .i64 0, .int .i64 0, .int .i64 0, .int .i64 0, .bool false, .int .i64 0, .int .i64 0, .bool false] 46)
 have x4 := Blk.new u4 46 #[.int .i64 0, .int .i64 0, .slice P4 0 c4, .slice M4 0 d4, .int .i64 0, .int .i64 0, .int .i64 0, .int .i64 0, .int .i64 0, .int .i64 0, .bool false, .int .i64 0, .int .i64 0, .bool false]
 have t3 := t2.trans ta
 have t4 := t3
 have hV := hV.keep t3
 have tt := tt.trans t4
 have x1 := x1.keep t4 id
 have hp1 := Lib.hid (hp1.out.keep t4)
 have hm1 := Lib.hid (hm1.out.keep t4)
 have x2 := x2.keep t4 id
 have hp2 := Lib.hid (hp2.out.keep t4)
 have hm2 := Lib.hid (hm2.out.keep t4)
 have x3 := x3.keep t4 id
 have hp3 := Lib.hid (hp3.out.keep t4)
 have hm3 := Lib.hid (hm3.out.keep t4)
 have hp4 := Lib.hid (hp4.out.keep ta)
 have hm4 := Lib.hid (hm4.out.keep ta)
 clear hpt hmt ta t2 t3 t4
 go_wp2_with fail
 generalize u4.alloc _ = W4 at *
 generalize u4.heap.size = y4 at *
 clear x4 hp4 hm4
 refine (side34_any 2 3 W4).mono ?_
 rintro _ v5 ⟨rfl, t5⟩
 go_wp2_with fail
 refine (side34_any 3 2 v5).mono ?_
 rintro _ v6 ⟨rfl, t6⟩
 have tb := Tch.alloc (fun _ => False) v6 (.cells #[.int .i64 3, .int .i64 2, .int .i64 5, .int .i64 0, .int .i64 1, .int .i64 3, .int .i64 3, .int .i64 3, .int .i64 5, .int .i64 0, .int .i64 1, .int .i64 2] 31)
 have xb := Blk.new v6 31 #[.int .i64 3, .int .i64 2, .int .i64 5, .int .i64 0, .int .i64 1, .int .i64 3, .int .i64 3, .int .i64 3, .int .i64 5, .int .i64 0, .int .i64 1, .int .i64 2]
 have t7 := (t5.trans t6).trans tb
 have hV := hV.keep t7
 have tt := tt.trans t7
 have x1 := x1.keep t7 id
 have hp1 := Lib.hid (hp1.out.keep t7)
 have hm1 := Lib.hid (hm1.out.keep t7)
 have x2 := x2.keep t7 id
 have hp2 := Lib.hid (hp2.out.keep t7)
 have hm2 := Lib.hid (hm2.out.keep t7)
 have x3 := x3.keep t7 id
 have hp3 := Lib.hid (hp3.out.keep t7)
 have hm3 := Lib.hid (hm3.out.keep t7)
 clear t5 t6 tb t7
 have hrow : RowsOf int6 6 (fun _ => True) (v6.alloc (.cells #[.int .i64 3, .int .i64 2, .int .i64 5, .int .i64 0, .int .i64 1, .int .i64 3, .int .i64 3, .int .i64 3, .int .i64 5, .int .i64 0, .int .i64 1, .int .i64 2] 31)) (.slice (some ⟨v6.heap.size, 0, none⟩) 2 2) [(3, 2, 5, 0, 1, 3), (3, 3, 5, 0, 1, 2)] := Row.blk xb trivial rfl (by decide)
 have HROW := Lib.hid (fun w' (t9 : Tch (fun _ => False) _ w') => hrow.keep t9)
 have HS1 := Lib.hid (refsame_any hm1.out hrow)
 (try simp only [List.length_nil, List.length_cons, Nat.zero_add, Nat.reduceAdd] at HS1)
 have m1 : (v6.alloc (.cells #[.int .i64 3, .int .i64 2, .int .i64 5, .int .i64 0, .int .i64 1, .int .i64 3, .int .i64 3, .int .i64 3, .int .i64 5, .int .i64 0, .int .i64 1, .int .i64 2] 31)).cell? ⟨y1, 3, none⟩ = some (.slice M1 2 d1) := x1.cell 3
 clear hrow xb
 go_wp2_with fail
 generalize v6.alloc _ = W7 at *
 generalize v6.heap.size = y7 at *
 refine HS1.out.mono ?_
 rintro _ w8 ⟨rfl, t8⟩
 have hV := hV.keep t8
 have tt8 := tt.trans t8
 have x1 := x1.keep t8 id
 have hp1 := Lib.hid (hp1.out.keep t8)
 have hm1 := Lib.hid (hm1.out.keep t8)
 have x2 := x2.keep t8 id
 have hp2 := Lib.hid (hp2.out.keep t8)
 have hm2 := Lib.hid (hm2.out.keep t8)
 have x3 := x3.keep t8 id
 have hp3 := Lib.hid (hp3.out.keep t8)
 have hm3 := Lib.hid (hm3.out.keep t8)
 have HS2 := Lib.hid (refsame_any hp2.out (HROW.out _ t8))
 (try simp only [List.length_nil, List.length_cons, Nat.zero_add, Nat.reduceAdd] at HS2)
 have m2 : w8.cell? ⟨y1, 2, none⟩ = some (.slice P1 0 c1) := x1.cell 2
 have m3 : w8.cell? ⟨y2, 2, none⟩ = some (.slice P2 2 c2) := x2.cell 2
 clear HS1 m1 HROW
 go_wp2_with fail
 refine HS2.out.mono ?_
 rintro _ w9 ⟨rfl, t9⟩
 have hV := hV.keep t9
 have tt9 := tt8.trans t9
 have x1 := x1.keep t9 id
 have hp1 := Lib.hid (hp1.out.keep t9)
 have hm1 := Lib.hid (hm1.out.keep t9)
 have x2 := x2.keep t9 id
 have hp2 := Lib.hid (hp2.out.keep t9)
 have hm2 := Lib.hid (hm2.out.keep t9)
 have x3 := x3.keep t9 id
 have hp3 := Lib.hid (hp3.out.keep t9)
 have hm3 := Lib.hid (hm3.out.keep t9)
 have n0 : w9.cell? ⟨y3, 0, none⟩ = some (.int .i64 0) := x3.cell 0
 have n1 : w9.cell? ⟨y3, 1, none⟩ = some (.int .i64 0) := x3.cell 1
 have n2 : w9.cell? ⟨y3, 2, none⟩ = some (.slice P3 0 c3) := x3.cell 2
 have n3 : w9.cell? ⟨y3, 3, none⟩ = some (.slice M3 0 d3) := x3.cell 3
 have n4 : w9.cell? ⟨y3, 4, none⟩ = some (.int .i64 0) := x3.cell 4
 have n5 : w9.cell? ⟨y3, 5, none⟩ = some (.int .i64 0) := x3.cell 5
 have n6 : w9.cell? ⟨y3, 6, none⟩ = some (.int .i64 0) := x3.cell 6
 have n7 : w9.cell? ⟨y3, 7, none⟩ = some (.int .i64 0) := x3.cell 7
 have n8 : w9.cell? ⟨y3, 8, none⟩ = some (.int .i64 0) := x3.cell 8
 have n9 : w9.cell? ⟨y3, 9, none⟩ = some (.int .i64 0) := x3.cell 9
 have n10 : w9.cell? ⟨y3, 10, none⟩ = some (.bool false) := x3.cell 10
 have n11 : w9.cell? ⟨y3, 11, none⟩ = some (.int .i64 0) := x3.cell 11
 have n12 : w9.cell? ⟨y3, 12, none⟩ = some (.int .i64 0) := x3.cell 12
 have n13 : w9.cell? ⟨y3, 13, none⟩ = some (.bool false) := x3.cell 13
 have m4 : w9.cell? ⟨y2, 3, none⟩ = some (.slice M2 0 d2) := x2.cell 3
 have HRI := Lib.hid (reads_any (r := ⟨(0, 0), [], [], (0, 0, 0, 0, 0, 0), false, (0, 0), false⟩) (show RcpIs w9 (.agg #[.int .i64 0, .int .i64 0, .slice P3 0 c3, .slice M3 0 d3, .int .i64 0, .int .i64 0, .int .i64 0, .int .i64 0, .int .i64 0, .int .i64 0, .bool false, .int .i64 0, .int .i64 0, .bool false]) ⟨(0, 0), [], [], (0, 0, 0, 0, 0, 0), false, (0, 0), false⟩ from ⟨_, _, rfl, hp3.out, hm3.out⟩) (by decide))
 have hre : readsOf ⟨(0, 0), [], [], (0, 0, 0, 0, 0, 0), false, (0, 0), false⟩ = [] := by decide
 rw [hre] at HRI
 clear HS2 m2 m3 x1 x2 x3 hp1 hp2 hp3 hm1 hm2 hm3 t8 t9 hre
 go_wp2_with fail
 refine HRI.out.mono ?_
 rintro _ w10 ⟨u, rfl, hrow, t10⟩
 have hV := hV.keep t10
 have tt10 := tt9.trans t10
 obtain ⟨U, cu, rfl, _, _⟩ := hrow.form
 (try simp only [List.length_nil])
 clear HRI hrow m4 n0 n1 n2 n3 n4 n5 n6 n7 n8 n9 n10 n11 n12 n13 tt tt8 tt9 t10
 go_wp2_with fail
 refine (key34_any 5 w10).mono ?_
 rintro _ ka1 ⟨rfl, tk⟩
 have hV := hV.keep tk
 have ttk1 := tt10.trans tk
 have HVL := Lib.hid (value34_any hV group_hn group_less groupBks_ok 6 1 5 0 1 0 (fun w' t9 s1 s2 s3 s4 s5 s6 _ =>
  value32_any group_hn (by decide) group_hp group_h64 20 w' 20 (by decide) (hV.keep t9) (HTA.out w' (ttk1.trans t9)) s1 s2 s3 s4 s5 s6))
 rw [group_v1] at HVL
 unfold vlV at HVL
 (try simp only at HVL)
 clear tk
 go_wp2_with fail
 refine HVL.out.mono ?_
 rintro _ kb1 ⟨rfl, tk⟩
 have hV := hV.keep tk
 have ttl1 := ttk1.trans tk
 have hcmp1 : ∀ w' : World, (binOp .eql 39 (.agg #[.int .i64 (-2), .int .i64 0]) (.agg #[.int .i64 (-2), .int .i64 0])).run Tryz.prog w' = .ok (.bool true) w' := fun w' => by rw [run_eq_Val]; simp
 clear tk HVL ttk1
 go_wp2_with fail
 refine (key34_any 3 kb1).mono ?_
 rintro _ ka2 ⟨rfl, tk⟩
 have hV := hV.keep tk
 have ttk2 := ttl1.trans tk
 have HVL := Lib.hid (value34_any hV group_hn group_less groupBks_ok 6 1 3 0 1 0 (fun w' t9 s1 s2 s3 s4 s5 s6 _ =>
  value32_any group_hn (by decide) group_hp group_h64 20 w' 20 (by decide) (hV.keep t9) (HTA.out w' (ttk2.trans t9)) s1 s2 s3 s4 s5 s6))
 rw [group_v2] at HVL
 unfold vlV at HVL
 (try simp only at HVL)
 clear tk
 go_wp2_with fail
 refine HVL.out.mono ?_
 rintro _ kb2 ⟨rfl, tk⟩
 have hV := hV.keep tk
 have ttl2 := ttk2.trans tk
 have hcmp2 : ∀ w' : World, (binOp .eql 39 (.agg #[.int .i64 (2), .int .i64 0]) (.agg #[.int .i64 (2), .int .i64 0])).run Tryz.prog w' = .ok (.bool true) w' := fun w' => by rw [run_eq_Val]; simp
 clear tk HVL ttk2
 clear hV
 go_wp2
 go_ret
 exact ⟨rfl, ttl2⟩
open Go.RowKit Go.Gk Go.Gk.V32 Go.Gk.V33
set_option maxRecDepth 100000 in
set_option maxHeartbeats 25600000 in
theorem elimsums_any {w : World} {e a s r l n : Value} {b : Bks} {us : List (Ent × Value)} (h : BksAt w e a s r l n b us) (h64 : Bks64 b) (hT : Tab64 1 w) (c1 c2 c3 c4 c5 c6 : Int) :
 Calls Tryz.prog 4 #[.agg #[e, a, s, r, l, n], .agg #[.int .i64 c1, .int .i64 c2, .int .i64 c3, .int .i64 c4, .int .i64 c5, .int .i64 c6]] w fun x w' => x = .returned (.bool true) ∧ Tch (fun _ => False) w w' := by
 have HTA := Lib.hid (fun w' (t9 : Tch (fun _ => False) w w') => hT.keep t9)
 clear hT
 have ta := Tch.alloc (fun _ => False) w (.cells #[e, a, s, r, l, n] 29)
 have tb := Tch.alloc (fun _ => False) (w.alloc (.cells #[e, a, s, r, l, n] 29)) (.cells #[.int .i64 c1, .int .i64 c2, .int .i64 c3, .int .i64 c4, .int .i64 c5, .int .i64 c6] 31)
 have tw := ta.trans tb
 have hbB := (Blk.new w 29 #[e, a, s, r, l, n]).keep tb id
 have hbC := Blk.new2 w (.cells #[e, a, s, r, l, n] 29) 31 #[.int .i64 c1, .int .i64 c2, .int .i64 c3, .int .i64 c4, .int .i64 c5, .int .i64 c6]
 have HF := Lib.hid (few26_any (h.keep tw))
 have HW := Lib.hid (h.keep tw)
 have hsz : ((w.alloc (.cells #[e, a, s, r, l, n] 29)).alloc (.cells #[.int .i64 c1, .int .i64 c2, .int .i64 c3, .int .i64 c4, .int .i64 c5, .int .i64 c6] 31)).heap.size = w.heap.size + 2 := by simp
 obtain ⟨Ae, ce, rfl, _, _⟩ := h.ents.form
 obtain ⟨Aa, ca, rfl, _, _⟩ := h.accs.form
 obtain ⟨As, cs, rfl, _, _⟩ := h.stakes.form
 obtain ⟨Ar, cr, rfl, _, _⟩ := h.rates.form
 obtain ⟨Al, cl, rfl, _, _⟩ := h.locks.form
 obtain ⟨An, cn, rfl, _, _⟩ := h.ent.row.form
 clear ta tb h
 obtain ⟨fw, hfw⟩ : ∃ fw, few26 b = fw := ⟨_, rfl⟩
 rw [hfw] at HF
 go_enter Tryz.func4, Tryz.ntmps4
 go_wp2_with fail
 generalize (w.alloc (.cells #[.slice Ae b.ents.length ce, .slice Aa b.accs.length ca, .slice As b.stakes.length cs, .slice Ar b.rates.length cr, .slice Al b.locks.length cl, .slice An us.length cn] 29)).alloc (.cells #[.int .i64 c1, .int .i64 c2, .int .i64 c3, .int .i64 c4, .int .i64 c5, .int .i64 c6] 31) = W at *
 generalize hzw : w.heap.size = z at *
 have HZW := Lib.hid hzw
 clear hzw
 refine HF.out.mono ?_
 rintro _ w1 ⟨rfl, t1⟩
 clear HF
 have tt1 := tw.trans t1
 have hx1 := hbC.keep t1 id
 have w3c : w1.cell? ⟨z + 1, 3, none⟩ = some (.int .i64 c4) := hx1.cell 3
 cases fw
 ·clear hfw w3c
  go_wp2_with fail
  refine (awake34_tab w1 (HTA.out w1 tt1)).mono ?_
  rintro _ w2 ⟨rfl, t2⟩
  go_wp2
  go_ret
  exact ⟨rfl, tt1.trans t2⟩
 by_cases h5 : c4 > 5
 ·have h5' : (5 : Int) < c4 := h5
  clear hfw
  go_wp2_with fail
  refine (awake34_tab _ (HTA.out _ tt1)).mono ?_
  rintro _ wz ⟨rfl, tz⟩
  go_wp2
  go_ret
  exact ⟨rfl, tt1.trans tz⟩
 have h5' : ¬ (5 : Int) < c4 := h5
 have hfew := few26_few hfw
 have hB1 := hbB.keep t1 id
 have hC1 := hbC.keep t1 id
 have h1 := HW.out.keep t1
 have hk1 : z + 2 ≤ w1.heap.size := by have := t1.size; omega
 clear hbB hbC HW tw t1 hfw hsz hx1
 have g0 : w1.cell? ⟨z, 0, none⟩ = some (.slice Ae b.ents.length ce) := hB1.cell 0
 have g1 : w1.cell? ⟨z, 1, none⟩ = some (.slice Aa b.accs.length ca) := hB1.cell 1
 have g2 : w1.cell? ⟨z, 2, none⟩ = some (.slice As b.stakes.length cs) := hB1.cell 2
 have g3 : w1.cell? ⟨z, 3, none⟩ = some (.slice Ar b.rates.length cr) := hB1.cell 3
 have g4 : w1.cell? ⟨z, 4, none⟩ = some (.slice Al b.locks.length cl) := hB1.cell 4
 have g5 : w1.cell? ⟨z, 5, none⟩ = some (.slice An us.length cn) := hB1.cell 5
 go_wp2_with fail
 refine (see_far h1 hfew h64).mono ?_
 rintro _ w2 ⟨hsee, t2⟩
 have tt2 := tt1.trans t2
 rcases hsee with ⟨_, m, rfl, hm⟩ | ⟨hok, bv, bi, B, t, mr, mp, e', a', s', r', l', n', lv, fs, us', rfl, hV, hFar⟩
 ·have hm2 : (m != 0) = true := by simpa using hm
  clear g0 g1 g2 g3 g4 g5 hm
  go_wp2_with fail
  refine (awake34_tab w2 (HTA.out w2 tt2)).mono ?_
  rintro _ w3 ⟨rfl, t3⟩
  go_wp2
  go_ret
  exact ⟨rfl, tt2.trans t3⟩
 have hk5 : z + 2 ≤ w2.heap.size := Nat.le_trans hk1 t2.size
 have hC2 := hC1.keep t2 id
 clear g0 g1 g2 g3 g4 g5 hB1 hC1 h1 tt1 t2 h5 h5' w3c
 have hn := leaves_few hfew
 have hpo := posts_few hfew
 have hqo := posts_64 h64
 have hrl : b.rates.length ≤ 1000000 := by have := hfew.rates; omega
 have hpl := posts_less hfew
 have HOK := Lib.hid hok
 clear hfew h64 hok
 go_wp2_with (refine wpList_store_cell rfl _ _ _ rfl (z + 1) 0 (.int .i64 6) (by rfl) (by rfl) rfl (by rfl) hC2 (by simp) ?_; refine Hid.out ?_)
 refine Lib.hid ?_
 intro wa hCa tsa
 (try simp only [List.setIfInBounds_toArray, List.set_cons_succ, List.set_cons_zero] at hCa)
 go_wp2_with (refine wpList_store_cell rfl _ _ _ rfl (z + 1) 5 (.int .i64 0) (by rfl) (by rfl) rfl (by rfl) hCa (by simp) ?_; refine Hid.out ?_)
 refine Lib.hid ?_
 intro wb hCb tsb
 (try simp only [List.setIfInBounds_toArray, List.set_cons_succ, List.set_cons_zero] at hCb)
 go_wp2_with (refine wpList_store_cell rfl _ _ _ rfl (z + 1) 2 (.int .i64 1) (by rfl) (by rfl) rfl (by rfl) hCb (by simp) ?_; refine Hid.out ?_)
 refine Lib.hid ?_
 intro w5 hC5 tsc
 (try simp only [List.setIfInBounds_toArray, List.set_cons_succ, List.set_cons_zero] at hC5)
 have tS := (tsa.trans tsb).trans tsc
 have hz5 : z + 2 ≤ w5.heap.size := by have := tS.size; omega
 have tt5 := tt2.trans' tS (fun i hi => .inr (by have hi : i = z + 1 := hi; have := HZW.out; omega))
 obtain ⟨us5, hV5⟩ := hFar.view hV tS (fun g hg => by have hg : g = z + 1 := hg; omega)
 clear hC2 hCa hCb tsa tsb tsc tt2
 have HMY := Lib.hid (vwmay_any hV5 (elC c2 c4 c5 1))
 unfold elC cellV at HMY
 simp only at HMY
 have HIN := Lib.hid (show ∀ m, cellIn (6, c2, 1, c4, c5, 0) b.ents.length b.accs.length = m → cellIn (elC c2 c4 c5 1) b.ents.length b.accs.length = m from fun _ h => h)
 generalize hci : cellIn (6, c2, 1, c4, c5, 0) b.ents.length b.accs.length = ci at *
 have HCI := Lib.hid (HIN.out ci rfl)
 have k0 : w5.cell? ⟨z + 1, 0, none⟩ = some (.int .i64 6) := hC5.cell 0
 have k1 : w5.cell? ⟨z + 1, 1, none⟩ = some (.int .i64 c2) := hC5.cell 1
 have k2 : w5.cell? ⟨z + 1, 2, none⟩ = some (.int .i64 1) := hC5.cell 2
 have k3 : w5.cell? ⟨z + 1, 3, none⟩ = some (.int .i64 c4) := hC5.cell 3
 have k4 : w5.cell? ⟨z + 1, 4, none⟩ = some (.int .i64 c5) := hC5.cell 4
 have k5 : w5.cell? ⟨z + 1, 5, none⟩ = some (.int .i64 0) := hC5.cell 5
 clear hci HIN
 go_wp2_with fail
 refine HMY.out.mono ?_
 rintro _ w4 ⟨rfl, t4⟩
 have hC4 := hC5.keep t4 id
 have tt4 := tt5.trans t4
 have tS4 := tS.trans (t4.mono fun i _ h => h.elim)
 have hV4 := hV5.keep t4
 clear HMY k0 k1 k2 k3 k4 k5 hC5 tt5 tS t4 hV5
 by_cases hc0 : ci = 0
 rotate_left
 ·have hcb : (ci != 0) = true := by simpa using hc0
  clear hc0 hC4 hV4
  go_wp2_with fail
  refine (awake34_tab w4 (HTA.out w4 tt4)).mono ?_
  rintro _ wz ⟨rfl, tz⟩
  go_wp2
  (try rw [Exit.noGoto_ret])
  go_ret
  exact ⟨rfl, tt4.trans tz⟩
 subst hc0
 have tB := Tch.alloc (fun _ => False) w4 (.cells #[.bool false, .slice none 0 0] 58)
 have bS := Blk.new w4 58 #[.bool false, .slice none 0 0]
 have HLV := Lib.hid (vwleaves_any (hV4.keep tB) hn)
 have HYW := Lib.hid tt4.size
 have HYS := Lib.hid bS.lt
 have HY2 := Lib.hid tS4.size
 have hC6 := hC4.keep tB id
 have tt6 := tt4.trans tB
 have tS6 := tS4.trans (tB.mono fun i _ h => h.elim)
 have hzz : z + 2 ≤ w4.heap.size := by have := hC4.lt; omega
 clear hC4 tt4 hV4 tB tS4
 go_wp2_with fail
 generalize w4.alloc _ = W4 at *
 generalize hyy : w4.heap.size = y at *
 have HYY := Lib.hid hyy
 clear hyy
 refine HLV.out.mono ?_
 rintro _ w7 ⟨u, rfl, hO⟩
 have hC7 := hC6.keep hO.tch id
 have tt7 := tt6.trans hO.tch
 have tS7 := tS6.trans (hO.tch.mono fun i _ h => h.elim)
 have bS7 := bS.keep hO.tch id
 have HSM := Lib.hid (elim_sum (b := b) (e := c2) (p := c4) (u := c5) HOK.out HCI.out)
 have HFI := Lib.hid (fun a (ha : a ∈ accLeaves b.accs) => elim_fine (b := b) (e := c2) (p := c4) (u := c5) HOK.out HCI.out (by omega) (leaves_iff.1 ha))
 have hlen : (accLeaves b.accs).length ≤ 1000 := hn
 have HVA := Lib.hid (fun w' us' (hV' : Vw w' bv bi B t mr mp e' a' s' r' l' n' lv fs b us') (ht9 : Tch (fun _ => False) w w') a => value34_any hV' hn hpl HOK.out 6 c2 a c4 c5 0 (fun w'' t'' s1 s2 s3 s4 s5 s6 _ => value32_any hn hrl hpo hqo 20 w'' 20 (by omega) (hV'.keep t'') (HTA.out w'' (ht9.trans t'')) s1 s2 s3 s4 s5 s6))
 obtain ⟨Vf, hVf⟩ : ∃ Vf : Int → Vl, (fun a => valE b (elC c2 c4 c5 a)) = Vf := ⟨_, rfl⟩
 have HVE : ∀ a, valE b (elC c2 c4 c5 a) = Vf a := fun a => by rw [← hVf]
 have HV64 := Lib.hid (fun a => show Vl64 (Vf a) by rw [← HVE a]; exact elim_64 b _)
 have HVA2 := Lib.hid (fun w' us' (hV' : Vw w' bv bi B t mr mp e' a' s' r' l' n' lv fs b us') (ht9 : Tch (fun _ => False) w w') a => show Calls Tryz.prog 15 #[.pointer (some ⟨bv, 0, none⟩), .agg #[.int .i64 6, .int .i64 c2, .int .i64 a, .int .i64 c4, .int .i64 c5, .int .i64 0]] w' (fun y w'' => y = .returned (vlV (Vf a)) ∧ Tch (fun _ => False) w' w'') by rw [← HVE a]; exact HVA.out w' us' hV' ht9 a)
 simp only [HVE] at HSM HFI
 clear HLV hC6 tt6 bS hVf HVE HVA hn hrl hpo hqo hpl HOK HCI tS6
 generalize accLeaves b.accs = L at *
 have HROW := Lib.hid (fun wr (ht : Tch (fun g => g = z + 1 ∨ g = y) w7 wr) => Row.keepTo (P' := fun _ => True) (Row.own hO.own (P := fun g => W4.heap.size ≤ g) (fun g hg => (hO.own.lt g hg).1)) ht (fun g _ hg => ⟨fun e => by have e : g = z + 1 ∨ g = y := e; have hg : W4.heap.size ≤ g := hg; have := HYS.out; have := HYY.out; omega, trivial⟩))
 obtain ⟨U, cu, rfl, hu1, hu2⟩ := hO.form
 have hys : y < W4.heap.size := HYS.out
 have hys5 := hO.tch.size
 have hln : (L.length : Int) ≤ 1000 := by omega
 have hyz : z + 2 ≤ y := by have := HYY.out; omega
 clear hO
 go_wp2_with fail
 go_loopw [9] (fun i wr => ∃ (j : Nat) (S c3 : Int), j ≤ L.length ∧ i = .int .i64 j ∧ (∀ a ∈ L.take j, (Vf a).2 = 0) ∧ S = ((L.take j).map fun a => (Vf a).1).sum ∧ S.natAbs ≤ j * 9223372036854775808 ∧ SumAt2 58 (z + 1) y wr S ∧ Blk wr (z + 1) 31 #[.int .i64 6, .int .i64 c2, .int .i64 c3, .int .i64 c4, .int .i64 c5, .int .i64 0] ∧ Tch (fun g => g = z + 1 ∨ g = y) w7 wr) (fun i _ => L.length - (intOf i).toNat)
 case atStart => exact ⟨0, 0, 1, Nat.zero_le _, rfl, (fun a ha => by rw [List.take_zero] at ha; cases ha), rfl, by simp, SumAt2.zero bS7, hC7, Tch.refl _ _⟩
 case round =>
  obtain ⟨j, S, c3, hj, rfl, hz, hS, hSb, hSM, hC, ht⟩ := hrel
  obtain ⟨sg, D, nd, cd, hb, hbig⟩ := hSM
  have HZ := Lib.hid hz
  have HS := Lib.hid hS
  have HSB := Lib.hid hSb
  have hj0 : (0 : Int) ≤ (j : Int) := Int.natCast_nonneg _
  have Tr := tt7.trans' ht (fun i hi => .inr (by have hi : i = z + 1 ∨ i = y := hi; have h8 := HYW.out; have h9 := HYY.out; have := HZW.out; omega))
  have t2r := tS7.trans' ht (fun i hi => by have hi : i = z + 1 ∨ i = y := hi; have h8 := HY2.out; have h9 := HYY.out; rcases hi with h | h; exact .inl h; exact .inr (by omega))
  clear hz hS hSb
  by_cases hlt : j < L.length
  ·have hlt' : (j : Int) < (L.length : Int) := by omega
   have hl9 := HROW.out wr ht
   obtain ⟨g, o9, rfl⟩ := hl9.head (by omega)
   have q0 := Row.one hl9 int1_len hlt rfl
   have HTK := Lib.hid (show L.take (j + 1) = L.take j ++ [L[j]] from List.take_succ_eq_append_getElem hlt)
   have HME := Lib.hid (show L[j] ∈ L from List.getElem_mem _)
   generalize L[j] = x at *
   have HFX := Lib.hid (HFI.out x HME.out)
   have H64 := Lib.hid (HV64.out x)
   clear hl9
   go_wp2_with (refine wpList_store_cell rfl _ _ _ rfl (z + 1) 2 (.int .i64 x) (by rfl) (by rfl) rfl (by rfl) hC (by simp) ?_; refine Hid.out ?_)
   refine Lib.hid ?_
   intro ws hCs tss
   (try simp only [List.setIfInBounds_toArray, List.set_cons_succ, List.set_cons_zero] at hCs)
   have hbs := hb.keep tss (by omega)
   have HBS := Lib.hid (hbig.beside tss (fun g hg => hg.1))
   have htS := ht.trans (tss.mono fun i _ h => .inl h)
   have tts := Tr.trans' tss (fun i hi => .inr (by have hi : i = z + 1 := hi; have := HZW.out; omega))
   have t2s := t2r.trans tss
   obtain ⟨usS, hVS⟩ := hFar.view hV t2s (fun g hg => by have hg : g = z + 1 := hg; omega)
   have HVX := Lib.hid (HVA2.out ws usS hVS tts x)
   generalize hvx : Vf x = vx at *
   have HEX := Lib.hid hvx
   obtain ⟨v1, v2⟩ := vx
   unfold vlV at HVX
   simp only at HVX
   have k0 : ws.cell? ⟨z + 1, 0, none⟩ = some (.int .i64 6) := hCs.cell 0
   have k1 : ws.cell? ⟨z + 1, 1, none⟩ = some (.int .i64 c2) := hCs.cell 1
   have k2 : ws.cell? ⟨z + 1, 2, none⟩ = some (.int .i64 x) := hCs.cell 2
   have k3 : ws.cell? ⟨z + 1, 3, none⟩ = some (.int .i64 c4) := hCs.cell 3
   have k4 : ws.cell? ⟨z + 1, 4, none⟩ = some (.int .i64 c5) := hCs.cell 4
   have k5 : ws.cell? ⟨z + 1, 5, none⟩ = some (.int .i64 0) := hCs.cell 5
   clear hvx hb hbig hC ht Tr t2r tss q0 hVS
   go_wp2_with fail
   refine HVX.out.mono ?_
   rintro _ wc ⟨rfl, tc⟩
   have tD := Tch.alloc (fun _ => False) wc (.cells #[.int .i64 v1, .int .i64 v2] 39)
   have hG := Blk.new wc 39 #[.int .i64 v1, .int .i64 v2]
   have tcD := tc.trans tD
   have hb7 := hbs.keep tcD id
   have HBD := Lib.hid (HBS.out.beside tcD (fun _ _ h => h.elim))
   have hC7' := hCs.keep tcD id
   have ht7 := htS.trans (Exn.touch tcD)
   have Tr7 := tts.trans tcD
   have hyg : y < wc.heap.size := by have := hbs.lt; have := tc.size; omega
   clear HVX HBS hbs hCs htS tts t2s tc tD k0 k1 k2 k3 k4 k5
   have g0 : (wc.alloc (.cells #[.int .i64 v1, .int .i64 v2] 39)).cell? ⟨wc.heap.size, 0, none⟩ = some (.int .i64 v1) := hG.cell 0
   have g1 : (wc.alloc (.cells #[.int .i64 v1, .int .i64 v2] 39)).cell? ⟨wc.heap.size, 1, none⟩ = some (.int .i64 v2) := hG.cell 1
   have hfx := HFX.out
   clear hG tcD
   by_cases hv2 : v2 = 0
   rotate_left
   ·have hv2b : (v2 != 0) = true := by simpa using hv2
    unfold fine at hfx
    simp only at hfx
    have h1040 : v2 = 10 ∨ v2 = 40 := by omega
    clear hfx hv2 HBD hb7 ht7 hC7'
    rcases h1040 with rfl | rfl
    ·go_wp2_with fail
     refine (awake34_tab _ (HTA.out _ Tr7)).mono ?_
     rintro _ wz ⟨rfl, tz⟩
     go_wp2
     (try rw [Exit.noGoto_ret])
     go_ret
     exact ⟨rfl, Tr7.trans tz⟩
    ·go_wp2_with fail
     refine (awake34_tab _ (HTA.out _ Tr7)).mono ?_
     rintro _ wz ⟨rfl, tz⟩
     go_wp2
     (try rw [Exit.noGoto_ret])
     go_ret
     exact ⟨rfl, Tr7.trans tz⟩
   subst hv2
   have h64 : -9223372036854775808 ≤ v1 ∧ v1 ≤ 9223372036854775807 := H64.out
   have HO1 := Lib.hid (fun wa (h9 : (wc.alloc (.cells #[.int .i64 v1, .int .i64 0] 39)).heap.size ≤ wa.heap.size) => of_any (B := fun g => g ≠ z + 1 ∧ g ≠ y) (w := wa) (x := v1) h64.1 h64.2 (fun g hg => by have h8 := hb7.lt; have h7 := hC7'.lt; omega))
   have y0 : (wc.alloc (.cells #[.int .i64 v1, .int .i64 0] 39)).cell? ⟨y, 0, none⟩ = some (.bool sg) := hb7.cell 0
   have y1 : (wc.alloc (.cells #[.int .i64 v1, .int .i64 0] 39)).cell? ⟨y, 1, none⟩ = some (.slice D nd cd) := hb7.cell 1
   have X0 := within_cell (F := fun _ => False) y0 id
   have X1 := within_cell (F := fun _ => False) y1 id
   have X2 := within_cell (F := fun _ => False) g0 id
   have HFS := Lib.hid (show (dg S.natAbs).length ≤ 50000 from dg_fits (Nat.le_trans HSB.out (Nat.mul_le_mul_right _ (by omega))))
   have HFV := Lib.hid (show (dg v1.natAbs).length ≤ 50000 from dg_fits (by have h1 := h64.1; have h2 := h64.2; omega))
   have HNB := Lib.hid (show (S + v1).natAbs ≤ (j + 1) * 9223372036854775808 by have h1 := h64.1; have h2 := h64.2; have := HSB.out; omega)
   have hyd := hb7.lt
   have hzd := hC7'.lt
   clear hfx h64
   go_wp2_with fail
   generalize wc.alloc _ = wd at *
   generalize wc.heap.size = gq at *
   refine wp_region_touch (fun _ => False) [] 4 [(3, .inr fun u w' => BigIs (fun g => g ≠ z + 1 ∧ g ≠ y) w' u v1)] [] (by kernel_rfl) rfl (by kernel_rfl) rfl (fun d _ _ _ _ h => by cases d <;> exact h) ?_ ?_
   ·exact ⟨fun u a b hr h => h.beside hr (fun _ _ h => h.elim), trivial⟩
   (intro bef ops hbef hops; clear hbef; subst hops; simp only [List.take_succ_cons, List.take_zero, List.drop_succ_cons, List.drop_zero])
   iterate 3 (refine t_det (by rfl) (by rfl) (by rfl) (by rfl) (fun K hK => ?_); go_big_quiet_op; (first | refine hK _ ?_ | refine ⟨_, fun _ => rfl, hK _ ?_⟩); clear hK K; (try simp only [Act.put, List.setIfInBounds_toArray, List.set_cons_succ, List.set_cons_zero]))
   refine t_loose (by rfl) (by rfl) (fun wa hr hf => ?_) (fun dv => ?_)
   ·have hs9 := ((Tch.drew (fun _ => False) wd).trans hr).size
    refine yields_of_wp (d := 73) rfl (by simp) (fun K hK => ?_)
    go_step
    refine (HO1.out wa hs9).mono ?_
    rintro _ wb ⟨v', rfl, ho, tb⟩
    exact hK _ _ ⟨⟨ho, tb⟩, newAt_no⟩
   simp only [Act.put, List.setIfInBounds_toArray, List.set_cons_succ, List.set_cons_zero]
   refine t_nil ?_
   intro we hr hp hap
   have hdv := hp (3, fun w' => BigIs (fun g => g ≠ z + 1 ∧ g ≠ y) w' dv v1) (List.mem_cons_self ..)
   simp only at hdv
   have te := (Tch.drew _ wd).trans hr
   have HPL := Lib.hid (plus_any (HBD.out.beside te (fun _ _ h => h.elim)) hdv HFS.out HFV.out (fun g hg => by have := te.size; omega))
   have hb8 := hb7.keep te id
   have hC8 := hC7'.keep te id
   have ht8 := ht7.trans (Exn.touch te)
   clear hap hp hr X0 X1 X2 y0 y1 hdv HO1 HBD hb7 ht7 Tr7 te g0 g1 hC7'
   go_wp2_with fail
   refine HPL.out.mono ?_
   rintro _ wf ⟨v', rfl, hsum, tf⟩
   obtain ⟨sg2, D2, n2, cd2, rfl⟩ := hsum.form2
   have hb9 := hb8.keep tf id
   have hC9 := hC8.keep tf id
   have ht9 := ht8.trans (Exn.touch tf)
   have HSU := Lib.hid hsum
   clear HPL hb8 ht8 tf hsum hC8
   go_wp2_with (refine wpList_store_blk rfl _ _ _ rfl y #[.bool sg2, .slice D2 n2 cd2] (by rfl) (by rfl) hb9 (by kernel_rfl) rfl (by simp [Value.oneCell']) ?_; refine Hid.out ?_)
   refine Lib.hid ?_
   intro wg hbF tF
   have HSA := Lib.hid (show SumAt2 58 (z + 1) y wg (S + v1) from ⟨sg2, D2, n2, cd2, hbF, HSU.out.beside tF (fun _ hg => hg.2)⟩)
   have hCF := hC9.keep tF (by omega)
   have htF := ht9.trans (tF.mono fun i _ h => .inr h)
   clear hb9 ht9 hbF tF hC9
   have HZN := Lib.hid (show ∀ a ∈ L.take (j + 1), (Vf a).2 = 0 by
    rw [HTK.out]
    intro a ha
    rcases List.mem_append.1 ha with h | h
    ·exact HZ.out a h
    ·obtain rfl := List.mem_singleton.1 h
     rw [HEX.out])
   have HSN := Lib.hid (show S + v1 = ((L.take (j + 1)).map fun a => (Vf a).1).sum by
    rw [HTK.out, List.map_append, List.sum_append, ← HS.out]
    simp [HEX.out])
   go_wp2
   go_roundw
   case rel => exact ⟨j + 1, S + v1, x, by omega, by go_num, HZN.out, HSN.out, HNB.out, HSA.out, hCF, htF⟩
   case measure => simp [intOf] <;> omega
  ·obtain rfl : j = L.length := by omega
   have hlt' : ¬ (L.length : Int) < (L.length : Int) := by omega
   have hz := HZ.out
   have hs := HS.out
   rw [List.take_length] at hz hs
   have hs0 := HSM.out hz
   rw [hs0] at hs
   subst hs
   obtain ⟨dv, hdv, hd⟩ := hbig
   obtain ⟨A0, c0, rfl, _, _⟩ := hd.form
   injection hdv with hdv
   have hd2 : sg = false ∧ D = A0 ∧ nd = (dg (0 : Int).natAbs).length ∧ cd = c0 := by simpa using (show #[Value.bool sg, .slice D nd cd] = #[.bool _, .slice A0 _ c0] from hdv)
   have hn0 : nd = 0 := by rw [hd2.2.2.1]; simp [dg_zero]
   subst hn0
   have y1 : wr.cell? ⟨y, 1, none⟩ = some (.slice D 0 cd) := hb.cell 1
   clear hz hs0 hdv hd2 hd hC hb t2r
   go_wp2_with fail
   refine (awake34_tab wr (HTA.out wr Tr)).mono ?_
   rintro _ wz ⟨rfl, tz⟩
   go_wp2
   (try rw [Exit.noGoto_ret])
   go_ret
   exact ⟨rfl, Tr.trans tz⟩
theorem elimsums_row {w : World} {u v : Value} (hT : Tab64 1 w) (hu : ∃ b, BooksIs (fun _ => True) w u b ∧ Bks64 b) (hv : ∃ c : Rt6, v = cellV c ∧ (I64 c.1 ∧ I64 c.2.1 ∧ I64 c.2.2.1 ∧ I64 c.2.2.2.1 ∧ I64 c.2.2.2.2.1 ∧ I64 c.2.2.2.2.2)) :
 Calls Tryz.prog 4 #[u, v] w fun x w' => x = .returned (.bool true) ∧ Tch (fun _ => False) w w' := by
 obtain ⟨b, hb, h64⟩ := hu
 obtain ⟨⟨c1, c2, c3, c4, c5, c6⟩, rfl, _⟩ := hv
 obtain ⟨e, a, s, r, l, n, us, rfl, h⟩ := hb.at
 exact elimsums_any h h64 hT c1 c2 c3 c4 c5 c6
end Go.Proofs.YtdangnmeligfjaaGreatDoor
