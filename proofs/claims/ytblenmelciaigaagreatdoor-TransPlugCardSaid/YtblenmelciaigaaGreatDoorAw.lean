/-
  The probe of layer 32.
-/
import Derived.Test.YtblenmelciaigaaGreatDoorTr
import Derived.Test.YtblenmelciaigaaGreatDoorZ22
import Derived.Test.YtblenmelciaigaaGreatDoorZ28
namespace Go.Gk
def rateBks : Bks := { someBks with rates := [(1, 2, 1, 1, 3, 2)] }
theorem rateBks_ok : booksOK rateBks = true := by decide +kernel
theorem rateBks_few : BksFew rateBks := by
  refine ⟨by decide, by decide, by decide, by decide, by decide, by decide, ?_⟩
  exact someBks_few.lines
theorem rateBks_64 : Bks64 rateBks := by
  obtain ⟨h1, h2, h3, h4, h5, h6⟩ := someBks_64
  refine ⟨h1, h2, h3, ?_, h5, h6⟩
  intro x hx
  simp only [rateBks, List.mem_cons, List.not_mem_nil, or_false] at hx
  subst hx; unfold I64; simp
theorem rate_s1 : transOf rateBks (3, 1, 4, 1, 2, 0) = (⟨(0, 0), [], [], (2, 1, 4, 1, 0, 0), true, (3, 2), true⟩, 0) := by decide +kernel
theorem rate_s2 : transOf rateBks (3, 1, 5, 1, 2, 0) = (⟨(0, 0), [(3, 1, 5, 0, 2, 0)], [], (1, 1, 5, 1, 0, 0), true, (0, 0), false⟩, 0) := by decide +kernel
theorem rate_s3 : transOf rateBks (3, 1, 1, 1, 2, 0) = (⟨(0, 0), [], [(3, 1, 2, 1, 2, 0), (3, 1, 3, 1, 2, 0), (3, 1, 4, 1, 2, 0), (3, 1, 5, 1, 2, 0)], (0, 0, 0, 0, 0, 0), false, (0, 0), false⟩, 0) := by decide +kernel
theorem rate_s4 : transOf rateBks (3, 1, 4, 1, 1, 0) = (⟨(0, 0), [(2, 1, 4, 1, 0, 0)], [], (0, 0, 0, 0, 0, 0), false, (0, 0), false⟩, 0) := by decide +kernel
theorem rate_s5 : transOf rateBks (1, 1, 4, 0, 0, 0) = (⟨(0, 0), [], [], (0, 0, 0, 0, 0, 0), false, (0, 0), false⟩, 25) := by decide +kernel
end Go.Gk
namespace Go.Proofs.YtblenmelciaigaaGreatDoor
open Go.RowKit Go.Gk

set_option maxRecDepth 100000 in
set_option maxHeartbeats 800000 in
theorem key32_any (a c : Int) (w : World) :
    Calls Tryz.prog 22 #[.int .i64 a, .int .i64 c] w fun x w' => x = .returned (.agg #[.int .i64 3, .int .i64 1, .int .i64 a, .int .i64 1, .int .i64 c, .int .i64 0]) ∧ Tch (fun _ => False) w w' := by
  go_enter Tryz.func22, Tryz.ntmps22
  go_wp2
  refine bodyPost_ret (results_cell_row (P := Tryz.prog) rfl _ _ (w.heap.size) 31 _ (0, 0) _ rfl (Blk.new w 31 _) Tryz.underlying31 rfl (by kernel_rfl)) rfl ?_
  exact ⟨rfl, Tch.alloc _ _ _⟩

set_option maxRecDepth 100000 in
set_option maxHeartbeats 25600000 in
theorem awake32_any (w : World) (hT : Tab64 1 w) :
    Calls Tryz.prog 7 #[] w fun x w' => x = .returned (.bool true) ∧ Tch (fun _ => False) w w' := by
  have HT0 := Lib.hid (fun w' (t : Tch (fun _ => False) w w') => hT.keep t)
  clear hT
  go_enter Tryz.func7, Tryz.ntmps7
  go_wp2_with fail
  refine (some_any w).mono ?_
  rintro _ w1 ⟨e, a, s, r, l, n, us, rfl, hB, t1⟩
  obtain ⟨Ae, ce, rfl, _, _⟩ := hB.ents.form
  obtain ⟨Aa, ca, rfl, _, _⟩ := hB.accs.form
  obtain ⟨As, cs, rfl, _, _⟩ := hB.stakes.form
  obtain ⟨Ar, cr, rfl, _, _⟩ := hB.rates.form
  obtain ⟨Al, cl, rfl, _, _⟩ := hB.locks.form
  obtain ⟨An, cn, rfl, _, _⟩ := hB.ent.row.form
  have ta := Tch.alloc (fun _ => False) w1 (.cells #[.slice Ae someBks.ents.length ce, .slice Aa someBks.accs.length ca, .slice As someBks.stakes.length cs, .slice (some ⟨w1.heap.size + 1, 0, none⟩) 1 1, .slice Al someBks.locks.length cl, .slice An us.length cn] 29)
  have tb := Tch.alloc (fun _ => False) (w1.alloc (.cells #[.slice Ae someBks.ents.length ce, .slice Aa someBks.accs.length ca, .slice As someBks.stakes.length cs, .slice (some ⟨w1.heap.size + 1, 0, none⟩) 1 1, .slice Al someBks.locks.length cl, .slice An us.length cn] 29)) (.cells #[.int .i64 1, .int .i64 2, .int .i64 1, .int .i64 1, .int .i64 3, .int .i64 2] 68)
  have tab := ta.trans tb
  have bb := (Blk.new w1 29 #[.slice Ae someBks.ents.length ce, .slice Aa someBks.accs.length ca, .slice As someBks.stakes.length cs, .slice (some ⟨w1.heap.size + 1, 0, none⟩) 1 1, .slice Al someBks.locks.length cl, .slice An us.length cn]).keep tb id
  have br := Blk.new2 w1 (.cells #[.slice Ae someBks.ents.length ce, .slice Aa someBks.accs.length ca, .slice As someBks.stakes.length cs, .slice (some ⟨w1.heap.size + 1, 0, none⟩) 1 1, .slice Al someBks.locks.length cl, .slice An us.length cn] 29) 68 #[.int .i64 1, .int .i64 2, .int .i64 1, .int .i64 1, .int .i64 3, .int .i64 2]
  have hB2 : BksAt ((w1.alloc (.cells #[.slice Ae someBks.ents.length ce, .slice Aa someBks.accs.length ca, .slice As someBks.stakes.length cs, .slice (some ⟨w1.heap.size + 1, 0, none⟩) 1 1, .slice Al someBks.locks.length cl, .slice An us.length cn] 29)).alloc (.cells #[.int .i64 1, .int .i64 2, .int .i64 1, .int .i64 1, .int .i64 3, .int .i64 2] 68)) (.slice Ae someBks.ents.length ce) (.slice Aa someBks.accs.length ca) (.slice As someBks.stakes.length cs) (.slice (some ⟨w1.heap.size + 1, 0, none⟩) 1 1) (.slice Al someBks.locks.length cl) (.slice An us.length cn) rateBks us :=
    ⟨hB.ents.keep tab, hB.accs.keep tab, hB.stakes.keep tab, Row.blk br trivial rfl (by decide), hB.locks.keep tab, hB.ent.keep tab, hB.map⟩
  have HS := Lib.hid (see_any hB2 rateBks_few rateBks_64)
  have T1 := t1.trans tab
  have g0 : ((w1.alloc (.cells #[.slice Ae someBks.ents.length ce, .slice Aa someBks.accs.length ca, .slice As someBks.stakes.length cs, .slice (some ⟨w1.heap.size + 1, 0, none⟩) 1 1, .slice Al someBks.locks.length cl, .slice An us.length cn] 29)).alloc (.cells #[.int .i64 1, .int .i64 2, .int .i64 1, .int .i64 1, .int .i64 3, .int .i64 2] 68)).cell? ⟨w1.heap.size, 0, none⟩ = some (.slice Ae someBks.ents.length ce) := bb.cell 0
  have g1 : ((w1.alloc (.cells #[.slice Ae someBks.ents.length ce, .slice Aa someBks.accs.length ca, .slice As someBks.stakes.length cs, .slice (some ⟨w1.heap.size + 1, 0, none⟩) 1 1, .slice Al someBks.locks.length cl, .slice An us.length cn] 29)).alloc (.cells #[.int .i64 1, .int .i64 2, .int .i64 1, .int .i64 1, .int .i64 3, .int .i64 2] 68)).cell? ⟨w1.heap.size, 1, none⟩ = some (.slice Aa someBks.accs.length ca) := bb.cell 1
  have g2 : ((w1.alloc (.cells #[.slice Ae someBks.ents.length ce, .slice Aa someBks.accs.length ca, .slice As someBks.stakes.length cs, .slice (some ⟨w1.heap.size + 1, 0, none⟩) 1 1, .slice Al someBks.locks.length cl, .slice An us.length cn] 29)).alloc (.cells #[.int .i64 1, .int .i64 2, .int .i64 1, .int .i64 1, .int .i64 3, .int .i64 2] 68)).cell? ⟨w1.heap.size, 2, none⟩ = some (.slice As someBks.stakes.length cs) := bb.cell 2
  have g3 : ((w1.alloc (.cells #[.slice Ae someBks.ents.length ce, .slice Aa someBks.accs.length ca, .slice As someBks.stakes.length cs, .slice (some ⟨w1.heap.size + 1, 0, none⟩) 1 1, .slice Al someBks.locks.length cl, .slice An us.length cn] 29)).alloc (.cells #[.int .i64 1, .int .i64 2, .int .i64 1, .int .i64 1, .int .i64 3, .int .i64 2] 68)).cell? ⟨w1.heap.size, 3, none⟩ = some (.slice (some ⟨w1.heap.size + 1, 0, none⟩) 1 1) := bb.cell 3
  have g4 : ((w1.alloc (.cells #[.slice Ae someBks.ents.length ce, .slice Aa someBks.accs.length ca, .slice As someBks.stakes.length cs, .slice (some ⟨w1.heap.size + 1, 0, none⟩) 1 1, .slice Al someBks.locks.length cl, .slice An us.length cn] 29)).alloc (.cells #[.int .i64 1, .int .i64 2, .int .i64 1, .int .i64 1, .int .i64 3, .int .i64 2] 68)).cell? ⟨w1.heap.size, 4, none⟩ = some (.slice Al someBks.locks.length cl) := bb.cell 4
  have g5 : ((w1.alloc (.cells #[.slice Ae someBks.ents.length ce, .slice Aa someBks.accs.length ca, .slice As someBks.stakes.length cs, .slice (some ⟨w1.heap.size + 1, 0, none⟩) 1 1, .slice Al someBks.locks.length cl, .slice An us.length cn] 29)).alloc (.cells #[.int .i64 1, .int .i64 2, .int .i64 1, .int .i64 1, .int .i64 3, .int .i64 2] 68)).cell? ⟨w1.heap.size, 5, none⟩ = some (.slice An us.length cn) := bb.cell 5
  clear hB hB2 t1 ta tb tab bb br
  go_wp2_with fail
  generalize (w1.alloc (.cells #[.slice Ae someBks.ents.length ce, .slice Aa someBks.accs.length ca, .slice As someBks.stakes.length cs, .slice (some ⟨w1.heap.size + 1, 0, none⟩) 1 1, .slice Al someBks.locks.length cl, .slice An us.length cn] 29)).alloc _ = W1 at *
  generalize w1.heap.size = y0 at *
  refine HS.out.mono ?_
  rintro _ w2 ⟨hsee, t2⟩
  have tt := T1.trans t2
  clear HS T1 t2 g0 g1 g2 g3 g4 g5
  rcases hsee with ⟨h, _⟩ | ⟨_, bv, bi, B, t, mr, mp, e, a, s, r, l, n, lv, fs, us', rfl, hV⟩
  · rw [rateBks_ok] at h; cases h
  have hT2 := Lib.hid (HT0.out w2 tt)
  have hnl : (accLeaves rateBks.accs).length ≤ 1000 := by decide +kernel
  have hrl : rateBks.rates.length ≤ 1000000 := by decide
  go_wp2_with fail
  refine (key32_any 4 2 w2).mono ?_
  rintro _ v1 ⟨rfl, t1⟩
  have hV := hV.keep t1
  have hT2 := Lib.hid (hT2.out.keep t1)
  go_wp2_with fail
  refine (transrec_any hV hnl hrl hT2.out 3 1 4 1 2 0).mono ?_
  rintro _ u1 ⟨q1, rfl, h1, t2⟩
  rw [rate_s1] at h1 ⊢
  obtain ⟨pt, mt, rfl, hpt, hmt⟩ := h1
  obtain ⟨P1, c1, rfl, _, _⟩ := hpt.form
  obtain ⟨M1, d1, rfl, _, _⟩ := hmt.form
  have hp1 := Lib.hid hpt
  have hm1 := Lib.hid hmt
  unfold rcpV
  simp only [List.length_nil] at hp1 hm1 ⊢
  have ta := Tch.alloc (fun _ => False) u1 (.cells #[.int .i64 0, .int .i64 0, .slice P1 0 c1, .slice M1 0 d1, .int .i64 2, .int .i64 1, .int .i64 4, .int .i64 1, .int .i64 0, .int .i64 0, .bool true, .int .i64 3, .int .i64 2, .bool true] 46)
  have x1 := Blk.new u1 46 #[.int .i64 0, .int .i64 0, .slice P1 0 c1, .slice M1 0 d1, .int .i64 2, .int .i64 1, .int .i64 4, .int .i64 1, .int .i64 0, .int .i64 0, .bool true, .int .i64 3, .int .i64 2, .bool true]
  have t3 := t2.trans ta
  have t4 := t1.trans t3
  have hV := hV.keep t3
  have hT2 := Lib.hid (hT2.out.keep t3)
  have tt := tt.trans t4
  have hp1 := Lib.hid (hp1.out.keep ta)
  have hm1 := Lib.hid (hm1.out.keep ta)
  clear hpt hmt ta t1 t2 t3 t4
  go_wp2_with fail
  generalize u1.alloc _ = W1 at *
  generalize u1.heap.size = y1 at *
  go_wp2_with fail
  refine (key32_any 5 2 W1).mono ?_
  rintro _ v2 ⟨rfl, t1⟩
  have hV := hV.keep t1
  have hT2 := Lib.hid (hT2.out.keep t1)
  go_wp2_with fail
  refine (transrec_any hV hnl hrl hT2.out 3 1 5 1 2 0).mono ?_
  rintro _ u2 ⟨q2, rfl, h1, t2⟩
  rw [rate_s2] at h1 ⊢
  obtain ⟨pt, mt, rfl, hpt, hmt⟩ := h1
  obtain ⟨P2, c2, rfl, _, _⟩ := hpt.form
  obtain ⟨M2, d2, rfl, _, _⟩ := hmt.form
  have hp2 := Lib.hid hpt
  have hm2 := Lib.hid hmt
  unfold rcpV
  simp only [List.length_nil, List.length_cons, Nat.zero_add] at hp2 hm2 ⊢
  have ta := Tch.alloc (fun _ => False) u2 (.cells #[.int .i64 0, .int .i64 0, .slice P2 1 c2, .slice M2 0 d2, .int .i64 1, .int .i64 1, .int .i64 5, .int .i64 1, .int .i64 0, .int .i64 0, .bool true, .int .i64 0, .int .i64 0, .bool false] 46)
  have x2 := Blk.new u2 46 #[.int .i64 0, .int .i64 0, .slice P2 1 c2, .slice M2 0 d2, .int .i64 1, .int .i64 1, .int .i64 5, .int .i64 1, .int .i64 0, .int .i64 0, .bool true, .int .i64 0, .int .i64 0, .bool false]
  have t3 := t2.trans ta
  have t4 := t1.trans t3
  have hV := hV.keep t3
  have hT2 := Lib.hid (hT2.out.keep t3)
  have tt := tt.trans t4
  have x1 := x1.keep t4 id
  have hp1 := Lib.hid (hp1.out.keep t4)
  have hm1 := Lib.hid (hm1.out.keep t4)
  have hp2 := Lib.hid (hp2.out.keep ta)
  have hm2 := Lib.hid (hm2.out.keep ta)
  clear hpt hmt ta t1 t2 t3 t4
  go_wp2_with fail
  generalize u2.alloc _ = W2 at *
  generalize u2.heap.size = y2 at *
  go_wp2_with fail
  refine (key32_any 1 2 W2).mono ?_
  rintro _ v3 ⟨rfl, t1⟩
  have hV := hV.keep t1
  have hT2 := Lib.hid (hT2.out.keep t1)
  go_wp2_with fail
  refine (transrec_any hV hnl hrl hT2.out 3 1 1 1 2 0).mono ?_
  rintro _ u3 ⟨q3, rfl, h1, t2⟩
  rw [rate_s3] at h1 ⊢
  obtain ⟨pt, mt, rfl, hpt, hmt⟩ := h1
  obtain ⟨P3, c3, rfl, _, _⟩ := hpt.form
  obtain ⟨M3, d3, rfl, _, _⟩ := hmt.form
  have hp3 := Lib.hid hpt
  have hm3 := Lib.hid hmt
  unfold rcpV
  simp only [List.length_nil, List.length_cons, Nat.zero_add] at hp3 hm3 ⊢
  have ta := Tch.alloc (fun _ => False) u3 (.cells #[.int .i64 0, .int .i64 0, .slice P3 0 c3, .slice M3 4 d3, .int .i64 0, .int .i64 0, .int .i64 0, .int .i64 0, .int .i64 0, .int .i64 0, .bool false, .int .i64 0, .int .i64 0, .bool false] 46)
  have x3 := Blk.new u3 46 #[.int .i64 0, .int .i64 0, .slice P3 0 c3, .slice M3 4 d3, .int .i64 0, .int .i64 0, .int .i64 0, .int .i64 0, .int .i64 0, .int .i64 0, .bool false, .int .i64 0, .int .i64 0, .bool false]
  have t3 := t2.trans ta
  have t4 := t1.trans t3
  have hV := hV.keep t3
  have hT2 := Lib.hid (hT2.out.keep t3)
  have tt := tt.trans t4
  have x1 := x1.keep t4 id
  have hp1 := Lib.hid (hp1.out.keep t4)
  have hm1 := Lib.hid (hm1.out.keep t4)
  have x2 := x2.keep t4 id
  have hp2 := Lib.hid (hp2.out.keep t4)
  have hm2 := Lib.hid (hm2.out.keep t4)
  have hp3 := Lib.hid (hp3.out.keep ta)
  have hm3 := Lib.hid (hm3.out.keep ta)
  clear hpt hmt ta t1 t2 t3 t4
  go_wp2_with fail
  generalize u3.alloc _ = W3 at *
  generalize u3.heap.size = y3 at *
  go_wp2_with fail
  refine (key32_any 4 1 W3).mono ?_
  rintro _ v4 ⟨rfl, t1⟩
  have hV := hV.keep t1
  have hT2 := Lib.hid (hT2.out.keep t1)
  go_wp2_with fail
  refine (transrec_any hV hnl hrl hT2.out 3 1 4 1 1 0).mono ?_
  rintro _ u4 ⟨q4, rfl, h1, t2⟩
  rw [rate_s4] at h1 ⊢
  obtain ⟨pt, mt, rfl, hpt, hmt⟩ := h1
  obtain ⟨P4, c4, rfl, _, _⟩ := hpt.form
  obtain ⟨M4, d4, rfl, _, _⟩ := hmt.form
  have hp4 := Lib.hid hpt
  have hm4 := Lib.hid hmt
  unfold rcpV
  simp only [List.length_nil, List.length_cons, Nat.zero_add] at hp4 hm4 ⊢
  have ta := Tch.alloc (fun _ => False) u4 (.cells #[.int .i64 0, .int .i64 0, .slice P4 1 c4, .slice M4 0 d4, .int .i64 0, .int .i64 0, .int .i64 0, .int .i64 0, .int .i64 0, .int .i64 0, .bool false, .int .i64 0, .int .i64 0, .bool false] 46)
  have x4 := Blk.new u4 46 #[.int .i64 0, .int .i64 0, .slice P4 1 c4, .slice M4 0 d4, .int .i64 0, .int .i64 0, .int .i64 0, .int .i64 0, .int .i64 0, .int .i64 0, .bool false, .int .i64 0, .int .i64 0, .bool false]
  have t3 := t2.trans ta
  have t4 := t1.trans t3
  have hV := hV.keep t3
  have hT2 := Lib.hid (hT2.out.keep t3)
  have tt := tt.trans t4
  have x1 := x1.keep t4 id
  have hp1 := Lib.hid (hp1.out.keep t4)
  have hm1 := Lib.hid (hm1.out.keep t4)
  have x2 := x2.keep t4 id
  have hp2 := Lib.hid (hp2.out.keep t4)
  have hm2 := Lib.hid (hm2.out.keep t4)
  have x3 := x3.keep t4 id
  have hp3 := Lib.hid (hp3.out.keep t4)
  have hm3 := Lib.hid (hm3.out.keep t4)
  have hp4 := Lib.hid (hp4.out.keep ta)
  have hm4 := Lib.hid (hm4.out.keep ta)
  clear hpt hmt ta t1 t2 t3 t4
  go_wp2_with fail
  generalize u4.alloc _ = W4 at *
  generalize u4.heap.size = y4 at *
  go_wp2_with fail
  refine (transrec_any hV hnl hrl hT2.out 1 1 4 0 0 0).mono ?_
  rintro _ u5 ⟨q5, rfl, h1, t2⟩
  rw [rate_s5] at h1 ⊢
  obtain ⟨pt, mt, rfl, hpt, hmt⟩ := h1
  obtain ⟨P5, c5, rfl, _, _⟩ := hpt.form
  obtain ⟨M5, d5, rfl, _, _⟩ := hmt.form
  have hp5 := Lib.hid hpt
  have hm5 := Lib.hid hmt
  unfold rcpV
  simp only [List.length_nil] at hp5 hm5 ⊢
  have ta := Tch.alloc (fun _ => False) u5 (.cells #[.int .i64 0, .int .i64 0, .slice P5 0 c5, .slice M5 0 d5, .int .i64 0, .int .i64 0, .int .i64 0, .int .i64 0, .int .i64 0, .int .i64 0, .bool false, .int .i64 0, .int .i64 0, .bool false] 46)
  have x5 := Blk.new u5 46 #[.int .i64 0, .int .i64 0, .slice P5 0 c5, .slice M5 0 d5, .int .i64 0, .int .i64 0, .int .i64 0, .int .i64 0, .int .i64 0, .int .i64 0, .bool false, .int .i64 0, .int .i64 0, .bool false]
  have t3 := t2.trans ta
  have t4 := t3
  have hV := hV.keep t3
  have hT2 := Lib.hid (hT2.out.keep t3)
  have tt := tt.trans t4
  have x1 := x1.keep t4 id
  have hp1 := Lib.hid (hp1.out.keep t4)
  have hm1 := Lib.hid (hm1.out.keep t4)
  have x2 := x2.keep t4 id
  have hp2 := Lib.hid (hp2.out.keep t4)
  have hm2 := Lib.hid (hm2.out.keep t4)
  have x3 := x3.keep t4 id
  have hp3 := Lib.hid (hp3.out.keep t4)
  have hm3 := Lib.hid (hm3.out.keep t4)
  have x4 := x4.keep t4 id
  have hp4 := Lib.hid (hp4.out.keep t4)
  have hm4 := Lib.hid (hm4.out.keep t4)
  have hp5 := Lib.hid (hp5.out.keep ta)
  have hm5 := Lib.hid (hm5.out.keep ta)
  clear hpt hmt ta t2 t3 t4
  go_wp2_with fail
  generalize u5.alloc _ = W5 at *
  generalize u5.heap.size = y5 at *
  refine (key32_any 5 2 W5).mono ?_
  rintro _ v6 ⟨rfl, t1⟩
  have ta := Tch.alloc (fun _ => False) v6 (.cells #[.int .i64 3, .int .i64 1, .int .i64 5, .int .i64 0, .int .i64 2, .int .i64 0] 31)
  have xw := Blk.new v6 31 #[.int .i64 3, .int .i64 1, .int .i64 5, .int .i64 0, .int .i64 2, .int .i64 0]
  have t4 := t1.trans ta
  have tt := tt.trans t4
  have x1 := x1.keep t4 id
  have hp1 := Lib.hid (hp1.out.keep t4)
  have hm1 := Lib.hid (hm1.out.keep t4)
  have x2 := x2.keep t4 id
  have hp2 := Lib.hid (hp2.out.keep t4)
  have hm2 := Lib.hid (hm2.out.keep t4)
  have x3 := x3.keep t4 id
  have hp3 := Lib.hid (hp3.out.keep t4)
  have hm3 := Lib.hid (hm3.out.keep t4)
  have x4 := x4.keep t4 id
  have hp4 := Lib.hid (hp4.out.keep t4)
  have hm4 := Lib.hid (hm4.out.keep t4)
  have x5 := x5.keep t4 id
  have hp5 := Lib.hid (hp5.out.keep t4)
  have hm5 := Lib.hid (hm5.out.keep t4)
  clear t1 ta t4 hV hT2 HT0
  go_wp2_with fail
  generalize v6.alloc _ = W6 at *
  generalize v6.heap.size = yw at *
  have hcmp1 : ∀ w' : World, (binOp .eql 31 (.agg #[.int .i64 2, .int .i64 1, .int .i64 4, .int .i64 1, .int .i64 0, .int .i64 0]) (.agg #[.int .i64 2, .int .i64 1, .int .i64 4, .int .i64 1, .int .i64 0, .int .i64 0])).run Tryz.prog w' = .ok (.bool true) w' := fun w' => by rw [run_eq_Cell]; simp
  have hcmp2 : ∀ w' : World, (binOp .eql 31 (.agg #[.int .i64 1, .int .i64 1, .int .i64 5, .int .i64 1, .int .i64 0, .int .i64 0]) (.agg #[.int .i64 1, .int .i64 1, .int .i64 5, .int .i64 1, .int .i64 0, .int .i64 0])).run Tryz.prog w' = .ok (.bool true) w' := fun w' => by rw [run_eq_Cell]; simp
  have hcmp3 : ∀ w' : World, (binOp .eql 42 (.agg #[.int .i64 3, .int .i64 2]) (.agg #[.int .i64 3, .int .i64 2])).run Tryz.prog w' = .ok (.bool true) w' := fun w' => by rw [run_eq_Ratio]; simp
  have z1_4 := within_cell (F := fun _ => False) (show W6.cell? ⟨y1, 4, none⟩ = some (.int .i64 2) from x1.cell 4) id
  have z1_5 := within_cell (F := fun _ => False) (show W6.cell? ⟨y1, 5, none⟩ = some (.int .i64 1) from x1.cell 5) id
  have z1_6 := within_cell (F := fun _ => False) (show W6.cell? ⟨y1, 6, none⟩ = some (.int .i64 4) from x1.cell 6) id
  have z1_7 := within_cell (F := fun _ => False) (show W6.cell? ⟨y1, 7, none⟩ = some (.int .i64 1) from x1.cell 7) id
  have z1_8 := within_cell (F := fun _ => False) (show W6.cell? ⟨y1, 8, none⟩ = some (.int .i64 0) from x1.cell 8) id
  have z1_9 := within_cell (F := fun _ => False) (show W6.cell? ⟨y1, 9, none⟩ = some (.int .i64 0) from x1.cell 9) id
  have z1_10 := within_cell (F := fun _ => False) (show W6.cell? ⟨y1, 10, none⟩ = some (.bool true) from x1.cell 10) id
  have z1_11 := within_cell (F := fun _ => False) (show W6.cell? ⟨y1, 11, none⟩ = some (.int .i64 3) from x1.cell 11) id
  have z1_12 := within_cell (F := fun _ => False) (show W6.cell? ⟨y1, 12, none⟩ = some (.int .i64 2) from x1.cell 12) id
  have z1_13 := within_cell (F := fun _ => False) (show W6.cell? ⟨y1, 13, none⟩ = some (.bool true) from x1.cell 13) id
  have z2_2 := within_cell (F := fun _ => False) (show W6.cell? ⟨y2, 2, none⟩ = some (.slice P2 1 c2) from x2.cell 2) id
  have z2_4 := within_cell (F := fun _ => False) (show W6.cell? ⟨y2, 4, none⟩ = some (.int .i64 1) from x2.cell 4) id
  have z2_5 := within_cell (F := fun _ => False) (show W6.cell? ⟨y2, 5, none⟩ = some (.int .i64 1) from x2.cell 5) id
  have z2_6 := within_cell (F := fun _ => False) (show W6.cell? ⟨y2, 6, none⟩ = some (.int .i64 5) from x2.cell 6) id
  have z2_7 := within_cell (F := fun _ => False) (show W6.cell? ⟨y2, 7, none⟩ = some (.int .i64 1) from x2.cell 7) id
  have z2_8 := within_cell (F := fun _ => False) (show W6.cell? ⟨y2, 8, none⟩ = some (.int .i64 0) from x2.cell 8) id
  have z2_9 := within_cell (F := fun _ => False) (show W6.cell? ⟨y2, 9, none⟩ = some (.int .i64 0) from x2.cell 9) id
  have z2_13 := within_cell (F := fun _ => False) (show W6.cell? ⟨y2, 13, none⟩ = some (.bool false) from x2.cell 13) id
  have z3_3 := within_cell (F := fun _ => False) (show W6.cell? ⟨y3, 3, none⟩ = some (.slice M3 4 d3) from x3.cell 3) id
  have z4_2 := within_cell (F := fun _ => False) (show W6.cell? ⟨y4, 2, none⟩ = some (.slice P4 1 c4) from x4.cell 2) id
  have zw_0 := within_cell (F := fun _ => False) (show W6.cell? ⟨yw, 0, none⟩ = some (.int .i64 3) from xw.cell 0) id
  have zw_1 := within_cell (F := fun _ => False) (show W6.cell? ⟨yw, 1, none⟩ = some (.int .i64 1) from xw.cell 1) id
  have zw_2 := within_cell (F := fun _ => False) (show W6.cell? ⟨yw, 2, none⟩ = some (.int .i64 5) from xw.cell 2) id
  have zw_3 := within_cell (F := fun _ => False) (show W6.cell? ⟨yw, 3, none⟩ = some (.int .i64 0) from xw.cell 3) id
  have zw_4 := within_cell (F := fun _ => False) (show W6.cell? ⟨yw, 4, none⟩ = some (.int .i64 2) from xw.cell 4) id
  have zw_5 := within_cell (F := fun _ => False) (show W6.cell? ⟨yw, 5, none⟩ = some (.int .i64 0) from xw.cell 5) id
  have HS1 := Lib.hid (fun (w' : World) (t : Tch (fun _ => False) W6 w') (g : Nat) (hb : Blk w' g 31 #[.int .i64 3, .int .i64 1, .int .i64 5, .int .i64 0, .int .i64 2, .int .i64 0]) => refsame_any (l := [(3, 1, 5, 0, 2, 0)]) (hp2.out.keep t) (Row.blk hb trivial rfl (by decide)))
  (try simp only [List.length_nil, List.length_cons, Nat.zero_add] at HS1)
  have HS2 := Lib.hid (fun (w' : World) (t : Tch (fun _ => False) W6 w') (g : Nat) (hb : Blk w' g 31 #[.int .i64 3, .int .i64 1, .int .i64 2, .int .i64 1, .int .i64 2, .int .i64 0, .int .i64 3, .int .i64 1, .int .i64 3, .int .i64 1, .int .i64 2, .int .i64 0, .int .i64 3, .int .i64 1, .int .i64 4, .int .i64 1, .int .i64 2, .int .i64 0, .int .i64 3, .int .i64 1, .int .i64 5, .int .i64 1, .int .i64 2, .int .i64 0]) => refsame_any (l := [(3, 1, 2, 1, 2, 0), (3, 1, 3, 1, 2, 0), (3, 1, 4, 1, 2, 0), (3, 1, 5, 1, 2, 0)]) (hm3.out.keep t) (Row.blk hb trivial rfl (by decide)))
  (try simp only [List.length_nil, List.length_cons, Nat.zero_add] at HS2)
  have HS3 := Lib.hid (fun (w' : World) (t : Tch (fun _ => False) W6 w') (g : Nat) (hb : Blk w' g 31 #[.int .i64 2, .int .i64 1, .int .i64 4, .int .i64 1, .int .i64 0, .int .i64 0]) => refsame_any (l := [(2, 1, 4, 1, 0, 0)]) (hp4.out.keep t) (Row.blk hb trivial rfl (by decide)))
  (try simp only [List.length_nil, List.length_cons, Nat.zero_add] at HS3)
  clear x1 hp1 hm1 x2 hp2 hm2 x3 hp3 hm3 x4 hp4 hm4 x5 hp5 hm5 xw hnl hrl
  obtain ⟨V1, hV1⟩ : ∃ V : Value → World → Prop, V = fun u w' => ∃ g, u = .slice (some ⟨g, 0, none⟩) 1 1 ∧ Blk w' g 31 #[.int .i64 3, .int .i64 1, .int .i64 5, .int .i64 0, .int .i64 2, .int .i64 0] := ⟨_, rfl⟩
  have HV1 := Lib.hid hV1
  clear hV1
  obtain ⟨V2, hV2⟩ : ∃ V : Value → World → Prop, V = fun u w' => ∃ g, u = .slice (some ⟨g, 0, none⟩) 4 4 ∧ Blk w' g 31 #[.int .i64 3, .int .i64 1, .int .i64 2, .int .i64 1, .int .i64 2, .int .i64 0, .int .i64 3, .int .i64 1, .int .i64 3, .int .i64 1, .int .i64 2, .int .i64 0, .int .i64 3, .int .i64 1, .int .i64 4, .int .i64 1, .int .i64 2, .int .i64 0, .int .i64 3, .int .i64 1, .int .i64 5, .int .i64 1, .int .i64 2, .int .i64 0] := ⟨_, rfl⟩
  have HV2 := Lib.hid hV2
  clear hV2
  obtain ⟨V3, hV3⟩ : ∃ V : Value → World → Prop, V = fun u w' => ∃ g, u = .slice (some ⟨g, 0, none⟩) 1 1 ∧ Blk w' g 31 #[.int .i64 2, .int .i64 1, .int .i64 4, .int .i64 1, .int .i64 0, .int .i64 0] := ⟨_, rfl⟩
  have HV3 := Lib.hid hV3
  clear hV3
  refine wp_region_touch (fun _ => False) [] 72 [(42, .inr V1), (43, .inl (.bool true)), (53, .inl (.agg #[.int .i64 3, .int .i64 1, .int .i64 2, .int .i64 1, .int .i64 2, .int .i64 0])), (55, .inl (.agg #[.int .i64 3, .int .i64 1, .int .i64 3, .int .i64 1, .int .i64 2, .int .i64 0])), (57, .inl (.agg #[.int .i64 3, .int .i64 1, .int .i64 4, .int .i64 1, .int .i64 2, .int .i64 0])), (59, .inl (.agg #[.int .i64 3, .int .i64 1, .int .i64 5, .int .i64 1, .int .i64 2, .int .i64 0])), (60, .inr V2), (61, .inl (.bool true)), (71, .inr V3)] [] (by kernel_rfl) rfl (by kernel_rfl) rfl (fun d _ _ _ _ h => by cases d <;> exact h) ?_ ?_
  · rw [HV1.out, HV2.out, HV3.out]
    exact ⟨fun _ _ _ hr ⟨g, h1, h2⟩ => ⟨g, h1, h2.keep hr id⟩, fun _ _ _ hr ⟨g, h1, h2⟩ => ⟨g, h1, h2.keep hr id⟩, fun _ _ _ hr ⟨g, h1, h2⟩ => ⟨g, h1, h2.keep hr id⟩, trivial⟩
  intro bef ops hbef hops
  have hb1 : (bef.getD 43 0).testBit 42 = true := by rw [hbef]; kernel_rfl
  have hb2 : (bef.getD 61 0).testBit 60 = true := by rw [hbef]; kernel_rfl
  clear hbef
  subst hops
  simp only [List.append, List.take_succ_cons, List.take_zero, List.drop_succ_cons, List.drop_zero]
  iterate 42 (refine t_det (by rfl) (by rfl) (by rfl) (by rfl) (fun K hK => ?_); go_big_quiet_op; (first | refine hK _ ?_ | refine ⟨_, fun _ => rfl, hK _ ?_⟩); clear hK K; (try simp only [Act.put, List.setIfInBounds_toArray, List.set_cons_succ, List.set_cons_zero]))
  refine t_loose (by rfl) (by rfl) (fun w5 hr hf => ?_) (fun a1 => ?_)
  · refine yields_of_wp (d := 111) rfl (by simp) (fun K hK => ?_)
    go_step
    refine hK _ _ ⟨⟨?_, Tch.alloc _ _ _⟩, newAt_no⟩
    rw [HV1.out]
    exact ⟨_, rfl, Blk.new _ _ _⟩
  simp only [Act.put, List.setIfInBounds_toArray, List.set_cons_succ, List.set_cons_zero]
  refine t_fix (.bool true) (by rfl) (by rfl) (fun w5 hr hf => ?_) ?_
  · have hv := hf (42, fun w' => V1 a1 w') (by simp) hb1
    simp only at hv
    rw [HV1.out] at hv
    obtain ⟨g, rfl, hg⟩ := hv
    refine yields_of_wp (d := 112) rfl (by simp) (fun K hK => ?_)
    go_step
    refine (HS1.out w5 ((Tch.drew _ W6).trans hr) g hg).mono ?_
    rintro _ w6 ⟨rfl, t6⟩
    exact hK _ _ ⟨⟨rfl, t6⟩, newAt_no⟩
  simp only [Act.put, List.setIfInBounds_toArray, List.set_cons_succ, List.set_cons_zero]
  iterate 9 (refine t_det (by rfl) (by rfl) (by rfl) (by rfl) (fun K hK => ?_); go_big_quiet_op; (first | refine hK _ ?_ | refine ⟨_, fun _ => rfl, hK _ ?_⟩); clear hK K; (try simp only [Act.put, List.setIfInBounds_toArray, List.set_cons_succ, List.set_cons_zero]))
  refine t_fix (.agg #[.int .i64 3, .int .i64 1, .int .i64 2, .int .i64 1, .int .i64 2, .int .i64 0]) (by rfl) (by rfl) (fun w5 hr hf => ?_) ?_
  · refine yields_of_wp (d := 122) rfl (by simp) (fun K hK => ?_)
    go_step
    refine (key32_any 2 2 w5).mono ?_
    rintro _ w6 ⟨rfl, t6⟩
    exact hK _ _ ⟨⟨rfl, t6⟩, newAt_no⟩
  simp only [Act.put, List.setIfInBounds_toArray, List.set_cons_succ, List.set_cons_zero]
  iterate 1 (refine t_det (by rfl) (by rfl) (by rfl) (by rfl) (fun K hK => ?_); go_big_quiet_op; (first | refine hK _ ?_ | refine ⟨_, fun _ => rfl, hK _ ?_⟩); clear hK K; (try simp only [Act.put, List.setIfInBounds_toArray, List.set_cons_succ, List.set_cons_zero]))
  refine t_fix (.agg #[.int .i64 3, .int .i64 1, .int .i64 3, .int .i64 1, .int .i64 2, .int .i64 0]) (by rfl) (by rfl) (fun w5 hr hf => ?_) ?_
  · refine yields_of_wp (d := 124) rfl (by simp) (fun K hK => ?_)
    go_step
    refine (key32_any 3 2 w5).mono ?_
    rintro _ w6 ⟨rfl, t6⟩
    exact hK _ _ ⟨⟨rfl, t6⟩, newAt_no⟩
  simp only [Act.put, List.setIfInBounds_toArray, List.set_cons_succ, List.set_cons_zero]
  iterate 1 (refine t_det (by rfl) (by rfl) (by rfl) (by rfl) (fun K hK => ?_); go_big_quiet_op; (first | refine hK _ ?_ | refine ⟨_, fun _ => rfl, hK _ ?_⟩); clear hK K; (try simp only [Act.put, List.setIfInBounds_toArray, List.set_cons_succ, List.set_cons_zero]))
  refine t_fix (.agg #[.int .i64 3, .int .i64 1, .int .i64 4, .int .i64 1, .int .i64 2, .int .i64 0]) (by rfl) (by rfl) (fun w5 hr hf => ?_) ?_
  · refine yields_of_wp (d := 126) rfl (by simp) (fun K hK => ?_)
    go_step
    refine (key32_any 4 2 w5).mono ?_
    rintro _ w6 ⟨rfl, t6⟩
    exact hK _ _ ⟨⟨rfl, t6⟩, newAt_no⟩
  simp only [Act.put, List.setIfInBounds_toArray, List.set_cons_succ, List.set_cons_zero]
  iterate 1 (refine t_det (by rfl) (by rfl) (by rfl) (by rfl) (fun K hK => ?_); go_big_quiet_op; (first | refine hK _ ?_ | refine ⟨_, fun _ => rfl, hK _ ?_⟩); clear hK K; (try simp only [Act.put, List.setIfInBounds_toArray, List.set_cons_succ, List.set_cons_zero]))
  refine t_fix (.agg #[.int .i64 3, .int .i64 1, .int .i64 5, .int .i64 1, .int .i64 2, .int .i64 0]) (by rfl) (by rfl) (fun w5 hr hf => ?_) ?_
  · refine yields_of_wp (d := 128) rfl (by simp) (fun K hK => ?_)
    go_step
    refine (key32_any 5 2 w5).mono ?_
    rintro _ w6 ⟨rfl, t6⟩
    exact hK _ _ ⟨⟨rfl, t6⟩, newAt_no⟩
  simp only [Act.put, List.setIfInBounds_toArray, List.set_cons_succ, List.set_cons_zero]
  refine t_loose (by rfl) (by rfl) (fun w5 hr hf => ?_) (fun a2 => ?_)
  · refine yields_of_wp (d := 129) rfl (by simp) (fun K hK => ?_)
    go_step
    refine hK _ _ ⟨⟨?_, Tch.alloc _ _ _⟩, newAt_no⟩
    rw [HV2.out]
    exact ⟨_, rfl, Blk.new _ _ _⟩
  simp only [Act.put, List.setIfInBounds_toArray, List.set_cons_succ, List.set_cons_zero]
  refine t_fix (.bool true) (by rfl) (by rfl) (fun w5 hr hf => ?_) ?_
  · have hv := hf (60, fun w' => V2 a2 w') (by simp) hb2
    simp only at hv
    rw [HV2.out] at hv
    obtain ⟨g, rfl, hg⟩ := hv
    refine yields_of_wp (d := 130) rfl (by simp) (fun K hK => ?_)
    go_step
    refine (HS2.out w5 ((Tch.drew _ W6).trans hr) g hg).mono ?_
    rintro _ w6 ⟨rfl, t6⟩
    exact hK _ _ ⟨⟨rfl, t6⟩, newAt_no⟩
  simp only [Act.put, List.setIfInBounds_toArray, List.set_cons_succ, List.set_cons_zero]
  iterate 9 (refine t_det (by rfl) (by rfl) (by rfl) (by rfl) (fun K hK => ?_); go_big_quiet_op; (first | refine hK _ ?_ | refine ⟨_, fun _ => rfl, hK _ ?_⟩); clear hK K; (try simp only [Act.put, List.setIfInBounds_toArray, List.set_cons_succ, List.set_cons_zero]))
  refine t_loose (by rfl) (by rfl) (fun w5 hr hf => ?_) (fun a3 => ?_)
  · refine yields_of_wp (d := 140) rfl (by simp) (fun K hK => ?_)
    go_step
    refine hK _ _ ⟨⟨?_, Tch.alloc _ _ _⟩, newAt_no⟩
    rw [HV3.out]
    exact ⟨_, rfl, Blk.new _ _ _⟩
  simp only [Act.put, List.setIfInBounds_toArray, List.set_cons_succ, List.set_cons_zero]
  refine t_nil ?_
  intro w5 hr hp hap
  have hv := hp (71, fun w' => V3 a3 w') (by simp)
  simp only at hv
  rw [HV3.out] at hv
  obtain ⟨g, rfl, hg⟩ := hv
  have t5 := (Tch.drew (fun _ => False) W6).trans hr
  have HC := Lib.hid (HS3.out w5 t5 g hg)
  have tt5 := tt.trans t5
  clear hap hp hr hb1 hb2 HS1 HS2 HS3 HV1 HV2 HV3 hg z1_4 z1_5 z1_6 z1_7 z1_8 z1_9 z1_10 z1_11 z1_12 z1_13 z2_2 z2_4 z2_5 z2_6 z2_7 z2_8 z2_9 z2_13 z3_3 z4_2 zw_0 zw_1 zw_2 zw_3 zw_4 zw_5
  go_wp2_with fail
  refine HC.out.mono ?_
  rintro _ w6 ⟨rfl, t6⟩
  go_wp2
  go_ret
  exact ⟨rfl, tt5.trans t6⟩
end Go.Proofs.YtblenmelciaigaaGreatDoor
