/-
  SplitParts: the walk.
-/
import Derived.Test.YtifdnhghjgklkaaGreatZ45
import Derived.Test.YtifdnhghjgklkaaGreatZ24
import Derived.Test.YtifdnhghjgklkaaGreatZ43
namespace Go.Proofs.YtifdnhghjgklkaaGreat
open Go.RowKit Go.Gk

set_option maxRecDepth 100000 in
set_option maxHeartbeats 25600000 in
theorem splitparts_any {w : World} {e a s r l n : Value} {b : Bks} {us : List (Ent × Value)} (h : BksAt w e a s r l n b us) (h64 : Bks64 b) (c1 c2 c3 c4 c5 c6 x : Int) (hx : I64 x) :
    Calls Tryz.prog 6 #[.agg #[e, a, s, r, l, n], .agg #[.int .i64 c1, .int .i64 c2, .int .i64 c3, .int .i64 c4, .int .i64 c5, .int .i64 c6], .int .i64 x] w fun u w' => u = .returned (.bool true) ∧ Tch (fun _ => False) w w' := by
  have ta := Tch.alloc (fun _ => False) w (.cells #[e, a, s, r, l, n] 29)
  have tb := Tch.alloc (fun _ => False) (w.alloc (.cells #[e, a, s, r, l, n] 29)) (.cells #[.int .i64 c1, .int .i64 c2, .int .i64 c3, .int .i64 c4, .int .i64 c5, .int .i64 c6] 31)
  have tw := ta.trans tb
  have hbB := (Blk.new w 29 #[e, a, s, r, l, n]).keep tb id
  have hbC := Blk.new2 w (.cells #[e, a, s, r, l, n] 29) 31 #[.int .i64 c1, .int .i64 c2, .int .i64 c3, .int .i64 c4, .int .i64 c5, .int .i64 c6]
  have HF := Lib.hid (few26_any (h.keep tw))
  have HW := Lib.hid (h.keep tw)
  have hsz : ((w.alloc (.cells #[e, a, s, r, l, n] 29)).alloc (.cells #[.int .i64 c1, .int .i64 c2, .int .i64 c3, .int .i64 c4, .int .i64 c5, .int .i64 c6] 31)).heap.size = w.heap.size + 2 := by simp
  obtain ⟨Ae, ce, rfl, _, _⟩ := h.ents.form
  obtain ⟨Aa, ca, rfl, _, _⟩ := h.accs.form
  obtain ⟨As, cs, rfl, _, _⟩ := h.stakes.form
  obtain ⟨Ar, cr, rfl, _, _⟩ := h.rates.form
  obtain ⟨Al, cl, rfl, _, _⟩ := h.locks.form
  obtain ⟨An, cn, rfl, _, _⟩ := h.ent.row.form
  clear ta tb h
  obtain ⟨fw, hfw⟩ : ∃ fw, few26 b = fw := ⟨_, rfl⟩
  rw [hfw] at HF
  go_enter Tryz.func6, Tryz.ntmps6
  go_wp2_with fail
  generalize (w.alloc (.cells #[.slice Ae b.ents.length ce, .slice Aa b.accs.length ca, .slice As b.stakes.length cs, .slice Ar b.rates.length cr, .slice Al b.locks.length cl, .slice An us.length cn] 29)).alloc (.cells #[.int .i64 c1, .int .i64 c2, .int .i64 c3, .int .i64 c4, .int .i64 c5, .int .i64 c6] 31) = W at *
  generalize hzw : w.heap.size = z at *
  have HZW := Lib.hid hzw
  clear hzw
  refine HF.out.mono ?_
  rintro _ w1 ⟨rfl, t1⟩
  clear HF
  have tt1 := tw.trans t1
  cases fw
  · clear hfw
    go_wp2_with fail
    refine (awake35_any w1).mono ?_
    rintro _ w2 ⟨rfl, t2⟩
    go_wp2
    go_ret
    exact ⟨rfl, tt1.trans t2⟩
  have hfew := few26_few hfw
  have hB1 := hbB.keep t1 id
  have hC1 := hbC.keep t1 id
  have h1 := HW.out.keep t1
  have hk1 : z + 2 ≤ w1.heap.size := by have := t1.size; omega
  clear hbB hbC HW tw t1 hfw hsz
  have g0 : w1.cell? ⟨z, 0, none⟩ = some (.slice Ae b.ents.length ce) := hB1.cell 0
  have g1 : w1.cell? ⟨z, 1, none⟩ = some (.slice Aa b.accs.length ca) := hB1.cell 1
  have g2 : w1.cell? ⟨z, 2, none⟩ = some (.slice As b.stakes.length cs) := hB1.cell 2
  have g3 : w1.cell? ⟨z, 3, none⟩ = some (.slice Ar b.rates.length cr) := hB1.cell 3
  have g4 : w1.cell? ⟨z, 4, none⟩ = some (.slice Al b.locks.length cl) := hB1.cell 4
  have g5 : w1.cell? ⟨z, 5, none⟩ = some (.slice An us.length cn) := hB1.cell 5
  go_wp2_with fail
  refine (see_far h1 hfew h64).mono ?_
  rintro _ w2 ⟨hsee, t2⟩
  have tt2 := tt1.trans t2
  rcases hsee with ⟨_, m, rfl, hm⟩ | ⟨hok, bv, bi, B, t, mr, mp, e', a', s', r', l', n', lv, fs, us', rfl, hV, hFar⟩
  · have hm2 : (m != 0) = true := by simpa using hm
    clear g0 g1 g2 g3 g4 g5 hm
    go_wp2_with fail
    refine (awake35_any w2).mono ?_
    rintro _ w3 ⟨rfl, t3⟩
    go_wp2
    go_ret
    exact ⟨rfl, tt2.trans t3⟩
  have hk5 : z + 2 ≤ w2.heap.size := Nat.le_trans hk1 t2.size
  have hC2 := hC1.keep t2 id
  clear g0 g1 g2 g3 g4 g5 hB1 hC1 h1 tt1 t2
  have hn := leaves_few hfew
  obtain ⟨h40, h400, hstk⟩ := ok_stakes hok
  clear hfew h64 hok hFar
  have q0 : w2.cell? ⟨z + 1, 0, none⟩ = some (.int .i64 c1) := hC2.cell 0
  have q1 : w2.cell? ⟨z + 1, 1, none⟩ = some (.int .i64 c2) := hC2.cell 1
  have q2 : w2.cell? ⟨z + 1, 2, none⟩ = some (.int .i64 c3) := hC2.cell 2
  have q3 : w2.cell? ⟨z + 1, 3, none⟩ = some (.int .i64 c4) := hC2.cell 3
  have q4 : w2.cell? ⟨z + 1, 4, none⟩ = some (.int .i64 c5) := hC2.cell 4
  have q5 : w2.cell? ⟨z + 1, 5, none⟩ = some (.int .i64 c6) := hC2.cell 5
  have HBO := Lib.hid (both_any hV hn h40 hstk c1 c2 c3 c4 c5 c6 x hx)
  have HPB := Lib.hid (part_bd hstk (4, c2, c3, c4, c5, 0))
  have HON := Lib.hid (fun h => both_on (b := b) (c := (c2, c3, c4, c5, 0)) (x := x) h)
  have HOF := Lib.hid (fun h => both_off (b := b) (c := (c2, c3, c4, c5, 0)) (x := x) h)
  clear hn h40 h400 hstk hC2 hV
  go_wp2_with fail
  refine HBO.out.mono ?_
  rintro _ w3 ⟨rfl, t3⟩
  clear HBO q0 q1 q2 q3 q4 q5
  by_cases hm : mayOf b (4, c2, c3, c4, c5, 0) 4 5 = 0
  rotate_left
  · rw [HOF.out hm]
    unfold vlV
    simp only
    have tP := Tch.alloc (fun _ => False) w3 (.cells #[.int .i64 0, .int .i64 0] 39)
    have tM := Tch.alloc (fun _ => False) (w3.alloc (.cells #[.int .i64 0, .int .i64 0] 39)) (.cells #[.int .i64 0, .int .i64 0] 39)
    have bP := (Blk.new w3 39 #[.int .i64 0, .int .i64 0]).keep tM id
    have bM := Blk.new2 w3 (.cells #[.int .i64 0, .int .i64 0] 39) 39 #[.int .i64 0, .int .i64 0]
    have tPM := tP.trans tM
    have hszM : ((w3.alloc (.cells #[.int .i64 0, .int .i64 0] 39)).alloc (.cells #[.int .i64 0, .int .i64 0] 39)).heap.size = w3.heap.size + 2 := by simp
    clear tP tM
    go_wp2_with (refine wpList_store_blk rfl _ _ _ rfl w3.heap.size #[.int .i64 0, .int .i64 0] (by rfl) (by rfl) bP (by kernel_rfl) rfl (by simp [Value.oneCell']) ?_; refine Hid.out ?_)
    refine Lib.hid ?_
    intro w4 bP4 ts4
    generalize (w3.alloc (.cells #[.int .i64 0, .int .i64 0] 39)).alloc _ = W3 at *
    generalize hyw : w3.heap.size = y at *
    have HYW := Lib.hid hyw
    clear hyw
    have bM4 := bM.keep ts4 (by omega)
    go_wp2_with (refine wpList_store_blk rfl _ _ _ rfl (y + 1) #[.int .i64 0, .int .i64 0] (by rfl) (by rfl) bM4 (by kernel_rfl) rfl (by simp [Value.oneCell']) ?_; refine Hid.out ?_)
    refine Lib.hid ?_
    intro w5 bM5 ts5
    have bP5 := bP4.keep ts5 (by omega)
    have t35 := (tPM.trans' (F' := fun g => g = y) ts4 (fun i hi => .inr (by have hi : i = y := hi; have := HYW.out; omega))).trans' (F' := fun g => g = y + 1) ts5 (fun i hi => .inr (by have hi : i = y + 1 := hi; have := HYW.out; omega))
    have tt5 := Lib.hid ((tt2.trans t3).trans t35)
    clear bP bM bM4 bP4 ts4 ts5 tPM
    clear bP5 bM5 HON HOF HPB hm
    go_wp2_with fail
    refine (awake35_any _).mono ?_
    rintro _ w9 ⟨rfl, t9⟩
    go_wp2
    go_ret
    exact ⟨rfl, tt5.out.trans t9⟩
  rw [HON.out hm]
  clear HON HOF hm
  generalize splitPart b (4, c2, c3, c4, c5, 0) = sp at *
  have hin := part_in (x := x) HPB.out.1 HPB.out.2
  have h64s := rest_part HPB.out.1 HPB.out.2 hx
  generalize hPe : partOf sp x = P at *
  generalize hMe : x - P = M at *
  have HMX := Lib.hid (show P + M = x by omega)
  have HP64 := Lib.hid h64s.1
  have HM64 := Lib.hid h64s.2
  have HIN := Lib.hid (show (0 ≤ x → 0 ≤ P ∧ 0 ≤ M) ∧ (x ≤ 0 → P ≤ 0 ∧ M ≤ 0) from ⟨fun h => by have := hin.1 h; omega, fun h => by have := hin.2 h; omega⟩)
  have HX := Lib.hid hx
  clear hin h64s hPe hMe HPB hx
  unfold vlV
  simp only
  have tP := Tch.alloc (fun _ => False) w3 (.cells #[.int .i64 0, .int .i64 0] 39)
  have tM := Tch.alloc (fun _ => False) (w3.alloc (.cells #[.int .i64 0, .int .i64 0] 39)) (.cells #[.int .i64 0, .int .i64 0] 39)
  have bP := (Blk.new w3 39 #[.int .i64 0, .int .i64 0]).keep tM id
  have bM := Blk.new2 w3 (.cells #[.int .i64 0, .int .i64 0] 39) 39 #[.int .i64 0, .int .i64 0]
  have tPM := tP.trans tM
  have hszM : ((w3.alloc (.cells #[.int .i64 0, .int .i64 0] 39)).alloc (.cells #[.int .i64 0, .int .i64 0] 39)).heap.size = w3.heap.size + 2 := by simp
  clear tP tM
  go_wp2_with (refine wpList_store_blk rfl _ _ _ rfl w3.heap.size #[.int .i64 P, .int .i64 0] (by rfl) (by rfl) bP (by kernel_rfl) rfl (by simp [Value.oneCell']) ?_; refine Hid.out ?_)
  refine Lib.hid ?_
  intro w4 bP4 ts4
  generalize (w3.alloc (.cells #[.int .i64 0, .int .i64 0] 39)).alloc _ = W3 at *
  generalize hyw : w3.heap.size = y at *
  have HYW := Lib.hid hyw
  clear hyw
  have bM4 := bM.keep ts4 (by omega)
  go_wp2_with (refine wpList_store_blk rfl _ _ _ rfl (y + 1) #[.int .i64 M, .int .i64 0] (by rfl) (by rfl) bM4 (by kernel_rfl) rfl (by simp [Value.oneCell']) ?_; refine Hid.out ?_)
  refine Lib.hid ?_
  intro w5 bM5 ts5
  have bP5 := bP4.keep ts5 (by omega)
  have t35 := (tPM.trans' (F' := fun g => g = y) ts4 (fun i hi => .inr (by have hi : i = y := hi; have := HYW.out; omega))).trans' (F' := fun g => g = y + 1) ts5 (fun i hi => .inr (by have hi : i = y + 1 := hi; have := HYW.out; omega))
  have tt5 := Lib.hid ((tt2.trans t3).trans t35)
  clear bP bM bM4 bP4 ts4 ts5 tPM
  have p0 := within_cell (F := fun _ => False) (show w5.cell? ⟨y, 0, none⟩ = some (.int .i64 P) from bP5.cell 0) id
  have m0 := within_cell (F := fun _ => False) (show w5.cell? ⟨y + 1, 0, none⟩ = some (.int .i64 M) from bM5.cell 0) id
  have HO1 := Lib.hid (fun (w' : World) => of_any (w := w') (B := fun _ => True) (x := P) HP64.out.1 HP64.out.2 (fun g hg => trivial))
  have HO2 := Lib.hid (fun (w' : World) => of_any (w := w') (B := fun _ => True) (x := M) HM64.out.1 HM64.out.2 (fun g hg => trivial))
  have HPL := Lib.hid (fun (w' : World) (u v : Value) (h1 : BigIs (fun _ => True) w' u P) (h2 : BigIs (fun _ => True) w' v M) => plus_any h1 h2 (dg_fits (by have := HP64.out; unfold I64 at this; omega)) (dg_fits (by have := HM64.out; unfold I64 at this; omega)) (fun g hg => trivial))
  have HI := Lib.hid (fun (w' : World) (u : Value) (h1 : BigIs (fun _ => True) w' u x) => int_any h1 (dg_fits (by have := HX.out; unfold I64 at this; omega)) (fun g hg => trivial))
  rw [HMX.out] at HPL
  rw [show asInt x = .tuple #[.int .i64 x, .bool true] from if_pos HX.out] at HI
  obtain ⟨V1, hV1⟩ : ∃ V : Value → World → Prop, V = fun d w' => BigIs (fun _ => True) w' d P := ⟨_, rfl⟩
  obtain ⟨V2, hV2⟩ : ∃ V : Value → World → Prop, V = fun d w' => BigIs (fun _ => True) w' d M := ⟨_, rfl⟩
  obtain ⟨V3, hV3⟩ : ∃ V : Value → World → Prop, V = fun d w' => BigIs (fun _ => True) w' d x := ⟨_, rfl⟩
  have HV1 := Lib.hid hV1
  have HV2 := Lib.hid hV2
  have HV3 := Lib.hid hV3
  clear hV1 hV2 hV3
  go_wp2_with fail
  refine wp_region_touch (fun _ => False) [] 12 [(2, .inr V1), (5, .inr V2), (6, .inr V3), (7, .inl (.tuple #[.int .i64 x, .bool true]))] [] (by kernel_rfl) rfl (by kernel_rfl) rfl (fun d _ _ _ _ h => by cases d <;> exact h) ?_ ?_
  · rw [HV1.out, HV2.out, HV3.out]
    exact ⟨fun u a b hr h => h.beside hr (fun _ _ => id), fun u a b hr h => h.beside hr (fun _ _ => id), fun u a b hr h => h.beside hr (fun _ _ => id), trivial⟩
  intro bef ops hbef hops
  have hb1 : (bef.getD 6 0).testBit 2 = true := by rw [hbef]; kernel_rfl
  have hb2 : (bef.getD 6 0).testBit 5 = true := by rw [hbef]; kernel_rfl
  have hb3 : (bef.getD 7 0).testBit 6 = true := by rw [hbef]; kernel_rfl
  clear hbef
  subst hops
  simp only [List.take_succ_cons, List.take_zero, List.drop_succ_cons, List.drop_zero]
  iterate 2 (refine t_det (by rfl) (by rfl) (by rfl) (by rfl) (fun K hK => ?_); go_big_quiet_op; (first | refine hK _ ?_ | refine ⟨_, fun _ => rfl, hK _ ?_⟩); clear hK K; (try simp only [Act.put, List.setIfInBounds_toArray, List.set_cons_succ, List.set_cons_zero]))
  refine t_loose (by rfl) (by rfl) (fun wa hr hf => ?_) (fun d1 => ?_)
  · refine yields_of_wp (d := 44) rfl (by simp) (fun K hK => ?_)
    go_step
    refine (HO1.out wa).mono ?_
    rintro _ wb ⟨v', rfl, ho, t2⟩
    refine hK _ _ ⟨⟨?_, t2⟩, newAt_no⟩
    rw [HV1.out]
    exact ho
  simp only [Act.put, List.setIfInBounds_toArray, List.set_cons_succ, List.set_cons_zero]
  iterate 2 (refine t_det (by rfl) (by rfl) (by rfl) (by rfl) (fun K hK => ?_); go_big_quiet_op; (first | refine hK _ ?_ | refine ⟨_, fun _ => rfl, hK _ ?_⟩); clear hK K; (try simp only [Act.put, List.setIfInBounds_toArray, List.set_cons_succ, List.set_cons_zero]))
  refine t_loose (by rfl) (by rfl) (fun wa hr hf => ?_) (fun d2 => ?_)
  · refine yields_of_wp (d := 47) rfl (by simp) (fun K hK => ?_)
    go_step
    refine (HO2.out wa).mono ?_
    rintro _ wb ⟨v', rfl, ho, t2⟩
    refine hK _ _ ⟨⟨?_, t2⟩, newAt_no⟩
    rw [HV2.out]
    exact ho
  simp only [Act.put, List.setIfInBounds_toArray, List.set_cons_succ, List.set_cons_zero]
  refine t_loose (by rfl) (by rfl) (fun wa hr hf => ?_) (fun d3 => ?_)
  · have hv1 := hf (2, fun w' => V1 d1 w') (by simp) hb1
    have hv2 := hf (5, fun w' => V2 d2 w') (by simp) hb2
    simp only at hv1 hv2
    rw [HV1.out] at hv1
    rw [HV2.out] at hv2
    refine yields_of_wp (d := 48) rfl (by simp) (fun K hK => ?_)
    go_step
    refine (HPL.out wa _ _ hv1 hv2).mono ?_
    rintro _ wb ⟨v', rfl, ho, t2⟩
    refine hK _ _ ⟨⟨?_, t2⟩, newAt_no⟩
    rw [HV3.out]
    exact ho
  simp only [Act.put, List.setIfInBounds_toArray, List.set_cons_succ, List.set_cons_zero]
  refine t_fix (.tuple #[.int .i64 x, .bool true]) (by rfl) (by rfl) (fun wa hr hf => ?_) ?_
  · have hv3 := hf (6, fun w' => V3 d3 w') (by simp) hb3
    simp only at hv3
    rw [HV3.out] at hv3
    refine yields_of_wp (d := 49) rfl (by simp) (fun K hK => ?_)
    go_step
    refine (HI.out wa _ hv3).mono ?_
    rintro _ wb ⟨rfl, t2⟩
    exact hK _ _ ⟨⟨rfl, t2⟩, newAt_no⟩
  simp only [Act.put, List.setIfInBounds_toArray, List.set_cons_succ, List.set_cons_zero]
  iterate 4 (refine t_det (by rfl) (by rfl) (by rfl) (by rfl) (fun K hK => ?_); go_big_quiet_op; (first | refine hK _ ?_ | refine ⟨_, fun _ => rfl, hK _ ?_⟩); clear hK K; (try simp only [Act.put, List.setIfInBounds_toArray, List.set_cons_succ, List.set_cons_zero]))
  refine t_nil ?_
  intro wa hr hp9 hap
  have t6 := (Tch.drew (fun _ => False) w5).trans hr
  have bP6 := bP5.keep t6 id
  have bM6 := bM5.keep t6 id
  have tt6 := Lib.hid (tt5.out.trans t6)
  clear hap hp9 hr bP5 bM5 tt5 t6 p0 m0 hb1 hb2 hb3 HV1 HV2 HV3 HO1 HO2 HPL HI
  have e0 : wa.cell? ⟨y, 0, none⟩ = some (.int .i64 P) := bP6.cell 0
  have e1 : wa.cell? ⟨y, 1, none⟩ = some (.int .i64 0) := bP6.cell 1
  have f0 : wa.cell? ⟨y + 1, 0, none⟩ = some (.int .i64 M) := bM6.cell 0
  have f1 : wa.cell? ⟨y + 1, 1, none⟩ = some (.int .i64 0) := bM6.cell 1
  clear bP6 bM6 HMX HP64 HM64 HX
  rcases (by omega : x < 0 ∨ x = 0 ∨ 0 < x) with hx1 | hx1 | hx1
  · obtain ⟨g1, g2⟩ := HIN.out.2 (by omega)
    have hx2 : ¬ 0 < x := by omega
    go_wp2_with fail
    refine (awake35_any _).mono ?_
    rintro _ w9 ⟨rfl, t9⟩
    go_wp2
    go_ret
    exact ⟨rfl, tt6.out.trans t9⟩
  · obtain ⟨g1, g2⟩ := HIN.out.1 (by omega)
    obtain ⟨g3, g4⟩ := HIN.out.2 (by omega)
    obtain rfl : P = 0 := by omega
    obtain rfl : M = 0 := by omega
    subst hx1
    clear g1 g2 g3 g4 HIN
    go_wp2_with fail
    refine (awake35_any _).mono ?_
    rintro _ w9 ⟨rfl, t9⟩
    go_wp2
    go_ret
    exact ⟨rfl, tt6.out.trans t9⟩
  · obtain ⟨g1, g2⟩ := HIN.out.1 (by omega)
    have hx2 : ¬ x < 0 := by omega
    go_wp2_with fail
    refine (awake35_any _).mono ?_
    rintro _ w9 ⟨rfl, t9⟩
    go_wp2
    go_ret
    exact ⟨rfl, tt6.out.trans t9⟩
theorem splitparts_row {w : World} {u v : Value} {x : Int} (hu : ∃ b, BooksIs (fun _ => True) w u b ∧ Bks64 b) (hv : ∃ c : Rt6, v = cellV c ∧ (I64 c.1 ∧ I64 c.2.1 ∧ I64 c.2.2.1 ∧ I64 c.2.2.2.1 ∧ I64 c.2.2.2.2.1 ∧ I64 c.2.2.2.2.2)) (hx : I64 x) :
    Calls Tryz.prog 6 #[u, v, .int .i64 x] w fun x w' => x = .returned (.bool true) ∧ Tch (fun _ => False) w w' := by
  obtain ⟨b, hb, h64⟩ := hu
  obtain ⟨⟨c1, c2, c3, c4, c5, c6⟩, rfl, _⟩ := hv
  obtain ⟨e, a, s, r, l, n, us, rfl, h⟩ := hb.at
  exact splitparts_any h h64 c1 c2 c3 c4 c5 c6 x hx
end Go.Proofs.YtifdnhghjgklkaaGreat
