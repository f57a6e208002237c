/-
  TransKinds: the walk.
-/
import Derived.Test.YtpgapicogdickaaGreatDoorAw
import Derived.Test.YtpgapicogdickaaGreatDoorZ24
import Derived.Test.YtpgapicogdickaaGreatDoorVsm
namespace Go.Proofs.YtpgapicogdickaaGreatDoor
open Go.RowKit Go.Gk

set_option maxRecDepth 100000 in
set_option maxHeartbeats 25600000 in
theorem transkinds_any {w : World} {e a s r l n : Value} {b : Bks} {us : List (Ent × Value)} (h : BksAt w e a s r l n b us) (h64 : Bks64 b) (hT : Tab64 1 w) (c1 c2 c3 c4 c5 c6 : Int) :
    Calls Tryz.prog 4 #[.agg #[e, a, s, r, l, n], .agg #[.int .i64 c1, .int .i64 c2, .int .i64 c3, .int .i64 c4, .int .i64 c5, .int .i64 c6]] w fun x w' => x = .returned (.bool true) ∧ Tch (fun _ => False) w w' := by
  have HTA := Lib.hid (fun w' (t9 : Tch (fun _ => False) w w') => hT.keep t9)
  clear hT
  have ta := Tch.alloc (fun _ => False) w (.cells #[e, a, s, r, l, n] 29)
  have tb := Tch.alloc (fun _ => False) (w.alloc (.cells #[e, a, s, r, l, n] 29)) (.cells #[.int .i64 c1, .int .i64 c2, .int .i64 c3, .int .i64 c4, .int .i64 c5, .int .i64 c6] 31)
  have tw := ta.trans tb
  have hbB := (Blk.new w 29 #[e, a, s, r, l, n]).keep tb id
  have hbC := Blk.new2 w (.cells #[e, a, s, r, l, n] 29) 31 #[.int .i64 c1, .int .i64 c2, .int .i64 c3, .int .i64 c4, .int .i64 c5, .int .i64 c6]
  have HF := Lib.hid (few26_any (h.keep tw))
  have HW := Lib.hid (h.keep tw)
  have hsz : ((w.alloc (.cells #[e, a, s, r, l, n] 29)).alloc (.cells #[.int .i64 c1, .int .i64 c2, .int .i64 c3, .int .i64 c4, .int .i64 c5, .int .i64 c6] 31)).heap.size = w.heap.size + 2 := by simp
  obtain ⟨Ae, ce, rfl, _, _⟩ := h.ents.form
  obtain ⟨Aa, ca, rfl, _, _⟩ := h.accs.form
  obtain ⟨As, cs, rfl, _, _⟩ := h.stakes.form
  obtain ⟨Ar, cr, rfl, _, _⟩ := h.rates.form
  obtain ⟨Al, cl, rfl, _, _⟩ := h.locks.form
  obtain ⟨An, cn, rfl, _, _⟩ := h.ent.row.form
  clear ta tb h
  obtain ⟨fw, hfw⟩ : ∃ fw, few26 b = fw := ⟨_, rfl⟩
  rw [hfw] at HF
  go_enter Tryz.func4, Tryz.ntmps4
  go_wp2_with fail
  generalize (w.alloc (.cells #[.slice Ae b.ents.length ce, .slice Aa b.accs.length ca, .slice As b.stakes.length cs, .slice Ar b.rates.length cr, .slice Al b.locks.length cl, .slice An us.length cn] 29)).alloc (.cells #[.int .i64 c1, .int .i64 c2, .int .i64 c3, .int .i64 c4, .int .i64 c5, .int .i64 c6] 31) = W at *
  generalize hzw : w.heap.size = z at *
  have HZW := Lib.hid hzw
  clear hzw
  refine HF.out.mono ?_
  rintro _ w1 ⟨rfl, t1⟩
  clear HF
  have tt1 := tw.trans t1
  have hx1 := hbC.keep t1 id
  have w3c : w1.cell? ⟨z + 1, 3, none⟩ = some (.int .i64 c4) := hx1.cell 3
  cases fw
  · clear hfw w3c
    go_wp2_with fail
    refine (awake32_any w1 (HTA.out w1 tt1)).mono ?_
    rintro _ w2 ⟨rfl, t2⟩
    go_wp2
    go_ret
    exact ⟨rfl, tt1.trans t2⟩
  by_cases h5 : c4 > 5
  · have h5' : (5 : Int) < c4 := h5
    clear hfw
    go_wp2_with fail
    refine (awake32_any _ (HTA.out _ tt1)).mono ?_
    rintro _ wz ⟨rfl, tz⟩
    go_wp2
    go_ret
    exact ⟨rfl, tt1.trans tz⟩
  have h5' : ¬ (5 : Int) < c4 := h5
  have hfew := few26_few hfw
  have hB1 := hbB.keep t1 id
  have hC1 := hbC.keep t1 id
  have h1 := HW.out.keep t1
  have hk1 : z + 2 ≤ w1.heap.size := by have := t1.size; omega
  clear hbB hbC HW tw t1 hfw hsz hx1
  have g0 : w1.cell? ⟨z, 0, none⟩ = some (.slice Ae b.ents.length ce) := hB1.cell 0
  have g1 : w1.cell? ⟨z, 1, none⟩ = some (.slice Aa b.accs.length ca) := hB1.cell 1
  have g2 : w1.cell? ⟨z, 2, none⟩ = some (.slice As b.stakes.length cs) := hB1.cell 2
  have g3 : w1.cell? ⟨z, 3, none⟩ = some (.slice Ar b.rates.length cr) := hB1.cell 3
  have g4 : w1.cell? ⟨z, 4, none⟩ = some (.slice Al b.locks.length cl) := hB1.cell 4
  have g5 : w1.cell? ⟨z, 5, none⟩ = some (.slice An us.length cn) := hB1.cell 5
  go_wp2_with fail
  refine (see_far h1 hfew h64).mono ?_
  rintro _ w2 ⟨hsee, t2⟩
  have tt2 := tt1.trans t2
  rcases hsee with ⟨_, m, rfl, hm⟩ | ⟨hok, bv, bi, B, t, mr, mp, e', a', s', r', l', n', lv, fs, us', rfl, hV, hFar⟩
  · have hm2 : (m != 0) = true := by simpa using hm
    clear g0 g1 g2 g3 g4 g5 hm
    go_wp2_with fail
    refine (awake32_any w2 (HTA.out w2 tt2)).mono ?_
    rintro _ w3 ⟨rfl, t3⟩
    go_wp2
    go_ret
    exact ⟨rfl, tt2.trans t3⟩
  have hk5 : z + 2 ≤ w2.heap.size := Nat.le_trans hk1 t2.size
  have hC2 := hC1.keep t2 id
  clear g0 g1 g2 g3 g4 g5 hB1 hC1 h1 tt1 t2 h5 h5' w3c
  have hn := leaves_few hfew
  obtain ⟨h40, h400, hstk⟩ := ok_stakes hok
  have hrl : b.rates.length ≤ 1000000 := by have := hfew.rates; omega
  clear hfew h64 hok h40 h400 hstk
  have s2 : w2.cell? ⟨z + 1, 2, none⟩ = some (.int .i64 c3) := hC2.cell 2
  by_cases h31 : c3 = 1
  · have h31b : (c3 == 1) = true := by simpa using h31
    clear h31 hV hFar
    go_wp2_with fail
    refine (awake32_any _ (HTA.out _ tt2)).mono ?_
    rintro _ wz ⟨rfl, tz⟩
    go_wp2
    go_ret
    exact ⟨rfl, tt2.trans tz⟩
  have h31b : (c3 == 1) = false := by simpa using h31
  go_wp2_with (refine wpList_store_cell rfl _ _ _ rfl (z + 1) 0 (.int .i64 3) (by rfl) (by rfl) rfl (by rfl) hC2 (by simp) ?_; refine Hid.out ?_)
  refine Lib.hid ?_
  intro w5 hC5 ts3
  (try simp only [List.setIfInBounds_toArray, List.set_cons_succ, List.set_cons_zero] at hC5)
  have hz5 : z + 2 ≤ w5.heap.size := by have := ts3.size; have := hk5; omega
  have tt5 := tt2.trans' ts3 (fun i hi => .inr (by have hi : i = z + 1 := hi; have := HZW.out; omega))
  obtain ⟨us5, hV5⟩ := hFar.view hV ts3 (fun g hg => by have hg : g = z + 1 := hg; omega)
  have HTR := Lib.hid (transrec_any hV5 hn hrl (HTA.out _ tt5) 3 c2 c3 c4 c5 c6)
  have HTO := Lib.hid (show transOf b (3, c2, c3, c4, c5, c6) = if mayOf b (3, c2, c3, c4, c5, c6) 3 3 = 0 then (transRcp b (3, c2, c3, c4, c5, c6), 0) else (Rcp.none, mayOf b (3, c2, c3, c4, c5, c6) 3 3) from rfl)
  have HFA := Lib.hid (fun h => may_facts (b := b) (c := (3, c2, c3, c4, c5, c6)) (lo := 3) (hi := 3) h)
  have q0 : w5.cell? ⟨z + 1, 0, none⟩ = some (.int .i64 3) := hC5.cell 0
  have q1 : w5.cell? ⟨z + 1, 1, none⟩ = some (.int .i64 c2) := hC5.cell 1
  have q2 : w5.cell? ⟨z + 1, 2, none⟩ = some (.int .i64 c3) := hC5.cell 2
  have q3 : w5.cell? ⟨z + 1, 3, none⟩ = some (.int .i64 c4) := hC5.cell 3
  have q4 : w5.cell? ⟨z + 1, 4, none⟩ = some (.int .i64 c5) := hC5.cell 4
  have q5 : w5.cell? ⟨z + 1, 5, none⟩ = some (.int .i64 c6) := hC5.cell 5
  clear s2 hC2 ts3 tt2 hV hFar
  go_wp2_with fail
  refine HTR.out.mono ?_
  rintro _ w6 ⟨v1, rfl, hr1, t6⟩
  have hC6 := hC5.keep t6 id
  have hV6 := hV5.keep t6
  have tt6 := tt5.trans t6
  clear q0 q1 q2 q3 q4 q5 hC5 hV5 tt5 t6 HTR
  generalize mayOf b (3, c2, c3, c4, c5, c6) 3 3 = m at *
  rw [HTO.out] at hr1 ⊢
  by_cases hm : m = 0
  rotate_left
  · rw [if_neg hm] at hr1 ⊢
    have hm2 : (m != 0) = true := by simpa using hm
    simp only at hr1 ⊢
    obtain ⟨p1, m1, rfl, hp1, hm1⟩ := hr1
    obtain ⟨P1, k1, rfl, _, _⟩ := hp1.form
    obtain ⟨M1, d1, rfl, _, _⟩ := hm1.form
    unfold rcpV Rcp.none
    simp only [List.length_nil]
    clear hp1 hm1 hm HFA HTO
    have tA := Tch.alloc (fun _ => False) w6 (.cells #[.int .i64 0, .int .i64 0, .slice P1 0 k1, .slice M1 0 d1, .int .i64 0, .int .i64 0, .int .i64 0, .int .i64 0, .int .i64 0, .int .i64 0, .bool false, .int .i64 0, .int .i64 0, .bool false] 46)
    have tE := tt6.trans tA
    have hC7 := hC6.keep tA id
    have HCU := Lib.hid (vwcurrency_any (hV6.keep tA) c2)
    have HAC := Lib.hid (vwaccount_some (hV6.keep tA) c3)
    have x1 : (w6.alloc (.cells #[.int .i64 0, .int .i64 0, .slice P1 0 k1, .slice M1 0 d1, .int .i64 0, .int .i64 0, .int .i64 0, .int .i64 0, .int .i64 0, .int .i64 0, .bool false, .int .i64 0, .int .i64 0, .bool false] 46)).cell? ⟨z + 1, 1, none⟩ = some (.int .i64 c2) := hC7.cell 1
    have x2 : (w6.alloc (.cells #[.int .i64 0, .int .i64 0, .slice P1 0 k1, .slice M1 0 d1, .int .i64 0, .int .i64 0, .int .i64 0, .int .i64 0, .int .i64 0, .int .i64 0, .bool false, .int .i64 0, .int .i64 0, .bool false] 46)).cell? ⟨z + 1, 2, none⟩ = some (.int .i64 c3) := hC7.cell 2
    clear hC6 hC7 hV6 tA tt6
    go_wp2_with fail
    generalize w6.alloc _ = W6 at *
    generalize w6.heap.size = y6 at *
    refine HCU.out.mono ?_
    rintro _ _ ⟨rfl, rfl⟩
    clear HCU
    go_wp2_with fail
    refine HAC.out.mono ?_
    rintro _ w7 ⟨ai, aj, ap, aq, is, rfl, t7, _⟩
    have tF := (tE.trans t7).trans (Tch.alloc (fun _ => False) w7 (.cells #[.int .i64 ai, .int .i64 aj, .bool ap, .bool aq] 58))
    clear HAC x1 x2 tE t7
    go_wp2_with fail
    refine (awake32_any _ (HTA.out _ tF)).mono ?_
    rintro _ wz ⟨rfl, tz⟩
    go_wp2
    go_ret
    exact ⟨rfl, tF.trans tz⟩
  rw [if_pos hm] at hr1 ⊢
  obtain ⟨_, ⟨hp0, hp1⟩, _, hlf⟩ := HFA.out hm
  have hlf : accLeaf b.accs c3 = true := hlf
  have HC4 := Lib.hid (show (0 : Int) ≤ c4 from hp0)
  obtain ⟨k, hk, hkx, hka⟩ := accIs_at hlf
  have hkd : kindOf b c3 = b.accs[k].2.1 := by unfold kindOf; rw [hka]; rfl
  have HRC := Lib.hid (show transRcp b (3, c2, c3, c4, c5, c6) = if curOf b c2 = c5 then { Rcp.none with plus := [(2, c2, c3, c4, 0, c6)] } else { Rcp.none with plus := if kindOf b c3 ≠ 1 ∧ 0 < c4 then [(3, c2, c3, c4 - 1, c5, c6)] else [], scaled := (if kindOf b c3 = 1 then 2 else 1, c2, c3, c4, 0, c6), rated := true, ratio := (rateOf b.rates (curOf b c2) c5 (kindOf b c3) c4).1, has := (rateOf b.rates (curOf b c2) c5 (kindOf b c3) c4).2 } from by unfold transRcp; simp only; rw [if_neg h31])
  rw [hkd] at HRC
  have HCA := Lib.hid (fun w' (t9 : Tch (fun _ => False) w6 w') => vwaccount_any (hV6.keep t9) hk c3 hkx)
  have HCC := Lib.hid (fun w' (t9 : Tch (fun _ => False) w6 w') => vwcurrency_any (hV6.keep t9) c2)
  have HVR := Lib.hid (fun w' (t9 : Tch (fun _ => False) w6 w') => vwrate_any (hV6.keep t9) hrl (HTA.out w' (tt6.trans t9)) (curOf b c2) c5 b.accs[k].2.1 c4)
  generalize curOf b c2 = cu at *
  generalize b.accs[k] = ac at *
  obtain ⟨a1, kd, a3, a4⟩ := ac
  simp only at HRC HVR
  unfold acc4 at HCA
  simp only at HCA
  subst hm
  simp only at hr1 ⊢
  rw [HRC.out] at hr1
  clear hp0 hp1 hlf hkx hka hkd HFA HTO hV6 HRC h31 hk
  by_cases hcu : cu = c5
  · have hcb : (cu == c5) = true := by simpa using hcu
    rw [if_pos hcu] at hr1
    clear hcu HVR HC4
    obtain ⟨p1, m1, rfl, hp1, hm1⟩ := hr1
    obtain ⟨P1, k1, rfl, _, _⟩ := hp1.form
    obtain ⟨M1, d1, rfl, _, _⟩ := hm1.form
    unfold rcpV Rcp.none
    simp only [List.length_nil, List.length_cons, Nat.zero_add]
    clear hp1 hm1
    have tA := Tch.alloc (fun _ => False) w6 (.cells #[.int .i64 0, .int .i64 0, .slice P1 1 k1, .slice M1 0 d1, .int .i64 0, .int .i64 0, .int .i64 0, .int .i64 0, .int .i64 0, .int .i64 0, .bool false, .int .i64 0, .int .i64 0, .bool false] 46)
    have hC7 := hC6.keep tA id
    have x1 : (w6.alloc (.cells #[.int .i64 0, .int .i64 0, .slice P1 1 k1, .slice M1 0 d1, .int .i64 0, .int .i64 0, .int .i64 0, .int .i64 0, .int .i64 0, .int .i64 0, .bool false, .int .i64 0, .int .i64 0, .bool false] 46)).cell? ⟨z + 1, 1, none⟩ = some (.int .i64 c2) := hC7.cell 1
    have x2 : (w6.alloc (.cells #[.int .i64 0, .int .i64 0, .slice P1 1 k1, .slice M1 0 d1, .int .i64 0, .int .i64 0, .int .i64 0, .int .i64 0, .int .i64 0, .int .i64 0, .bool false, .int .i64 0, .int .i64 0, .bool false] 46)).cell? ⟨z + 1, 2, none⟩ = some (.int .i64 c3) := hC7.cell 2
    have HCU := Lib.hid (HCC.out _ tA)
    have HAC := Lib.hid (HCA.out _ tA)
    have tE := tt6.trans tA
    clear HCC HCA tA hC6 tt6
    go_wp2_with fail
    generalize w6.alloc _ = W6 at *
    generalize w6.heap.size = y6 at *
    refine HCU.out.mono ?_
    rintro _ _ ⟨rfl, rfl⟩
    clear HCU
    go_wp2_with fail
    refine HAC.out.mono ?_
    rintro _ w7 ⟨rfl, t7⟩
    have tB := Tch.alloc (fun _ => False) w7 (.cells #[.int .i64 a1, .int .i64 kd, .bool a3, .bool a4] 58)
    have tF := (tE.trans t7).trans tB
    have x4 : (w7.alloc (.cells #[.int .i64 a1, .int .i64 kd, .bool a3, .bool a4] 58)).cell? ⟨z + 1, 4, none⟩ = some (.int .i64 c5) := ((hC7.keep t7 id).keep tB id).cell 4
    clear HAC x1 x2 tE t7 hC7 tB
    go_wp2_with fail
    refine (awake32_any _ (HTA.out _ tF)).mono ?_
    rintro _ wz ⟨rfl, tz⟩
    go_wp2
    go_ret
    exact ⟨rfl, tF.trans tz⟩
  have hcb : (cu == c5) = false := by simpa using hcu
  rw [if_neg hcu] at hr1
  clear hcu
  generalize rateOf b.rates cu c5 kd c4 = RT at *
  obtain ⟨⟨q1, q2⟩, q3⟩ := RT
  simp only at HVR hr1 ⊢
  have hcmp : ∀ w' : World, (binOp .neq 42 (.agg #[.int .i64 q1, .int .i64 q2]) (.agg #[.int .i64 q1, .int .i64 q2])).run Tryz.prog w' = .ok (.bool false) w' := fun w' => by rw [run_ne_Ratio]; simp
  have hqq : (q3 != q3) = false := by simp
  by_cases hkd : kd = 1
  · subst hkd
    rw [if_pos rfl, if_neg (fun h => h.1 rfl)] at hr1
    clear HC4
    obtain ⟨p1, m1, rfl, hp1, hm1⟩ := hr1
    obtain ⟨P1, k1, rfl, _, _⟩ := hp1.form
    obtain ⟨M1, d1, rfl, _, _⟩ := hm1.form
    unfold rcpV Rcp.none
    simp only [List.length_nil]
    clear hp1 hm1
    have tA := Tch.alloc (fun _ => False) w6 (.cells #[.int .i64 0, .int .i64 0, .slice P1 0 k1, .slice M1 0 d1, .int .i64 2, .int .i64 c2, .int .i64 c3, .int .i64 c4, .int .i64 0, .int .i64 c6, .bool true, .int .i64 q1, .int .i64 q2, .bool q3] 46)
    have hX7 := Blk.new w6 46 #[.int .i64 0, .int .i64 0, .slice P1 0 k1, .slice M1 0 d1, .int .i64 2, .int .i64 c2, .int .i64 c3, .int .i64 c4, .int .i64 0, .int .i64 c6, .bool true, .int .i64 q1, .int .i64 q2, .bool q3]
    have hC7 := hC6.keep tA id
    have x1 : (w6.alloc (.cells #[.int .i64 0, .int .i64 0, .slice P1 0 k1, .slice M1 0 d1, .int .i64 2, .int .i64 c2, .int .i64 c3, .int .i64 c4, .int .i64 0, .int .i64 c6, .bool true, .int .i64 q1, .int .i64 q2, .bool q3] 46)).cell? ⟨z + 1, 1, none⟩ = some (.int .i64 c2) := hC7.cell 1
    have x2 : (w6.alloc (.cells #[.int .i64 0, .int .i64 0, .slice P1 0 k1, .slice M1 0 d1, .int .i64 2, .int .i64 c2, .int .i64 c3, .int .i64 c4, .int .i64 0, .int .i64 c6, .bool true, .int .i64 q1, .int .i64 q2, .bool q3] 46)).cell? ⟨z + 1, 2, none⟩ = some (.int .i64 c3) := hC7.cell 2
    have HCU := Lib.hid (HCC.out _ tA)
    have HAC := Lib.hid (HCA.out _ tA)
    have HVR2 := Lib.hid (fun w' (t9 : Tch (fun _ => False) (w6.alloc (.cells #[.int .i64 0, .int .i64 0, .slice P1 0 k1, .slice M1 0 d1, .int .i64 2, .int .i64 c2, .int .i64 c3, .int .i64 c4, .int .i64 0, .int .i64 c6, .bool true, .int .i64 q1, .int .i64 q2, .bool q3] 46)) w') => HVR.out w' (tA.trans t9))
    have tE := tt6.trans tA
    clear HCC HCA tA hC6 tt6 HVR
    go_wp2_with fail
    generalize w6.alloc _ = W6 at *
    generalize w6.heap.size = y6 at *
    refine HCU.out.mono ?_
    rintro _ _ ⟨rfl, rfl⟩
    clear HCU
    go_wp2_with fail
    refine HAC.out.mono ?_
    rintro _ w7 ⟨rfl, t7⟩
    have tB := Tch.alloc (fun _ => False) w7 (.cells #[.int .i64 a1, .int .i64 1, .bool a3, .bool a4] 58)
    have bA := Blk.new w7 58 #[.int .i64 a1, .int .i64 1, .bool a3, .bool a4]
    have t7B := t7.trans tB
    have hX8 := hX7.keep t7B id
    have hC8 := hC7.keep t7B id
    have tF := tE.trans t7B
    have HV8 := Lib.hid (HVR2.out _ t7B)
    have x3 : (w7.alloc (.cells #[.int .i64 a1, .int .i64 1, .bool a3, .bool a4] 58)).cell? ⟨z + 1, 3, none⟩ = some (.int .i64 c4) := hC8.cell 3
    have x4 : (w7.alloc (.cells #[.int .i64 a1, .int .i64 1, .bool a3, .bool a4] 58)).cell? ⟨z + 1, 4, none⟩ = some (.int .i64 c5) := hC8.cell 4
    have y1 : (w7.alloc (.cells #[.int .i64 a1, .int .i64 1, .bool a3, .bool a4] 58)).cell? ⟨w7.heap.size, 1, none⟩ = some (.int .i64 1) := bA.cell 1
    clear HAC x1 x2 tE t7 hC7 tB hX7 HVR2 t7B
    go_wp2_with fail
    generalize w7.alloc _ = W7 at *
    generalize w7.heap.size = y7 at *
    refine HV8.out.mono ?_
    rintro _ w8 ⟨rfl, t8⟩
    have tC := Tch.alloc (fun _ => False) w8 (.cells #[.int .i64 q1, .int .i64 q2] 42)
    have bQ := Blk.new w8 42 #[.int .i64 q1, .int .i64 q2]
    have t8C := t8.trans tC
    have hX9 := hX8.keep t8C id
    have hC9 := hC8.keep t8C id
    have bA9 := bA.keep t8C id
    have tG := tF.trans t8C
    have r0 : (w8.alloc (.cells #[.int .i64 q1, .int .i64 q2] 42)).cell? ⟨y6, 0, none⟩ = some (.int .i64 0) := hX9.cell 0
    have r1 : (w8.alloc (.cells #[.int .i64 q1, .int .i64 q2] 42)).cell? ⟨y6, 1, none⟩ = some (.int .i64 0) := hX9.cell 1
    have r2 : (w8.alloc (.cells #[.int .i64 q1, .int .i64 q2] 42)).cell? ⟨y6, 2, none⟩ = some (.slice P1 0 k1) := hX9.cell 2
    have r3 : (w8.alloc (.cells #[.int .i64 q1, .int .i64 q2] 42)).cell? ⟨y6, 3, none⟩ = some (.slice M1 0 d1) := hX9.cell 3
    have r4 : (w8.alloc (.cells #[.int .i64 q1, .int .i64 q2] 42)).cell? ⟨y6, 4, none⟩ = some (.int .i64 2) := hX9.cell 4
    have r5 : (w8.alloc (.cells #[.int .i64 q1, .int .i64 q2] 42)).cell? ⟨y6, 5, none⟩ = some (.int .i64 c2) := hX9.cell 5
    have r6 : (w8.alloc (.cells #[.int .i64 q1, .int .i64 q2] 42)).cell? ⟨y6, 6, none⟩ = some (.int .i64 c3) := hX9.cell 6
    have r7 : (w8.alloc (.cells #[.int .i64 q1, .int .i64 q2] 42)).cell? ⟨y6, 7, none⟩ = some (.int .i64 c4) := hX9.cell 7
    have r8 : (w8.alloc (.cells #[.int .i64 q1, .int .i64 q2] 42)).cell? ⟨y6, 8, none⟩ = some (.int .i64 0) := hX9.cell 8
    have r9 : (w8.alloc (.cells #[.int .i64 q1, .int .i64 q2] 42)).cell? ⟨y6, 9, none⟩ = some (.int .i64 c6) := hX9.cell 9
    have r10 : (w8.alloc (.cells #[.int .i64 q1, .int .i64 q2] 42)).cell? ⟨y6, 10, none⟩ = some (.bool true) := hX9.cell 10
    have r11 : (w8.alloc (.cells #[.int .i64 q1, .int .i64 q2] 42)).cell? ⟨y6, 11, none⟩ = some (.int .i64 q1) := hX9.cell 11
    have r12 : (w8.alloc (.cells #[.int .i64 q1, .int .i64 q2] 42)).cell? ⟨y6, 12, none⟩ = some (.int .i64 q2) := hX9.cell 12
    have r13 : (w8.alloc (.cells #[.int .i64 q1, .int .i64 q2] 42)).cell? ⟨y6, 13, none⟩ = some (.bool q3) := hX9.cell 13
    have g0 : (w8.alloc (.cells #[.int .i64 q1, .int .i64 q2] 42)).cell? ⟨z + 1, 0, none⟩ = some (.int .i64 3) := hC9.cell 0
    have g1 : (w8.alloc (.cells #[.int .i64 q1, .int .i64 q2] 42)).cell? ⟨z + 1, 1, none⟩ = some (.int .i64 c2) := hC9.cell 1
    have g2 : (w8.alloc (.cells #[.int .i64 q1, .int .i64 q2] 42)).cell? ⟨z + 1, 2, none⟩ = some (.int .i64 c3) := hC9.cell 2
    have g3 : (w8.alloc (.cells #[.int .i64 q1, .int .i64 q2] 42)).cell? ⟨z + 1, 3, none⟩ = some (.int .i64 c4) := hC9.cell 3
    have g4 : (w8.alloc (.cells #[.int .i64 q1, .int .i64 q2] 42)).cell? ⟨z + 1, 4, none⟩ = some (.int .i64 c5) := hC9.cell 4
    have g5 : (w8.alloc (.cells #[.int .i64 q1, .int .i64 q2] 42)).cell? ⟨z + 1, 5, none⟩ = some (.int .i64 c6) := hC9.cell 5
    have b1 : (w8.alloc (.cells #[.int .i64 q1, .int .i64 q2] 42)).cell? ⟨y7, 1, none⟩ = some (.int .i64 1) := bA9.cell 1
    have m0 : (w8.alloc (.cells #[.int .i64 q1, .int .i64 q2] 42)).cell? ⟨w8.heap.size, 0, none⟩ = some (.int .i64 q1) := bQ.cell 0
    have m1 : (w8.alloc (.cells #[.int .i64 q1, .int .i64 q2] 42)).cell? ⟨w8.heap.size, 1, none⟩ = some (.int .i64 q2) := bQ.cell 1
    clear HV8 x3 x4 y1 hX8 hC8 bA bA9 hX9 hC9 bQ tF t8 tC t8C
    go_wp2_with fail
    refine (awake32_any _ (HTA.out _ tG)).mono ?_
    rintro _ wz ⟨rfl, tz⟩
    go_wp2
    go_ret
    exact ⟨rfl, tG.trans tz⟩
  have hkb : (kd == 1) = false := by simpa using hkd
  by_cases hc4 : 0 < c4
  · rw [if_neg hkd, if_pos ⟨hkd, hc4⟩] at hr1
    have hmin : min c4 1 = 1 := by omega
    clear HC4
    obtain ⟨p1, m1, rfl, hp1, hm1⟩ := hr1
    obtain ⟨P1, k1, rfl, _, _⟩ := hp1.form
    obtain ⟨M1, d1, rfl, _, _⟩ := hm1.form
    unfold rcpV Rcp.none
    simp only [List.length_nil, List.length_cons, Nat.zero_add]
    clear hp1 hm1
    have tA := Tch.alloc (fun _ => False) w6 (.cells #[.int .i64 0, .int .i64 0, .slice P1 1 k1, .slice M1 0 d1, .int .i64 1, .int .i64 c2, .int .i64 c3, .int .i64 c4, .int .i64 0, .int .i64 c6, .bool true, .int .i64 q1, .int .i64 q2, .bool q3] 46)
    have hX7 := Blk.new w6 46 #[.int .i64 0, .int .i64 0, .slice P1 1 k1, .slice M1 0 d1, .int .i64 1, .int .i64 c2, .int .i64 c3, .int .i64 c4, .int .i64 0, .int .i64 c6, .bool true, .int .i64 q1, .int .i64 q2, .bool q3]
    have hC7 := hC6.keep tA id
    have x1 : (w6.alloc (.cells #[.int .i64 0, .int .i64 0, .slice P1 1 k1, .slice M1 0 d1, .int .i64 1, .int .i64 c2, .int .i64 c3, .int .i64 c4, .int .i64 0, .int .i64 c6, .bool true, .int .i64 q1, .int .i64 q2, .bool q3] 46)).cell? ⟨z + 1, 1, none⟩ = some (.int .i64 c2) := hC7.cell 1
    have x2 : (w6.alloc (.cells #[.int .i64 0, .int .i64 0, .slice P1 1 k1, .slice M1 0 d1, .int .i64 1, .int .i64 c2, .int .i64 c3, .int .i64 c4, .int .i64 0, .int .i64 c6, .bool true, .int .i64 q1, .int .i64 q2, .bool q3] 46)).cell? ⟨z + 1, 2, none⟩ = some (.int .i64 c3) := hC7.cell 2
    have HCU := Lib.hid (HCC.out _ tA)
    have HAC := Lib.hid (HCA.out _ tA)
    have HVR2 := Lib.hid (fun w' (t9 : Tch (fun _ => False) (w6.alloc (.cells #[.int .i64 0, .int .i64 0, .slice P1 1 k1, .slice M1 0 d1, .int .i64 1, .int .i64 c2, .int .i64 c3, .int .i64 c4, .int .i64 0, .int .i64 c6, .bool true, .int .i64 q1, .int .i64 q2, .bool q3] 46)) w') => HVR.out w' (tA.trans t9))
    have tE := tt6.trans tA
    clear HCC HCA tA hC6 tt6 HVR
    go_wp2_with fail
    generalize w6.alloc _ = W6 at *
    generalize w6.heap.size = y6 at *
    refine HCU.out.mono ?_
    rintro _ _ ⟨rfl, rfl⟩
    clear HCU
    go_wp2_with fail
    refine HAC.out.mono ?_
    rintro _ w7 ⟨rfl, t7⟩
    have tB := Tch.alloc (fun _ => False) w7 (.cells #[.int .i64 a1, .int .i64 kd, .bool a3, .bool a4] 58)
    have bA := Blk.new w7 58 #[.int .i64 a1, .int .i64 kd, .bool a3, .bool a4]
    have t7B := t7.trans tB
    have hX8 := hX7.keep t7B id
    have hC8 := hC7.keep t7B id
    have tF := tE.trans t7B
    have HV8 := Lib.hid (HVR2.out _ t7B)
    have x3 : (w7.alloc (.cells #[.int .i64 a1, .int .i64 kd, .bool a3, .bool a4] 58)).cell? ⟨z + 1, 3, none⟩ = some (.int .i64 c4) := hC8.cell 3
    have x4 : (w7.alloc (.cells #[.int .i64 a1, .int .i64 kd, .bool a3, .bool a4] 58)).cell? ⟨z + 1, 4, none⟩ = some (.int .i64 c5) := hC8.cell 4
    have y1 : (w7.alloc (.cells #[.int .i64 a1, .int .i64 kd, .bool a3, .bool a4] 58)).cell? ⟨w7.heap.size, 1, none⟩ = some (.int .i64 kd) := bA.cell 1
    clear HAC x1 x2 tE t7 hC7 tB hX7 HVR2 t7B
    go_wp2_with fail
    generalize w7.alloc _ = W7 at *
    generalize w7.heap.size = y7 at *
    refine HV8.out.mono ?_
    rintro _ w8 ⟨rfl, t8⟩
    have tC := Tch.alloc (fun _ => False) w8 (.cells #[.int .i64 q1, .int .i64 q2] 42)
    have bQ := Blk.new w8 42 #[.int .i64 q1, .int .i64 q2]
    have t8C := t8.trans tC
    have hX9 := hX8.keep t8C id
    have hC9 := hC8.keep t8C id
    have bA9 := bA.keep t8C id
    have tG := tF.trans t8C
    have r0 : (w8.alloc (.cells #[.int .i64 q1, .int .i64 q2] 42)).cell? ⟨y6, 0, none⟩ = some (.int .i64 0) := hX9.cell 0
    have r1 : (w8.alloc (.cells #[.int .i64 q1, .int .i64 q2] 42)).cell? ⟨y6, 1, none⟩ = some (.int .i64 0) := hX9.cell 1
    have r2 : (w8.alloc (.cells #[.int .i64 q1, .int .i64 q2] 42)).cell? ⟨y6, 2, none⟩ = some (.slice P1 1 k1) := hX9.cell 2
    have r3 : (w8.alloc (.cells #[.int .i64 q1, .int .i64 q2] 42)).cell? ⟨y6, 3, none⟩ = some (.slice M1 0 d1) := hX9.cell 3
    have r4 : (w8.alloc (.cells #[.int .i64 q1, .int .i64 q2] 42)).cell? ⟨y6, 4, none⟩ = some (.int .i64 1) := hX9.cell 4
    have r5 : (w8.alloc (.cells #[.int .i64 q1, .int .i64 q2] 42)).cell? ⟨y6, 5, none⟩ = some (.int .i64 c2) := hX9.cell 5
    have r6 : (w8.alloc (.cells #[.int .i64 q1, .int .i64 q2] 42)).cell? ⟨y6, 6, none⟩ = some (.int .i64 c3) := hX9.cell 6
    have r7 : (w8.alloc (.cells #[.int .i64 q1, .int .i64 q2] 42)).cell? ⟨y6, 7, none⟩ = some (.int .i64 c4) := hX9.cell 7
    have r8 : (w8.alloc (.cells #[.int .i64 q1, .int .i64 q2] 42)).cell? ⟨y6, 8, none⟩ = some (.int .i64 0) := hX9.cell 8
    have r9 : (w8.alloc (.cells #[.int .i64 q1, .int .i64 q2] 42)).cell? ⟨y6, 9, none⟩ = some (.int .i64 c6) := hX9.cell 9
    have r10 : (w8.alloc (.cells #[.int .i64 q1, .int .i64 q2] 42)).cell? ⟨y6, 10, none⟩ = some (.bool true) := hX9.cell 10
    have r11 : (w8.alloc (.cells #[.int .i64 q1, .int .i64 q2] 42)).cell? ⟨y6, 11, none⟩ = some (.int .i64 q1) := hX9.cell 11
    have r12 : (w8.alloc (.cells #[.int .i64 q1, .int .i64 q2] 42)).cell? ⟨y6, 12, none⟩ = some (.int .i64 q2) := hX9.cell 12
    have r13 : (w8.alloc (.cells #[.int .i64 q1, .int .i64 q2] 42)).cell? ⟨y6, 13, none⟩ = some (.bool q3) := hX9.cell 13
    have g0 : (w8.alloc (.cells #[.int .i64 q1, .int .i64 q2] 42)).cell? ⟨z + 1, 0, none⟩ = some (.int .i64 3) := hC9.cell 0
    have g1 : (w8.alloc (.cells #[.int .i64 q1, .int .i64 q2] 42)).cell? ⟨z + 1, 1, none⟩ = some (.int .i64 c2) := hC9.cell 1
    have g2 : (w8.alloc (.cells #[.int .i64 q1, .int .i64 q2] 42)).cell? ⟨z + 1, 2, none⟩ = some (.int .i64 c3) := hC9.cell 2
    have g3 : (w8.alloc (.cells #[.int .i64 q1, .int .i64 q2] 42)).cell? ⟨z + 1, 3, none⟩ = some (.int .i64 c4) := hC9.cell 3
    have g4 : (w8.alloc (.cells #[.int .i64 q1, .int .i64 q2] 42)).cell? ⟨z + 1, 4, none⟩ = some (.int .i64 c5) := hC9.cell 4
    have g5 : (w8.alloc (.cells #[.int .i64 q1, .int .i64 q2] 42)).cell? ⟨z + 1, 5, none⟩ = some (.int .i64 c6) := hC9.cell 5
    have b1 : (w8.alloc (.cells #[.int .i64 q1, .int .i64 q2] 42)).cell? ⟨y7, 1, none⟩ = some (.int .i64 kd) := bA9.cell 1
    have m0 : (w8.alloc (.cells #[.int .i64 q1, .int .i64 q2] 42)).cell? ⟨w8.heap.size, 0, none⟩ = some (.int .i64 q1) := bQ.cell 0
    have m1 : (w8.alloc (.cells #[.int .i64 q1, .int .i64 q2] 42)).cell? ⟨w8.heap.size, 1, none⟩ = some (.int .i64 q2) := bQ.cell 1
    clear HV8 x3 x4 y1 hX8 hC8 bA bA9 hX9 hC9 bQ tF t8 tC t8C
    go_wp2_with fail
    refine (awake32_any _ (HTA.out _ tG)).mono ?_
    rintro _ wz ⟨rfl, tz⟩
    go_wp2
    go_ret
    exact ⟨rfl, tG.trans tz⟩
  · rw [if_neg hkd, if_neg (fun h => hc4 h.2)] at hr1
    obtain rfl : c4 = 0 := by have := HC4.out; omega
    have hmin : min (0 : Int) 1 = 0 := by decide
    clear HC4
    obtain ⟨p1, m1, rfl, hp1, hm1⟩ := hr1
    obtain ⟨P1, k1, rfl, _, _⟩ := hp1.form
    obtain ⟨M1, d1, rfl, _, _⟩ := hm1.form
    unfold rcpV Rcp.none
    simp only [List.length_nil]
    clear hp1 hm1
    have tA := Tch.alloc (fun _ => False) w6 (.cells #[.int .i64 0, .int .i64 0, .slice P1 0 k1, .slice M1 0 d1, .int .i64 1, .int .i64 c2, .int .i64 c3, .int .i64 0, .int .i64 0, .int .i64 c6, .bool true, .int .i64 q1, .int .i64 q2, .bool q3] 46)
    have hX7 := Blk.new w6 46 #[.int .i64 0, .int .i64 0, .slice P1 0 k1, .slice M1 0 d1, .int .i64 1, .int .i64 c2, .int .i64 c3, .int .i64 0, .int .i64 0, .int .i64 c6, .bool true, .int .i64 q1, .int .i64 q2, .bool q3]
    have hC7 := hC6.keep tA id
    have x1 : (w6.alloc (.cells #[.int .i64 0, .int .i64 0, .slice P1 0 k1, .slice M1 0 d1, .int .i64 1, .int .i64 c2, .int .i64 c3, .int .i64 0, .int .i64 0, .int .i64 c6, .bool true, .int .i64 q1, .int .i64 q2, .bool q3] 46)).cell? ⟨z + 1, 1, none⟩ = some (.int .i64 c2) := hC7.cell 1
    have x2 : (w6.alloc (.cells #[.int .i64 0, .int .i64 0, .slice P1 0 k1, .slice M1 0 d1, .int .i64 1, .int .i64 c2, .int .i64 c3, .int .i64 0, .int .i64 0, .int .i64 c6, .bool true, .int .i64 q1, .int .i64 q2, .bool q3] 46)).cell? ⟨z + 1, 2, none⟩ = some (.int .i64 c3) := hC7.cell 2
    have HCU := Lib.hid (HCC.out _ tA)
    have HAC := Lib.hid (HCA.out _ tA)
    have HVR2 := Lib.hid (fun w' (t9 : Tch (fun _ => False) (w6.alloc (.cells #[.int .i64 0, .int .i64 0, .slice P1 0 k1, .slice M1 0 d1, .int .i64 1, .int .i64 c2, .int .i64 c3, .int .i64 0, .int .i64 0, .int .i64 c6, .bool true, .int .i64 q1, .int .i64 q2, .bool q3] 46)) w') => HVR.out w' (tA.trans t9))
    have tE := tt6.trans tA
    clear HCC HCA tA hC6 tt6 HVR
    go_wp2_with fail
    generalize w6.alloc _ = W6 at *
    generalize w6.heap.size = y6 at *
    refine HCU.out.mono ?_
    rintro _ _ ⟨rfl, rfl⟩
    clear HCU
    go_wp2_with fail
    refine HAC.out.mono ?_
    rintro _ w7 ⟨rfl, t7⟩
    have tB := Tch.alloc (fun _ => False) w7 (.cells #[.int .i64 a1, .int .i64 kd, .bool a3, .bool a4] 58)
    have bA := Blk.new w7 58 #[.int .i64 a1, .int .i64 kd, .bool a3, .bool a4]
    have t7B := t7.trans tB
    have hX8 := hX7.keep t7B id
    have hC8 := hC7.keep t7B id
    have tF := tE.trans t7B
    have HV8 := Lib.hid (HVR2.out _ t7B)
    have x3 : (w7.alloc (.cells #[.int .i64 a1, .int .i64 kd, .bool a3, .bool a4] 58)).cell? ⟨z + 1, 3, none⟩ = some (.int .i64 0) := hC8.cell 3
    have x4 : (w7.alloc (.cells #[.int .i64 a1, .int .i64 kd, .bool a3, .bool a4] 58)).cell? ⟨z + 1, 4, none⟩ = some (.int .i64 c5) := hC8.cell 4
    have y1 : (w7.alloc (.cells #[.int .i64 a1, .int .i64 kd, .bool a3, .bool a4] 58)).cell? ⟨w7.heap.size, 1, none⟩ = some (.int .i64 kd) := bA.cell 1
    clear HAC x1 x2 tE t7 hC7 tB hX7 HVR2 t7B
    go_wp2_with fail
    generalize w7.alloc _ = W7 at *
    generalize w7.heap.size = y7 at *
    refine HV8.out.mono ?_
    rintro _ w8 ⟨rfl, t8⟩
    have tC := Tch.alloc (fun _ => False) w8 (.cells #[.int .i64 q1, .int .i64 q2] 42)
    have bQ := Blk.new w8 42 #[.int .i64 q1, .int .i64 q2]
    have t8C := t8.trans tC
    have hX9 := hX8.keep t8C id
    have hC9 := hC8.keep t8C id
    have bA9 := bA.keep t8C id
    have tG := tF.trans t8C
    have r0 : (w8.alloc (.cells #[.int .i64 q1, .int .i64 q2] 42)).cell? ⟨y6, 0, none⟩ = some (.int .i64 0) := hX9.cell 0
    have r1 : (w8.alloc (.cells #[.int .i64 q1, .int .i64 q2] 42)).cell? ⟨y6, 1, none⟩ = some (.int .i64 0) := hX9.cell 1
    have r2 : (w8.alloc (.cells #[.int .i64 q1, .int .i64 q2] 42)).cell? ⟨y6, 2, none⟩ = some (.slice P1 0 k1) := hX9.cell 2
    have r3 : (w8.alloc (.cells #[.int .i64 q1, .int .i64 q2] 42)).cell? ⟨y6, 3, none⟩ = some (.slice M1 0 d1) := hX9.cell 3
    have r4 : (w8.alloc (.cells #[.int .i64 q1, .int .i64 q2] 42)).cell? ⟨y6, 4, none⟩ = some (.int .i64 1) := hX9.cell 4
    have r5 : (w8.alloc (.cells #[.int .i64 q1, .int .i64 q2] 42)).cell? ⟨y6, 5, none⟩ = some (.int .i64 c2) := hX9.cell 5
    have r6 : (w8.alloc (.cells #[.int .i64 q1, .int .i64 q2] 42)).cell? ⟨y6, 6, none⟩ = some (.int .i64 c3) := hX9.cell 6
    have r7 : (w8.alloc (.cells #[.int .i64 q1, .int .i64 q2] 42)).cell? ⟨y6, 7, none⟩ = some (.int .i64 0) := hX9.cell 7
    have r8 : (w8.alloc (.cells #[.int .i64 q1, .int .i64 q2] 42)).cell? ⟨y6, 8, none⟩ = some (.int .i64 0) := hX9.cell 8
    have r9 : (w8.alloc (.cells #[.int .i64 q1, .int .i64 q2] 42)).cell? ⟨y6, 9, none⟩ = some (.int .i64 c6) := hX9.cell 9
    have r10 : (w8.alloc (.cells #[.int .i64 q1, .int .i64 q2] 42)).cell? ⟨y6, 10, none⟩ = some (.bool true) := hX9.cell 10
    have r11 : (w8.alloc (.cells #[.int .i64 q1, .int .i64 q2] 42)).cell? ⟨y6, 11, none⟩ = some (.int .i64 q1) := hX9.cell 11
    have r12 : (w8.alloc (.cells #[.int .i64 q1, .int .i64 q2] 42)).cell? ⟨y6, 12, none⟩ = some (.int .i64 q2) := hX9.cell 12
    have r13 : (w8.alloc (.cells #[.int .i64 q1, .int .i64 q2] 42)).cell? ⟨y6, 13, none⟩ = some (.bool q3) := hX9.cell 13
    have g0 : (w8.alloc (.cells #[.int .i64 q1, .int .i64 q2] 42)).cell? ⟨z + 1, 0, none⟩ = some (.int .i64 3) := hC9.cell 0
    have g1 : (w8.alloc (.cells #[.int .i64 q1, .int .i64 q2] 42)).cell? ⟨z + 1, 1, none⟩ = some (.int .i64 c2) := hC9.cell 1
    have g2 : (w8.alloc (.cells #[.int .i64 q1, .int .i64 q2] 42)).cell? ⟨z + 1, 2, none⟩ = some (.int .i64 c3) := hC9.cell 2
    have g3 : (w8.alloc (.cells #[.int .i64 q1, .int .i64 q2] 42)).cell? ⟨z + 1, 3, none⟩ = some (.int .i64 0) := hC9.cell 3
    have g4 : (w8.alloc (.cells #[.int .i64 q1, .int .i64 q2] 42)).cell? ⟨z + 1, 4, none⟩ = some (.int .i64 c5) := hC9.cell 4
    have g5 : (w8.alloc (.cells #[.int .i64 q1, .int .i64 q2] 42)).cell? ⟨z + 1, 5, none⟩ = some (.int .i64 c6) := hC9.cell 5
    have b1 : (w8.alloc (.cells #[.int .i64 q1, .int .i64 q2] 42)).cell? ⟨y7, 1, none⟩ = some (.int .i64 kd) := bA9.cell 1
    have m0 : (w8.alloc (.cells #[.int .i64 q1, .int .i64 q2] 42)).cell? ⟨w8.heap.size, 0, none⟩ = some (.int .i64 q1) := bQ.cell 0
    have m1 : (w8.alloc (.cells #[.int .i64 q1, .int .i64 q2] 42)).cell? ⟨w8.heap.size, 1, none⟩ = some (.int .i64 q2) := bQ.cell 1
    clear HV8 x3 x4 y1 hX8 hC8 bA bA9 hX9 hC9 bQ tF t8 tC t8C
    go_wp2_with fail
    refine (awake32_any _ (HTA.out _ tG)).mono ?_
    rintro _ wz ⟨rfl, tz⟩
    go_wp2
    go_ret
    exact ⟨rfl, tG.trans tz⟩

theorem transkinds_row {w : World} {u v : Value} (hT : Tab64 1 w) (hu : ∃ b, BooksIs (fun _ => True) w u b ∧ Bks64 b) (hv : ∃ c : Rt6, v = cellV c ∧ (I64 c.1 ∧ I64 c.2.1 ∧ I64 c.2.2.1 ∧ I64 c.2.2.2.1 ∧ I64 c.2.2.2.2.1 ∧ I64 c.2.2.2.2.2)) :
    Calls Tryz.prog 4 #[u, v] w fun x w' => x = .returned (.bool true) ∧ Tch (fun _ => False) w w' := by
  obtain ⟨b, hb, h64⟩ := hu
  obtain ⟨⟨c1, c2, c3, c4, c5, c6⟩, rfl, _⟩ := hv
  obtain ⟨e, a, s, r, l, n, us, rfl, h⟩ := hb.at
  exact transkinds_any h h64 hT c1 c2 c3 c4 c5 c6
end Go.Proofs.YtpgapicogdickaaGreatDoor
