/-
  The document's rates: a leg, by a third currency.
-/
import Derived.Test.YtblenmelciaigaaGreatDoorRo
namespace Go.Proofs.YtblenmelciaigaaGreatDoor
open Go.RowKit Go.Gk

set_option maxRecDepth 100000 in
set_option maxHeartbeats 6400000 in
theorem refleg_any {w : World} {v : Value} {l : List Rt6} (hl : RowsOf int6 6 (fun _ => True) w v l) (hn : l.length ≤ 1000000) (k1 k2 k3 k4 k5 k6 f t : Int) :
    Calls Tryz.prog 122 #[v, .agg #[.int .i64 k1, .int .i64 k2, .int .i64 k3, .int .i64 k4, .int .i64 k5, .int .i64 k6], .int .i64 f, .int .i64 t] w fun e w' => e = .returned (.tuple #[.agg #[.int .i64 (legOf l k3 k4 f t).1.1, .int .i64 (legOf l k3 k4 f t).1.2], .bool (legOf l k3 k4 f t).2]) ∧ Tch (fun _ => False) w w' := by
  have HF1 := Lib.hid (fun w' (t9 : Tch (fun _ => False) w w') => reffind_any (hl.keep t9) hn f t k3 k4 0 0)
  have HF2 := Lib.hid (fun w' (t9 : Tch (fun _ => False) w w') => reffind_any (hl.keep t9) hn t f k3 k4 0 0)
  have ta := Tch.alloc (fun _ => False) w (.cells #[.int .i64 k1, .int .i64 k2, .int .i64 k3, .int .i64 k4, .int .i64 k5, .int .i64 k6] 68)
  have tb := Tch.alloc (fun _ => False) (w.alloc (.cells #[.int .i64 k1, .int .i64 k2, .int .i64 k3, .int .i64 k4, .int .i64 k5, .int .i64 k6] 68)) (.cells #[.int .i64 0, .int .i64 0] 42)
  have tw := ta.trans tb
  have bK := (Blk.new w 68 #[.int .i64 k1, .int .i64 k2, .int .i64 k3, .int .i64 k4, .int .i64 k5, .int .i64 k6]).keep tb id
  have bO := Blk.new2 w (.cells #[.int .i64 k1, .int .i64 k2, .int .i64 k3, .int .i64 k4, .int .i64 k5, .int .i64 k6] 68) 42 #[.int .i64 0, .int .i64 0]
  obtain ⟨A, cc, rfl, hc1, hc2⟩ := hl.form
  have HLG := Lib.hid (show legOf l k3 k4 f t = if (findOf l (f, t, k3, k4)).2 = true then ((findOf l (f, t, k3, k4)).1, true) else ((invOf (findOf l (t, f, k3, k4)).1).1, (findOf l (t, f, k3, k4)).2 && decide ((invOf (findOf l (t, f, k3, k4)).1).2 = 0)) from rfl)
  generalize legOf l k3 k4 f t = AV at *
  generalize findOf l (f, t, k3, k4) = f1 at *
  generalize findOf l (t, f, k3, k4) = f2 at *
  obtain ⟨⟨r1, r2⟩, b1⟩ := f1
  obtain ⟨⟨s1, s2⟩, b2⟩ := f2
  obtain ⟨⟨v1, v2⟩, v3⟩ := AV
  have HIV := Lib.hid (fun w' => refinv_any s1 s2 w')
  simp only at HLG HF1 HF2
  obtain ⟨iv, hiv⟩ : ∃ iv, invOf (s1, s2) = iv := ⟨_, rfl⟩
  rw [hiv] at HIV HLG
  obtain ⟨⟨i1, i2⟩, ie⟩ := iv
  simp only at HIV HLG ⊢
  clear ta tb hl hiv
  go_enter Tryz.func122, Tryz.ntmps122
  go_wp2_with fail
  generalize (w.alloc (.cells #[.int .i64 k1, .int .i64 k2, .int .i64 k3, .int .i64 k4, .int .i64 k5, .int .i64 k6] 68)).alloc _ = W at *
  generalize hzw : w.heap.size = z at *
  have HZW := Lib.hid hzw
  clear hzw
  refine (HF1.out W tw).mono ?_
  rintro _ w1 ⟨rfl, t1⟩
  have tG := Tch.alloc (fun _ => False) w1 (.cells #[.int .i64 r1, .int .i64 r2] 42)
  have bG := Blk.new w1 42 #[.int .i64 r1, .int .i64 r2]
  have t1G := t1.trans tG
  have bK1 := bK.keep t1G id
  have bO1 := bO.keep t1G id
  have T1 := tw.trans t1G
  have hlt := bO.lt
  have hsz := t1.size
  have hlog := HLG.out
  cases b1
  rotate_left
  · rw [if_pos rfl] at hlog
    injection hlog with h12 h3
    injection h12 with h1 h2
    subst h1 h2 h3
    have g0 : (w1.alloc (.cells #[.int .i64 v1, .int .i64 v2] 42)).cell? ⟨w1.heap.size, 0, none⟩ = some (.int .i64 v1) := bG.cell 0
    have g1 : (w1.alloc (.cells #[.int .i64 v1, .int .i64 v2] 42)).cell? ⟨w1.heap.size, 1, none⟩ = some (.int .i64 v2) := bG.cell 1
    clear HF1 HF2 HIV HLG bK bK1 bO bG
    go_wp2_with (refine wpList_store_blk rfl _ _ _ rfl (z + 1) #[.int .i64 v1, .int .i64 v2] (by rfl) (by rfl) bO1 (by kernel_rfl) rfl (by simp [Value.oneCell']) ?_; refine Hid.out ?_)
    refine Lib.hid ?_
    intro w9 hF tF
    have HF := Lib.hid hF
    have HTF := Lib.hid tF
    clear hF tF bO1
    go_wp2
    (try simp only [Exit.inBlock, Exit.then])
    (try rw [Exit.noGoto_ret])
    refine bodyPost_ret (results_row_tmp (P := Tryz.prog) rfl _ _ (z + 1) 42 _ (0, 0) _ rfl HF.out Tryz.underlying42 rfl (by kernel_rfl)) rfl ?_
    exact ⟨rfl, T1.trans' (F' := fun g => g = z + 1) HTF.out (fun i hi => .inr (by have hi : i = z + 1 := hi; have := HZW.out; omega))⟩
  rw [if_neg (fun h => by cases h)] at hlog
  injection hlog with h12 h3
  injection h12 with h1 h2
  subst h1 h2
  have q2 : (w1.alloc (.cells #[.int .i64 r1, .int .i64 r2] 42)).cell? ⟨z, 2, none⟩ = some (.int .i64 k3) := bK1.cell 2
  have q3 : (w1.alloc (.cells #[.int .i64 r1, .int .i64 r2] 42)).cell? ⟨z, 3, none⟩ = some (.int .i64 k4) := bK1.cell 3
  have HV3 := Lib.hid h3
  clear HF1 h3 bK bO HLG
  go_wp2_with fail
  generalize w1.alloc _ = W1 at *
  generalize hyy : w1.heap.size = y at *
  have HYY := Lib.hid hyy
  clear hyy q2 q3
  refine (HF2.out W1 T1).mono ?_
  rintro _ w2 ⟨rfl, t2⟩
  have bG2 := bG.keep t2 id
  have bO2 := bO1.keep t2 id
  have T2 := T1.trans t2
  clear HF2 bK1 bO1 bG
  go_wp2_with (refine wpList_store_blk rfl _ _ _ rfl y #[.int .i64 s1, .int .i64 s2] (by rfl) (by rfl) bG2 (by kernel_rfl) rfl (by simp [Value.oneCell']) ?_; refine Hid.out ?_)
  refine Lib.hid ?_
  intro w3 bG3 ts3
  have bO3 := bO2.keep ts3 (by omega)
  have T3 := T2.trans' ts3 (fun i hi => .inr (by have hi : i = y := hi; have := tw.size; have := HZW.out; omega))
  have g0 : w3.cell? ⟨y, 0, none⟩ = some (.int .i64 s1) := bG3.cell 0
  have g1 : w3.cell? ⟨y, 1, none⟩ = some (.int .i64 s2) := bG3.cell 1
  clear bG2 bO2 ts3
  go_wp2_with fail
  refine (HIV.out w3).mono ?_
  rintro _ w4 ⟨rfl, t4⟩
  have tH := Tch.alloc (fun _ => False) w4 (.cells #[.int .i64 v1, .int .i64 v2] 42)
  have bH := Blk.new w4 42 #[.int .i64 v1, .int .i64 v2]
  have bO4 := bO3.keep (t4.trans tH) id
  have T4 := T3.trans (t4.trans tH)
  have h0 : (w4.alloc (.cells #[.int .i64 v1, .int .i64 v2] 42)).cell? ⟨w4.heap.size, 0, none⟩ = some (.int .i64 v1) := bH.cell 0
  have h1 : (w4.alloc (.cells #[.int .i64 v1, .int .i64 v2] 42)).cell? ⟨w4.heap.size, 1, none⟩ = some (.int .i64 v2) := bH.cell 1
  clear HIV g0 g1 bG3 bO3 t4 tH bH
  have hv3 := HV3.out
  cases b2
  · simp only [Bool.false_and] at hv3
    subst hv3
    go_wp2_with (refine wpList_store_blk rfl _ _ _ rfl (z + 1) #[.int .i64 v1, .int .i64 v2] (by rfl) (by rfl) bO4 (by kernel_rfl) rfl (by simp [Value.oneCell']) ?_; refine Hid.out ?_)
    refine Lib.hid ?_
    intro w9 hF tF
    have HF := Lib.hid hF
    have HTF := Lib.hid tF
    clear hF tF bO4
    go_wp2
    (try simp only [Exit.inBlock, Exit.then])
    (try rw [Exit.noGoto_ret])
    refine bodyPost_ret (results_row_tmp (P := Tryz.prog) rfl _ _ (z + 1) 42 _ (0, 0) _ rfl HF.out Tryz.underlying42 rfl (by kernel_rfl)) rfl ?_
    exact ⟨rfl, T4.trans' (F' := fun g => g = z + 1) HTF.out (fun i hi => .inr (by have hi : i = z + 1 := hi; have := HZW.out; omega))⟩
  · by_cases hie : ie = 0
    · subst hie
      simp only [Bool.true_and, decide_true] at hv3
      subst hv3
      go_wp2_with (refine wpList_store_blk rfl _ _ _ rfl (z + 1) #[.int .i64 v1, .int .i64 v2] (by rfl) (by rfl) bO4 (by kernel_rfl) rfl (by simp [Value.oneCell']) ?_; refine Hid.out ?_)
      refine Lib.hid ?_
      intro w9 hF tF
      have HF := Lib.hid hF
      have HTF := Lib.hid tF
      clear hF tF bO4
      go_wp2
      (try simp only [Exit.inBlock, Exit.then])
      (try rw [Exit.noGoto_ret])
      refine bodyPost_ret (results_row_tmp (P := Tryz.prog) rfl _ _ (z + 1) 42 _ (0, 0) _ rfl HF.out Tryz.underlying42 rfl (by kernel_rfl)) rfl ?_
      exact ⟨rfl, T4.trans' (F' := fun g => g = z + 1) HTF.out (fun i hi => .inr (by have hi : i = z + 1 := hi; have := HZW.out; omega))⟩
    · have hie2 : (ie == 0) = false := by simpa using hie
      rw [decide_eq_false hie] at hv3
      simp only [Bool.and_false] at hv3
      subst hv3
      go_wp2_with (refine wpList_store_blk rfl _ _ _ rfl (z + 1) #[.int .i64 v1, .int .i64 v2] (by rfl) (by rfl) bO4 (by kernel_rfl) rfl (by simp [Value.oneCell']) ?_; refine Hid.out ?_)
      refine Lib.hid ?_
      intro w9 hF tF
      have HF := Lib.hid hF
      have HTF := Lib.hid tF
      clear hF tF bO4
      go_wp2
      (try simp only [Exit.inBlock, Exit.then])
      (try rw [Exit.noGoto_ret])
      refine bodyPost_ret (results_row_tmp (P := Tryz.prog) rfl _ _ (z + 1) 42 _ (0, 0) _ rfl HF.out Tryz.underlying42 rfl (by kernel_rfl)) rfl ?_
      exact ⟨rfl, T4.trans' (F' := fun g => g = z + 1) HTF.out (fun i hi => .inr (by have hi : i = z + 1 := hi; have := HZW.out; omega))⟩


set_option maxRecDepth 100000 in
set_option maxHeartbeats 12800000 in
theorem refcross_any {w : World} {v : Value} {l : List Rt6} (hl : RowsOf int6 6 (fun _ => True) w v l) (hn : l.length ≤ 1000000) (k1 k2 k3 k4 k5 k6 : Int) :
    Calls Tryz.prog 83 #[v, .agg #[.int .i64 k1, .int .i64 k2, .int .i64 k3, .int .i64 k4, .int .i64 k5, .int .i64 k6]] w fun e w' => e = .returned (.tuple #[.agg #[.int .i64 (crossOf l k1 k2 k3 k4).1.1, .int .i64 (crossOf l k1 k2 k3 k4).1.2], .bool (crossOf l k1 k2 k3 k4).2]) ∧ Tch (fun _ => False) w w' := by
  have HLE := Lib.hid (fun w' (t9 : Tch (fun _ => False) w w') f t => refleg_any (hl.keep t9) hn k1 k2 k3 k4 k5 k6 f t)
  have ta := Tch.alloc (fun _ => False) w (.cells #[.int .i64 k1, .int .i64 k2, .int .i64 k3, .int .i64 k4, .int .i64 k5, .int .i64 k6] 68)
  have tb := Tch.alloc (fun _ => False) (w.alloc (.cells #[.int .i64 k1, .int .i64 k2, .int .i64 k3, .int .i64 k4, .int .i64 k5, .int .i64 k6] 68)) (.cells #[.int .i64 0, .int .i64 0] 42)
  have tw := ta.trans tb
  have bK := (Blk.new w 68 #[.int .i64 k1, .int .i64 k2, .int .i64 k3, .int .i64 k4, .int .i64 k5, .int .i64 k6]).keep tb id
  have bO := Blk.new2 w (.cells #[.int .i64 k1, .int .i64 k2, .int .i64 k3, .int .i64 k4, .int .i64 k5, .int .i64 k6] 68) 42 #[.int .i64 0, .int .i64 0]
  obtain ⟨A, cc, rfl, hc1, hc2⟩ := hl.form
  have HCR := Lib.hid (show crossOf l k1 k2 k3 k4 = if (legOf l k3 k4 k1 k2).2 = true then ((legOf l k3 k4 k1 k2).1, true) else thirdFrom l k3 k4 k1 k2 0 from rfl)
  have HST9 := Lib.hid (fun n (h : n < 8) => thirdFrom_step l k3 k4 k1 k2 h)
  have HEND := Lib.hid (thirdFrom_end l k3 k4 k1 k2)
  generalize crossOf l k1 k2 k3 k4 = AV at *
  have HL1 := Lib.hid (fun w' t9 => HLE.out w' t9 k1 k2)
  generalize legOf l k3 k4 k1 k2 = f1 at *
  obtain ⟨⟨r1, r2⟩, b1⟩ := f1
  obtain ⟨⟨v1, v2⟩, v3⟩ := AV
  simp only at HL1 HCR ⊢
  generalize thirdFrom l k3 k4 k1 k2 = TF at *
  clear ta tb hl
  go_enter Tryz.func83, Tryz.ntmps83
  go_wp2_with fail
  generalize (w.alloc (.cells #[.int .i64 k1, .int .i64 k2, .int .i64 k3, .int .i64 k4, .int .i64 k5, .int .i64 k6] 68)).alloc _ = W at *
  generalize hzw : w.heap.size = z at *
  have HZW := Lib.hid hzw
  clear hzw
  refine (HL1.out W tw).mono ?_
  rintro _ w1 ⟨rfl, t1⟩
  have tG := Tch.alloc (fun _ => False) w1 (.cells #[.int .i64 r1, .int .i64 r2] 42)
  have bG := Blk.new w1 42 #[.int .i64 r1, .int .i64 r2]
  have t1G := t1.trans tG
  have bK1 := bK.keep t1G id
  have bO1 := bO.keep t1G id
  have T1 := tw.trans t1G
  have hcr := HCR.out
  clear HL1 HCR
  cases b1
  rotate_left
  · rw [if_pos rfl] at hcr
    injection hcr with h12 h3
    injection h12 with h1 h2
    subst h1 h2 h3
    have g0 : (w1.alloc (.cells #[.int .i64 v1, .int .i64 v2] 42)).cell? ⟨w1.heap.size, 0, none⟩ = some (.int .i64 v1) := bG.cell 0
    have g1 : (w1.alloc (.cells #[.int .i64 v1, .int .i64 v2] 42)).cell? ⟨w1.heap.size, 1, none⟩ = some (.int .i64 v2) := bG.cell 1
    clear HLE HST9 HEND bK bK1 bO bG
    go_wp2_with (refine wpList_store_blk rfl _ _ _ rfl (z + 1) #[.int .i64 v1, .int .i64 v2] (by rfl) (by rfl) bO1 (by kernel_rfl) rfl (by simp [Value.oneCell']) ?_; refine Hid.out ?_)
    refine Lib.hid ?_
    intro w9 hF tF
    have HF := Lib.hid hF
    have HTF := Lib.hid tF
    clear hF tF bO1
    go_wp2
    (try simp only [Exit.inBlock, Exit.then])
    (try rw [Exit.noGoto_ret])
    refine bodyPost_ret (results_row_tmp (P := Tryz.prog) rfl _ _ (z + 1) 42 _ (0, 0) _ rfl HF.out Tryz.underlying42 rfl (by kernel_rfl)) rfl ?_
    exact ⟨rfl, T1.trans' (F' := fun g => g = z + 1) HTF.out (fun i hi => .inr (by have hi : i = z + 1 := hi; have := HZW.out; omega))⟩
  rw [if_neg (fun h => by cases h)] at hcr
  have HCR := Lib.hid hcr.symm
  clear hcr bK bO bG t1 tG t1G
  go_wp2_with fail
  generalize w1.alloc _ = W1 at *
  generalize w1.heap.size = y at *
  go_loopw [8] (fun i wr => ∃ n : Nat, n ≤ 8 ∧ i = .int .i64 ((n : Int) + 1) ∧ TF n = ((v1, v2), v3) ∧ Tch (fun _ => False) W1 wr) (fun i _ => 9 - (intOf i).toNat)
  case atStart => exact ⟨0, by omega, rfl, HCR.out, Tch.refl _ _⟩
  case round =>
    obtain ⟨n, hn8, rfl, hTF, ht⟩ := hrel
    have bKr := bK1.keep ht id
    have bOr := bO1.keep ht id
    have Tr := T1.trans ht
    have hn0 : (0 : Int) ≤ (n : Int) := Int.natCast_nonneg _
    by_cases hlt : n < 8
    · have hlt' : (n : Int) + 1 ≤ 8 := by omega
      have HST0 := Lib.hid (hTF.symm.trans (HST9.out n hlt)).symm
      have HA := Lib.hid (fun w' t9 => HLE.out w' t9 k1 ((n : Int) + 1))
      have HB := Lib.hid (fun w' t9 => HLE.out w' t9 ((n : Int) + 1) k2)
      generalize legOf l k3 k4 k1 ((n : Int) + 1) = fa at *
      generalize legOf l k3 k4 ((n : Int) + 1) k2 = fb at *
      obtain ⟨⟨a1, a2⟩, ab⟩ := fa
      obtain ⟨⟨e1, e2⟩, eb⟩ := fb
      have HM := Lib.hid (fun w' => reftimes04_any a1 a2 e1 e2 w')
      simp only at HA HB HM HST0
      obtain ⟨tm, htm⟩ : ∃ tm, timesOf (a1, a2) (e1, e2) = tm := ⟨_, rfl⟩
      rw [htm] at HM HST0
      obtain ⟨⟨m1, m2⟩, me⟩ := tm
      simp only at HM HST0
      have q0 : wr.cell? ⟨z, 0, none⟩ = some (.int .i64 k1) := bKr.cell 0
      have q1 : wr.cell? ⟨z, 1, none⟩ = some (.int .i64 k2) := bKr.cell 1
      have q2 : wr.cell? ⟨z, 2, none⟩ = some (.int .i64 k3) := bKr.cell 2
      have q3 : wr.cell? ⟨z, 3, none⟩ = some (.int .i64 k4) := bKr.cell 3
      have q4 : wr.cell? ⟨z, 4, none⟩ = some (.int .i64 k5) := bKr.cell 4
      have q5 : wr.cell? ⟨z, 5, none⟩ = some (.int .i64 k6) := bKr.cell 5
      clear hTF htm hn0
      go_wp2_with fail
      refine (HA.out _ Tr).mono ?_
      rintro _ w2 ⟨rfl, t2⟩
      have tA := Tch.alloc (fun _ => False) w2 (.cells #[.int .i64 a1, .int .i64 a2] 42)
      have bA := Blk.new w2 42 #[.int .i64 a1, .int .i64 a2]
      have t2A := t2.trans tA
      have bK2 := bKr.keep t2A id
      have bO2 := bOr.keep t2A id
      have T2 := Tr.trans t2A
      have ht2 := ht.trans t2A
      clear q0 q1 q2 q3 q4 q5 HA bKr bOr
      have q0 : (w2.alloc (.cells #[.int .i64 a1, .int .i64 a2] 42)).cell? ⟨z, 0, none⟩ = some (.int .i64 k1) := bK2.cell 0
      have q1 : (w2.alloc (.cells #[.int .i64 a1, .int .i64 a2] 42)).cell? ⟨z, 1, none⟩ = some (.int .i64 k2) := bK2.cell 1
      have q2 : (w2.alloc (.cells #[.int .i64 a1, .int .i64 a2] 42)).cell? ⟨z, 2, none⟩ = some (.int .i64 k3) := bK2.cell 2
      have q3 : (w2.alloc (.cells #[.int .i64 a1, .int .i64 a2] 42)).cell? ⟨z, 3, none⟩ = some (.int .i64 k4) := bK2.cell 3
      have q4 : (w2.alloc (.cells #[.int .i64 a1, .int .i64 a2] 42)).cell? ⟨z, 4, none⟩ = some (.int .i64 k5) := bK2.cell 4
      have q5 : (w2.alloc (.cells #[.int .i64 a1, .int .i64 a2] 42)).cell? ⟨z, 5, none⟩ = some (.int .i64 k6) := bK2.cell 5
      go_wp2_with fail
      generalize w2.alloc _ = W2 at *
      generalize w2.heap.size = y2 at *
      refine (HB.out W2 T2).mono ?_
      rintro _ w3 ⟨rfl, t3⟩
      have tB := Tch.alloc (fun _ => False) w3 (.cells #[.int .i64 e1, .int .i64 e2] 42)
      have bE := Blk.new w3 42 #[.int .i64 e1, .int .i64 e2]
      have t3B := t3.trans tB
      have bA3 := bA.keep t3B id
      have bK3 := bK2.keep t3B id
      have bO3 := bO2.keep t3B id
      have T3 := T2.trans t3B
      have ht3 := ht2.trans t3B
      clear q0 q1 q2 q3 q4 q5 HB bK2 bO2 bA
      have g0 : (w3.alloc (.cells #[.int .i64 e1, .int .i64 e2] 42)).cell? ⟨y2, 0, none⟩ = some (.int .i64 a1) := bA3.cell 0
      have g1 : (w3.alloc (.cells #[.int .i64 e1, .int .i64 e2] 42)).cell? ⟨y2, 1, none⟩ = some (.int .i64 a2) := bA3.cell 1
      have g2 : (w3.alloc (.cells #[.int .i64 e1, .int .i64 e2] 42)).cell? ⟨w3.heap.size, 0, none⟩ = some (.int .i64 e1) := bE.cell 0
      have g3 : (w3.alloc (.cells #[.int .i64 e1, .int .i64 e2] 42)).cell? ⟨w3.heap.size, 1, none⟩ = some (.int .i64 e2) := bE.cell 1
      go_wp2_with fail
      generalize w3.alloc _ = W3 at *
      generalize w3.heap.size = y3 at *
      refine (HM.out W3).mono ?_
      rintro _ w4 ⟨rfl, t4⟩
      have tC := Tch.alloc (fun _ => False) w4 (.cells #[.int .i64 m1, .int .i64 m2] 42)
      have bM := Blk.new w4 42 #[.int .i64 m1, .int .i64 m2]
      have t4C := t4.trans tC
      have bK4 := bK3.keep t4C id
      have bO4 := bO3.keep t4C id
      have T4 := T3.trans t4C
      have TR := ht3.trans t4C
      clear g0 g1 g2 g3 HM bK3 bO3 bA3 bE
      have q0 : (w4.alloc (.cells #[.int .i64 m1, .int .i64 m2] 42)).cell? ⟨z, 0, none⟩ = some (.int .i64 k1) := bK4.cell 0
      have q1 : (w4.alloc (.cells #[.int .i64 m1, .int .i64 m2] 42)).cell? ⟨z, 1, none⟩ = some (.int .i64 k2) := bK4.cell 1
      have m0 : (w4.alloc (.cells #[.int .i64 m1, .int .i64 m2] 42)).cell? ⟨w4.heap.size, 0, none⟩ = some (.int .i64 m1) := bM.cell 0
      have m1' : (w4.alloc (.cells #[.int .i64 m1, .int .i64 m2] 42)).cell? ⟨w4.heap.size, 1, none⟩ = some (.int .i64 m2) := bM.cell 1
      clear bK4 bM t2 tA t2A t3 tB t3B t4 tC t4C ht2 ht3 T2 T3
      by_cases hf : (n : Int) + 1 = k1
      · have hf2 : ((n : Int) + 1 != k1) = false := by simpa using hf
        have hst := HST0.out
        rw [if_neg (fun h => h.1.1 hf)] at hst
        have HST := Lib.hid hst
        clear hst HST0 hf
        go_wp2
        go_roundw
        case rel => exact ⟨n + 1, by omega, by go_num, HST.out, TR⟩
        case measure => simp [intOf] <;> omega
      have hf2 : ((n : Int) + 1 != k1) = true := by simpa using hf
      by_cases hg : (n : Int) + 1 = k2
      · have hg2 : ((n : Int) + 1 != k2) = false := by simpa using hg
        have hst := HST0.out
        rw [if_neg (fun h => h.1.2 hg)] at hst
        have HST := Lib.hid hst
        clear hst HST0 hf hg
        go_wp2
        go_roundw
        case rel => exact ⟨n + 1, by omega, by go_num, HST.out, TR⟩
        case measure => simp [intOf] <;> omega
      have hg2 : ((n : Int) + 1 != k2) = true := by simpa using hg
      cases ab
      · have hst := HST0.out
        rw [if_neg (fun h => by cases h.2.1.1)] at hst
        have HST := Lib.hid hst
        clear hst HST0 hf hg
        go_wp2
        go_roundw
        case rel => exact ⟨n + 1, by omega, by go_num, HST.out, TR⟩
        case measure => simp [intOf] <;> omega
      cases eb
      · have hst := HST0.out
        rw [if_neg (fun h => by cases h.2.1.2)] at hst
        have HST := Lib.hid hst
        clear hst HST0 hf hg
        go_wp2
        go_roundw
        case rel => exact ⟨n + 1, by omega, by go_num, HST.out, TR⟩
        case measure => simp [intOf] <;> omega
      by_cases hme : me = 0
      rotate_left
      · have hme2 : (me == 0) = false := by simpa using hme
        have hst := HST0.out
        rw [if_neg (fun h => hme h.2.2)] at hst
        have HST := Lib.hid hst
        clear hst HST0 hf hg hme
        go_wp2
        go_roundw
        case rel => exact ⟨n + 1, by omega, by go_num, HST.out, TR⟩
        case measure => simp [intOf] <;> omega
      subst hme
      have hst := HST0.out
      rw [if_pos ⟨⟨hf, hg⟩, ⟨rfl, rfl⟩, rfl⟩] at hst
      injection hst with h12 h3
      injection h12 with h1 h2
      subst h1 h2 h3
      clear hf hg HST0 HST9 HLE HEND TR ht Tr T1
      go_wp2_with (refine wpList_store_blk rfl _ _ _ rfl (z + 1) #[.int .i64 m1, .int .i64 m2] (by rfl) (by rfl) bO4 (by kernel_rfl) rfl (by simp [Value.oneCell']) ?_; refine Hid.out ?_)
      refine Lib.hid ?_
      intro w9 hF tF
      have HF := Lib.hid hF
      have HTF := Lib.hid tF
      clear hF tF bO4
      go_wp2
      (try simp only [Exit.inBlock, Exit.then])
      (try rw [Exit.noGoto_ret])
      refine bodyPost_ret (results_row_tmp (P := Tryz.prog) rfl _ _ (z + 1) 42 _ (0, 0) _ rfl HF.out Tryz.underlying42 rfl (by kernel_rfl)) rfl ?_
      exact ⟨rfl, T4.trans' (F' := fun g => g = z + 1) HTF.out (fun i hi => .inr (by have hi : i = z + 1 := hi; have := HZW.out; omega))⟩
    · obtain rfl : n = 8 := by omega
      have hend := hTF.symm.trans HEND.out
      injection hend with h12 h3
      injection h12 with h1 h2
      subst h1 h2 h3
      have hlt' : ¬ ((8 : Nat) : Int) + 1 ≤ 8 := by omega
      clear hTF HST9 HLE HEND bKr
      go_wp2_with (refine wpList_store_blk rfl _ _ _ rfl (z + 1) #[.int .i64 0, .int .i64 0] (by rfl) (by rfl) bOr (by kernel_rfl) rfl (by simp [Value.oneCell']) ?_; refine Hid.out ?_)
      refine Lib.hid ?_
      intro w9 hF tF
      have HF := Lib.hid hF
      have HTF := Lib.hid tF
      clear hF tF bOr
      go_wp2
      (try simp only [Exit.inBlock, Exit.then])
      (try rw [Exit.noGoto_ret])
      refine bodyPost_ret (results_row_tmp (P := Tryz.prog) rfl _ _ (z + 1) 42 _ (0, 0) _ rfl HF.out Tryz.underlying42 rfl (by kernel_rfl)) rfl ?_
      exact ⟨rfl, Tr.trans' (F' := fun g => g = z + 1) HTF.out (fun i hi => .inr (by have hi : i = z + 1 := hi; have := HZW.out; omega))⟩
end Go.Proofs.YtblenmelciaigaaGreatDoor
