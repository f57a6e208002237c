/-
  Rates: straight, turned round, by a third currency.
-/
import Derived.Test.YtblenmelciaigaaGreatDoorRf
import Derived.Scope
namespace Go.Proofs.YtblenmelciaigaaGreatDoor
open Go.RowKit Go.Gk

set_option maxRecDepth 100000 in
set_option maxHeartbeats 12800000 in
theorem cross_any {w : World} {v : Value} {l : List Rt6} (hl : RowsOf int6 6 (fun _ => True) w v l) (hn : l.length ≤ 1000000) (hT : Tab64 1 w) (f t kd p k5 k6 : Int) :
    Calls Tryz.prog 77 #[v, .agg #[.int .i64 f, .int .i64 t, .int .i64 kd, .int .i64 p, .int .i64 k5, .int .i64 k6]] w fun e w' => e = .returned (.tuple #[.agg #[.int .i64 (crossOf l f t kd p).1.1, .int .i64 (crossOf l f t kd p).1.2], .bool (crossOf l f t kd p).2]) ∧ Tch (fun _ => False) w w' := by
  obtain ⟨A, cc, rfl, hc1, hc2⟩ := hl.form
  have ta := Tch.alloc (fun _ => False) w (.cells #[.slice A l.length cc] 25)
  have tb := Tch.alloc (fun _ => False) (w.alloc (.cells #[.slice A l.length cc] 25)) (.cells #[.int .i64 f, .int .i64 t, .int .i64 kd, .int .i64 p, .int .i64 k5, .int .i64 k6] 68)
  have tc := Tch.alloc (fun _ => False) ((w.alloc (.cells #[.slice A l.length cc] 25)).alloc (.cells #[.int .i64 f, .int .i64 t, .int .i64 kd, .int .i64 p, .int .i64 k5, .int .i64 k6] 68)) (.cells #[.int .i64 0, .int .i64 0] 42)
  have tw := (ta.trans tb).trans tc
  have bL := ((Blk.new w 25 #[.slice A l.length cc]).keep tb id).keep tc id
  have bK := (Blk.new2 w (.cells #[.slice A l.length cc] 25) 68 #[.int .i64 f, .int .i64 t, .int .i64 kd, .int .i64 p, .int .i64 k5, .int .i64 k6]).keep tc id
  have bO : Blk (((w.alloc (.cells #[.slice A l.length cc] 25)).alloc (.cells #[.int .i64 f, .int .i64 t, .int .i64 kd, .int .i64 p, .int .i64 k5, .int .i64 k6] 68)).alloc (.cells #[.int .i64 0, .int .i64 0] 42)) (w.heap.size + 1 + 1) 42 #[.int .i64 0, .int .i64 0] := by simpa using Blk.new ((w.alloc (.cells #[.slice A l.length cc] 25)).alloc (.cells #[.int .i64 f, .int .i64 t, .int .i64 kd, .int .i64 p, .int .i64 k5, .int .i64 k6] 68)) 42 #[.int .i64 0, .int .i64 0]
  have HLEG := Lib.hid (fun w' (t9 : Tch (fun _ => False) w w') zk zl hk hb c d => rateleg_any (w := w') (zk := zk) (zl := zl) (f := f) (t := t) (kd := kd) (p := p) (k5 := k5) (k6 := k6) (hl.keep t9) hn (hT.keep t9) hk hb c d)
  have HTM := Lib.hid (fun w' (t9 : Tch (fun _ => False) w w') a1 a2 b1 b2 => times_any a1 a2 b1 b2 w' (hT.keep t9))
  have HCR := Lib.hid (show crossOf l f t kd p = if (legOf l kd p f t).2 = true then ((legOf l kd p f t).1, true) else thirdFrom l kd p f t 0 from rfl)
  obtain ⟨AV, hAV⟩ : ∃ AV, crossOf l f t kd p = AV := ⟨_, rfl⟩
  rw [hAV] at HCR
  rw [hAV]
  clear hAV
  obtain ⟨⟨v1, v2⟩, v3⟩ := AV
  have HLC := Lib.hid (HLEG.out _ tw (w.heap.size + 1) w.heap.size bK bL f t)
  have x0 : (((w.alloc (.cells #[.slice A l.length cc] 25)).alloc (.cells #[.int .i64 f, .int .i64 t, .int .i64 kd, .int .i64 p, .int .i64 k5, .int .i64 k6] 68)).alloc (.cells #[.int .i64 0, .int .i64 0] 42)).cell? ⟨w.heap.size + 1, 0, none⟩ = some (.int .i64 f) := bK.cell 0
  have x1 : (((w.alloc (.cells #[.slice A l.length cc] 25)).alloc (.cells #[.int .i64 f, .int .i64 t, .int .i64 kd, .int .i64 p, .int .i64 k5, .int .i64 k6] 68)).alloc (.cells #[.int .i64 0, .int .i64 0] 42)).cell? ⟨w.heap.size + 1, 1, none⟩ = some (.int .i64 t) := bK.cell 1
  have x2 : (((w.alloc (.cells #[.slice A l.length cc] 25)).alloc (.cells #[.int .i64 f, .int .i64 t, .int .i64 kd, .int .i64 p, .int .i64 k5, .int .i64 k6] 68)).alloc (.cells #[.int .i64 0, .int .i64 0] 42)).cell? ⟨w.heap.size + 1, 2, none⟩ = some (.int .i64 kd) := bK.cell 2
  have x3 : (((w.alloc (.cells #[.slice A l.length cc] 25)).alloc (.cells #[.int .i64 f, .int .i64 t, .int .i64 kd, .int .i64 p, .int .i64 k5, .int .i64 k6] 68)).alloc (.cells #[.int .i64 0, .int .i64 0] 42)).cell? ⟨w.heap.size + 1, 3, none⟩ = some (.int .i64 p) := bK.cell 3
  have x4 : (((w.alloc (.cells #[.slice A l.length cc] 25)).alloc (.cells #[.int .i64 f, .int .i64 t, .int .i64 kd, .int .i64 p, .int .i64 k5, .int .i64 k6] 68)).alloc (.cells #[.int .i64 0, .int .i64 0] 42)).cell? ⟨w.heap.size + 1, 4, none⟩ = some (.int .i64 k5) := bK.cell 4
  have x5 : (((w.alloc (.cells #[.slice A l.length cc] 25)).alloc (.cells #[.int .i64 f, .int .i64 t, .int .i64 kd, .int .i64 p, .int .i64 k5, .int .i64 k6] 68)).alloc (.cells #[.int .i64 0, .int .i64 0] 42)).cell? ⟨w.heap.size + 1, 5, none⟩ = some (.int .i64 k6) := bK.cell 5
  clear ta tb tc hl hT
  simp only
  go_enter Tryz.func77, Tryz.ntmps77
  go_wp2_with fail
  refine wp_scope_straight ?_
  go_wp2_with fail
  generalize ((w.alloc (.cells #[.slice A l.length cc] 25)).alloc (.cells #[.int .i64 f, .int .i64 t, .int .i64 kd, .int .i64 p, .int .i64 k5, .int .i64 k6] 68)).alloc _ = W at *
  generalize hzw : w.heap.size = z at *
  have HZW := Lib.hid hzw
  clear hzw
  obtain ⟨⟨⟨r1, r2⟩, ok1⟩, hL1⟩ : ∃ L, legOf l kd p f t = L := ⟨_, rfl⟩
  rw [hL1] at HCR HLC
  clear hL1
  refine HLC.out.mono ?_
  rintro _ w1 ⟨rfl, t1⟩
  have bL1 := bL.keep t1 id
  have bK1 := bK.keep t1 id
  have bO1 := bO.keep t1 id
  have T1 := tw.trans t1
  have td := Tch.alloc (fun _ => False) w1 (.cells #[.int .i64 r1, .int .i64 r2] 42)
  have bR := Blk.new w1 42 #[.int .i64 r1, .int .i64 r2]
  have bL2 := bL1.keep td id
  have bK2 := bK1.keep td id
  have bO2 := bO1.keep td id
  have T2 := T1.trans td
  have hcr := HCR.out
  have f0 : (w1.alloc (.cells #[.int .i64 r1, .int .i64 r2] 42)).cell? ⟨w1.heap.size, 0, none⟩ = some (.int .i64 r1) := bR.cell 0
  have f1 : (w1.alloc (.cells #[.int .i64 r1, .int .i64 r2] 42)).cell? ⟨w1.heap.size, 1, none⟩ = some (.int .i64 r2) := bR.cell 1
  clear HLC x0 x1 x2 x3 x4 x5 bL bK bO tw t1 bL1 bK1 bO1 T1 td HCR bR
  cases ok1
  rotate_left
  · rw [if_pos rfl] at hcr
    injection hcr with e1 e2
    injection e1 with e0 e1
    have e0 := e0.symm; have e1 := e1.symm; have e2 := e2.symm; subst e0; subst e1; subst e2
    clear HLEG HTM bL2 bK2
    go_wp2_with (refine wpList_store_blk rfl _ _ _ rfl (z + 1 + 1) #[.int .i64 r1, .int .i64 r2] (by rfl) (by rfl) bO2 (by kernel_rfl) rfl (by simp [Value.oneCell']) ?_; refine Hid.out ?_)
    refine Lib.hid ?_
    intro w9 hF tF
    have HBF := Lib.hid hF
    have HTF := Lib.hid tF
    clear hF tF
    go_wp2
    (try simp only [Exit.inBlock, Exit.then])
    (try rw [Exit.noGoto_ret])
    refine bodyPost_ret (results_row_tmp (P := Tryz.prog) rfl _ _ (z + 1 + 1) 42 _ (0, 0) _ rfl HBF.out Tryz.underlying42 rfl (by kernel_rfl)) rfl ?_
    exact ⟨rfl, T2.trans' (F' := fun g => g = z + 1 + 1) HTF.out (fun i hi => .inr (by have hi : i = z + 1 + 1 := hi; have := HZW.out; omega))⟩
  rw [if_neg (fun h => by cases h)] at hcr
  have HCR := Lib.hid hcr
  clear hcr
  go_wp2_with fail
  refine wp_label ?_
  go_wp2_with fail
  generalize w1.alloc _ = W1 at *
  generalize w1.heap.size = y1 at *
  clear f0 f1
  go_loopw [9] (fun i wr => ∃ n : Nat, n ≤ 8 ∧ i = .int .i64 ((n : Int) + 1) ∧ thirdFrom l kd p f t n = ((v1, v2), v3) ∧ Tch (fun _ => False) W1 wr) (fun i _ => (9 - intOf i).toNat)
  case atStart => exact ⟨0, by omega, rfl, HCR.out.symm, Tch.refl _ _⟩
  case round =>
    obtain ⟨n, hn8, rfl, hth, htt⟩ := hrel
    have HTH := Lib.hid hth
    clear hth HCR
    have bOr := bO2.keep htt id
    have bKr := bK2.keep htt id
    have bLr := bL2.keep htt id
    have Tr := T2.trans htt
    by_cases h8 : n = 8
    · subst h8
      have hth := HTH.out
      rw [thirdFrom_end] at hth
      injection hth with e1 e2
      injection e1 with e0 e1
      subst e0; subst e1; subst e2
      have h9 : ¬ (((8 : Nat) : Int) + 1) ≤ 8 := by omega
      clear HLEG HTM bO2 bK2 bL2 bKr bLr HTH
      go_wp2_with (refine wpList_store_blk rfl _ _ _ rfl (z + 1 + 1) #[.int .i64 0, .int .i64 0] (by rfl) (by rfl) bOr (by kernel_rfl) rfl (by simp [Value.oneCell']) ?_; refine Hid.out ?_)
      refine Lib.hid ?_
      intro w9 hF tF
      have HBF := Lib.hid hF
      have HTF := Lib.hid tF
      clear hF tF
      go_wp2
      (try simp only [Exit.inBlock, Exit.then])
      (try rw [Exit.noGoto_ret])
      refine bodyPost_ret (results_row_tmp (P := Tryz.prog) rfl _ _ (z + 1 + 1) 42 _ (0, 0) _ rfl HBF.out Tryz.underlying42 rfl (by kernel_rfl)) rfl ?_
      exact ⟨rfl, Tr.trans' (F' := fun g => g = z + 1 + 1) HTF.out (fun i hi => .inr (by have hi : i = z + 1 + 1 := hi; have := HZW.out; omega))⟩
    have h9 : ((n : Int) + 1) ≤ 8 := by omega
    have HST := Lib.hid (thirdFrom_step l kd p f t (show n < 8 by omega))
    rw [HTH.out] at HST
    have hwr : wrap64 ((n : Int) + 1 + 1) = (n : Int) + 1 + 1 := by unfold wrap64; omega
    have hcast : ((n : Int) + 1) = ((n + 1 : Nat) : Int) := by omega
    have x0 : wr.cell? ⟨z + 1, 0, none⟩ = some (.int .i64 f) := bKr.cell 0
    have x1 : wr.cell? ⟨z + 1, 1, none⟩ = some (.int .i64 t) := bKr.cell 1
    have x2 : wr.cell? ⟨z + 1, 2, none⟩ = some (.int .i64 kd) := bKr.cell 2
    have x3 : wr.cell? ⟨z + 1, 3, none⟩ = some (.int .i64 p) := bKr.cell 3
    have x4 : wr.cell? ⟨z + 1, 4, none⟩ = some (.int .i64 k5) := bKr.cell 4
    have x5 : wr.cell? ⟨z + 1, 5, none⟩ = some (.int .i64 k6) := bKr.cell 5
    by_cases hf : ((n : Int) + 1) = f
    · have hne : thirdFrom l kd p f t (n + 1) = ((v1, v2), v3) := by
        have h := HST.out
        rw [if_neg (fun h => h.1.1 hf)] at h
        exact h.symm
      have HNE := Lib.hid hne
      have hb : (((n : Int) + 1) == f) = true := by simpa using hf
      clear hne hf HST HTH HLEG HTM hcast
      go_wp2
      go_roundw
      case rel => exact ⟨n + 1, by omega, by go_num, HNE.out, htt⟩
      case measure => simp [intOf] <;> omega
    have hb1 : (((n : Int) + 1) == f) = false := by simpa using hf
    by_cases ht : ((n : Int) + 1) = t
    · have hne : thirdFrom l kd p f t (n + 1) = ((v1, v2), v3) := by
        have h := HST.out
        rw [if_neg (fun h => h.1.2 ht)] at h
        exact h.symm
      have HNE := Lib.hid hne
      have hb : (((n : Int) + 1) == t) = true := by simpa using ht
      clear hne hf ht HST HTH HLEG HTM hcast
      go_wp2
      go_roundw
      case rel => exact ⟨n + 1, by omega, by go_num, HNE.out, htt⟩
      case measure => simp [intOf] <;> omega
    have hb2 : (((n : Int) + 1) == t) = false := by simpa using ht
    have HLA := Lib.hid (HLEG.out _ Tr (z + 1) z bKr bLr f ((n : Int) + 1))
    have hst := HST.out
    simp only [ne_eq, hf, ht, not_false_eq_true, and_self, true_and] at hst
    have HGA : Hid (∃ L, legOf l kd p f ((n : Int) + 1) = L) := Lib.hid ⟨_, rfl⟩
    obtain ⟨⟨⟨a1, a2⟩, oka⟩, hLa⟩ := HGA.out
    have HGB : Hid (∃ L, legOf l kd p ((n : Int) + 1) t = L) := Lib.hid ⟨_, rfl⟩
    obtain ⟨⟨⟨b1, b2⟩, okb⟩, hLb⟩ := HGB.out
    rw [hLa] at HLA
    rw [hLa, hLb] at hst
    have HLB := Lib.hid (fun w' t9 hk hb => HLEG.out w' t9 (z + 1) z hk hb ((n : Int) + 1) t)
    simp only [hLb] at HLB
    have HS2 := Lib.hid hst
    clear hst HST HTH HGA HGB hLa hLb HLEG hf ht hcast
    simp only at HLA HLB HS2
    go_wp2_with fail
    refine HLA.out.mono ?_
    rintro _ w3 ⟨rfl, t3⟩
    have te := Tch.alloc (fun _ => False) w3 (.cells #[.int .i64 a1, .int .i64 a2] 42)
    have bA := Blk.new w3 42 #[.int .i64 a1, .int .i64 a2]
    have t3e := t3.trans te
    have bO4 := bOr.keep t3e id
    have bK4 := bKr.keep t3e id
    have bL4 := bLr.keep t3e id
    have T4 := Tr.trans t3e
    have ht4 := htt.trans t3e
    have x0 : (w3.alloc (.cells #[.int .i64 a1, .int .i64 a2] 42)).cell? ⟨z + 1, 0, none⟩ = some (.int .i64 f) := bK4.cell 0
    have x1 : (w3.alloc (.cells #[.int .i64 a1, .int .i64 a2] 42)).cell? ⟨z + 1, 1, none⟩ = some (.int .i64 t) := bK4.cell 1
    have x2 : (w3.alloc (.cells #[.int .i64 a1, .int .i64 a2] 42)).cell? ⟨z + 1, 2, none⟩ = some (.int .i64 kd) := bK4.cell 2
    have x3 : (w3.alloc (.cells #[.int .i64 a1, .int .i64 a2] 42)).cell? ⟨z + 1, 3, none⟩ = some (.int .i64 p) := bK4.cell 3
    have x4 : (w3.alloc (.cells #[.int .i64 a1, .int .i64 a2] 42)).cell? ⟨z + 1, 4, none⟩ = some (.int .i64 k5) := bK4.cell 4
    have x5 : (w3.alloc (.cells #[.int .i64 a1, .int .i64 a2] 42)).cell? ⟨z + 1, 5, none⟩ = some (.int .i64 k6) := bK4.cell 5
    have HLB4 := Lib.hid (HLB.out _ T4 bK4 bL4)
    clear HLA HLB t3 te t3e bOr bKr bLr Tr htt
    go_wp2_with fail
    generalize w3.alloc _ = W3 at *
    generalize w3.heap.size = y3 at *
    refine HLB4.out.mono ?_
    rintro _ w5 ⟨rfl, t5⟩
    have te := Tch.alloc (fun _ => False) w5 (.cells #[.int .i64 b1, .int .i64 b2] 42)
    have bB := Blk.new w5 42 #[.int .i64 b1, .int .i64 b2]
    have t5e := t5.trans te
    have bA6 := bA.keep t5e id
    have bO6 := bO4.keep t5e id
    have T6 := T4.trans t5e
    have ht6 := ht4.trans t5e
    have p0 : (w5.alloc (.cells #[.int .i64 b1, .int .i64 b2] 42)).cell? ⟨y3, 0, none⟩ = some (.int .i64 a1) := bA6.cell 0
    have p1 : (w5.alloc (.cells #[.int .i64 b1, .int .i64 b2] 42)).cell? ⟨y3, 1, none⟩ = some (.int .i64 a2) := bA6.cell 1
    have q0 : (w5.alloc (.cells #[.int .i64 b1, .int .i64 b2] 42)).cell? ⟨w5.heap.size, 0, none⟩ = some (.int .i64 b1) := bB.cell 0
    have q1 : (w5.alloc (.cells #[.int .i64 b1, .int .i64 b2] 42)).cell? ⟨w5.heap.size, 1, none⟩ = some (.int .i64 b2) := bB.cell 1
    have HTM6 := Lib.hid (HTM.out _ T6 a1 a2 b1 b2)
    have HTMI : Hid (∃ L, timesOf (a1, a2) (b1, b2) = L) := Lib.hid ⟨_, rfl⟩
    obtain ⟨⟨⟨m1, m2⟩, m3⟩, hM⟩ := HTMI.out
    rw [hM] at HTM6
    have hs2 := HS2.out
    rw [hM] at hs2
    simp only at HTM6 hs2
    have HS3 := Lib.hid hs2
    clear HTMI hM hs2 HS2 HLB4 t5 te t5e bA bO4 bK4 bL4 T4 ht4 bA6 bB HTM x0 x1 x2 x3 x4 x5 bO2 bK2 bL2
    cases oka
    · have hne : thirdFrom l kd p f t (n + 1) = ((v1, v2), v3) := by
        have h := HS3.out
        rw [if_neg (fun h => by cases h.1.1)] at h
        exact h.symm
      have HNE := Lib.hid hne
      clear hne HS3 HTM6 p0 p1 q0 q1
      go_wp2
      go_roundw
      case rel => exact ⟨n + 1, by omega, by go_num, HNE.out, ht6⟩
      case measure => simp [intOf] <;> omega
    cases okb
    · have hne : thirdFrom l kd p f t (n + 1) = ((v1, v2), v3) := by
        have h := HS3.out
        rw [if_neg (fun h => by cases h.1.2)] at h
        exact h.symm
      have HNE := Lib.hid hne
      clear hne HS3 HTM6 p0 p1 q0 q1
      go_wp2
      go_roundw
      case rel => exact ⟨n + 1, by omega, by go_num, HNE.out, ht6⟩
      case measure => simp [intOf] <;> omega
    go_wp2_with fail
    generalize w5.alloc _ = W5 at *
    generalize w5.heap.size = y5 at *
    refine HTM6.out.mono ?_
    rintro _ w7 ⟨rfl, t7⟩
    have te := Tch.alloc (fun _ => False) w7 (.cells #[.int .i64 m1, .int .i64 m2] 42)
    have bM := Blk.new w7 42 #[.int .i64 m1, .int .i64 m2]
    have t7e := t7.trans te
    have bO8 := bO6.keep t7e id
    have T8 := T6.trans t7e
    have ht8 := ht6.trans t7e
    have g0 : (w7.alloc (.cells #[.int .i64 m1, .int .i64 m2] 42)).cell? ⟨w7.heap.size, 0, none⟩ = some (.int .i64 m1) := bM.cell 0
    have g1 : (w7.alloc (.cells #[.int .i64 m1, .int .i64 m2] 42)).cell? ⟨w7.heap.size, 1, none⟩ = some (.int .i64 m2) := bM.cell 1
    clear HTM6 t7 te t7e bO6 T6 ht6 p0 p1 q0 q1 bM
    by_cases hm : m3 = 0
    · have h := HS3.out
      rw [if_pos ⟨⟨trivial, trivial⟩, hm⟩] at h
      injection h with e1 e2
      injection e1 with e0 e1
      subst e0; subst e1; subst e2
      subst hm
      clear HS3 ht8
      go_wp2_with (refine wpList_store_blk rfl _ _ _ rfl (z + 1 + 1) #[.int .i64 v1, .int .i64 v2] (by rfl) (by rfl) bO8 (by kernel_rfl) rfl (by simp [Value.oneCell']) ?_; refine Hid.out ?_)
      refine Lib.hid ?_
      intro w9 hF tF
      have HBF := Lib.hid hF
      have HTF := Lib.hid tF
      clear hF tF
      go_wp2
      (try simp only [Exit.inBlock, Exit.then])
      (try rw [Exit.noGoto_ret])
      refine bodyPost_ret (results_row_tmp (P := Tryz.prog) rfl _ _ (z + 1 + 1) 42 _ (0, 0) _ rfl HBF.out Tryz.underlying42 rfl (by kernel_rfl)) rfl ?_
      exact ⟨rfl, T8.trans' (F' := fun g => g = z + 1 + 1) HTF.out (fun i hi => .inr (by have hi : i = z + 1 + 1 := hi; have := HZW.out; omega))⟩
    · have hne : thirdFrom l kd p f t (n + 1) = ((v1, v2), v3) := by
        have h := HS3.out
        rw [if_neg (fun h => hm h.2)] at h
        exact h.symm
      have HNE := Lib.hid hne
      have hm' : (m3 == 0) = false := by simpa using hm
      clear hne HS3 hm
      go_wp2
      go_roundw
      case rel => exact ⟨n + 1, by omega, by go_num, HNE.out, ht8⟩
      case measure => simp [intOf] <;> omega
end Go.Proofs.YtblenmelciaigaaGreatDoor
