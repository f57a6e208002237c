/-
  Rates: found in books.
-/
import Derived.Test.YtblenmelciaigaaGreatDoorRn
import Derived.Test.YtblenmelciaigaaGreatDoorZ5
namespace Go.Proofs.YtblenmelciaigaaGreatDoor
open Go.RowKit Go.Gk

set_option maxRecDepth 100000 in
set_option maxHeartbeats 1600000 in
theorem eqRate (a0 : Int) (a1 : Int) (a2 : Int) (a3 : Int) (a4 : Int) (a5 : Int) (b0 : Int) (b1 : Int) (b2 : Int) (b3 : Int) (b4 : Int) (b5 : Int) (w : World) : (Op.equalIn 10000 68 (.agg #[.int .i64 a0, .int .i64 a1, .int .i64 a2, .int .i64 a3, .int .i64 a4, .int .i64 a5]) (.agg #[.int .i64 b0, .int .i64 b1, .int .i64 b2, .int .i64 b3, .int .i64 b4, .int .i64 b5])).run Tryz.prog w = .ok (a0 == b0 && a1 == b1 && a2 == b2 && a3 == b3 && (a4 == b4 && a5 == b5)) w := by
  have u_int := Tryz.underlying3
  have a_int := Tryz.isAgg3
  have z_int := Tryz.sizeOf3
  have hS : Tryz.prog.underlying 68 = some (.struct (Tryz.prog.fieldsOf 68)) := by kernel_rfl
  have hp : Tryz.prog.stoodInHeld 68 = false := by kernel_rfl
  rw [show (10000 : Nat) = 9999 + 1 from rfl, run_equalIn_agg w 9999 68 _ _ hS hp]
  simp only [Program.fieldsOf, Tryz.underlying68]
  go_simp
  by_cases h0 : a0 = b0 <;> by_cases h1 : a1 = b1 <;> by_cases h2 : a2 = b2 <;> by_cases h3 : a3 = b3 <;> by_cases h4 : a4 = b4 <;> by_cases h5 : a5 = b5 <;> simp [h0, h1, h2, h3, h4, h5]
theorem run_eq_Rate (a0 : Int) (a1 : Int) (a2 : Int) (a3 : Int) (a4 : Int) (a5 : Int) (b0 : Int) (b1 : Int) (b2 : Int) (b3 : Int) (b4 : Int) (b5 : Int) (w : World) : (binOp .eql 68 (.agg #[.int .i64 a0, .int .i64 a1, .int .i64 a2, .int .i64 a3, .int .i64 a4, .int .i64 a5]) (.agg #[.int .i64 b0, .int .i64 b1, .int .i64 b2, .int .i64 b3, .int .i64 b4, .int .i64 b5])).run Tryz.prog w = .ok (.bool (a0 == b0 && a1 == b1 && a2 == b2 && a3 == b3 && (a4 == b4 && a5 == b5))) w := by
  rw [run_eql_struct, eqRate]; rfl

set_option maxRecDepth 100000 in
set_option maxHeartbeats 1600000 in
theorem ratekey_any (r1 r2 r3 r4 r5 r6 : Int) (w : World) :
    Calls Tryz.prog 182 #[.agg #[.int .i64 r1, .int .i64 r2, .int .i64 r3, .int .i64 r4, .int .i64 r5, .int .i64 r6]] w fun e w' => e = .returned (.agg #[.int .i64 r1, .int .i64 r2, .int .i64 r3, .int .i64 r4, .int .i64 0, .int .i64 0]) ∧ Tch (fun _ => False) w w' := by
  go_enter Tryz.func182, Tryz.ntmps182
  go_wp2_with fail
  (try simp only [Exit.inBlock, Exit.then])
  (try rw [Exit.noGoto_ret])
  refine bodyPost_ret (results_cell_row (P := Tryz.prog) rfl _ _ (w.heap.size + 1) 68 _ (0, 0) _ rfl (Blk.new2 w (.cells #[.int .i64 r1, .int .i64 r2, .int .i64 r3, .int .i64 r4, .int .i64 0, .int .i64 0] 68) 68 #[.int .i64 r1, .int .i64 r2, .int .i64 r3, .int .i64 r4, .int .i64 0, .int .i64 0]) Tryz.underlying68 rfl (by kernel_rfl)) rfl ?_
  exact ⟨rfl, (Tch.alloc _ _ _).trans (Tch.alloc _ _ _)⟩

set_option maxRecDepth 100000 in
set_option maxHeartbeats 3200000 in
theorem ratelast_any {w : World} {v : Value} {l : List Rt6} (hl : RowsOf int6 6 (fun _ => True) w v l) (hn : l.length ≤ 1000000) (k1 k2 k3 k4 k5 k6 : Int) :
    Calls Tryz.prog 146 #[v, .agg #[.int .i64 k1, .int .i64 k2, .int .i64 k3, .int .i64 k4, .int .i64 k5, .int .i64 k6]] w fun e w' => e = .returned (.int .i64 ((lastAt l (k1, k2, k3, k4) l.length : Int) - 1)) ∧ Tch (fun _ => False) w w' := by
  have ta := Tch.alloc (fun _ => False) w (.cells #[.int .i64 k1, .int .i64 k2, .int .i64 k3, .int .i64 k4, .int .i64 k5, .int .i64 k6] 68)
  have bK := Blk.new w 68 #[.int .i64 k1, .int .i64 k2, .int .i64 k3, .int .i64 k4, .int .i64 k5, .int .i64 k6]
  obtain ⟨A, c, rfl, hc1, hc2⟩ := hl.form
  have HL := Lib.hid hl
  have HK := Lib.hid (fun w' => ratekey_any k1 k2 k3 k4 k5 k6 w')
  have x0 : (w.alloc (.cells #[.int .i64 k1, .int .i64 k2, .int .i64 k3, .int .i64 k4, .int .i64 k5, .int .i64 k6] 68)).cell? ⟨w.heap.size, 0, none⟩ = some (.int .i64 k1) := bK.cell 0
  have x1 : (w.alloc (.cells #[.int .i64 k1, .int .i64 k2, .int .i64 k3, .int .i64 k4, .int .i64 k5, .int .i64 k6] 68)).cell? ⟨w.heap.size, 1, none⟩ = some (.int .i64 k2) := bK.cell 1
  have x2 : (w.alloc (.cells #[.int .i64 k1, .int .i64 k2, .int .i64 k3, .int .i64 k4, .int .i64 k5, .int .i64 k6] 68)).cell? ⟨w.heap.size, 2, none⟩ = some (.int .i64 k3) := bK.cell 2
  have x3 : (w.alloc (.cells #[.int .i64 k1, .int .i64 k2, .int .i64 k3, .int .i64 k4, .int .i64 k5, .int .i64 k6] 68)).cell? ⟨w.heap.size, 3, none⟩ = some (.int .i64 k4) := bK.cell 3
  have x4 : (w.alloc (.cells #[.int .i64 k1, .int .i64 k2, .int .i64 k3, .int .i64 k4, .int .i64 k5, .int .i64 k6] 68)).cell? ⟨w.heap.size, 4, none⟩ = some (.int .i64 k5) := bK.cell 4
  have x5 : (w.alloc (.cells #[.int .i64 k1, .int .i64 k2, .int .i64 k3, .int .i64 k4, .int .i64 k5, .int .i64 k6] 68)).cell? ⟨w.heap.size, 5, none⟩ = some (.int .i64 k6) := bK.cell 5
  clear hl
  obtain ⟨ANS, hANS⟩ : ∃ n, lastAt l (k1, k2, k3, k4) l.length = n := ⟨_, rfl⟩
  have HANS := Lib.hid hANS
  rw [hANS]
  clear hANS
  go_enter Tryz.func146, Tryz.ntmps146
  go_wp2_with fail
  generalize w.alloc _ = W at *
  generalize hzw : w.heap.size = z at *
  have HZW := Lib.hid hzw
  clear hzw
  refine (HK.out W).mono ?_
  rintro _ w1 ⟨rfl, t1⟩
  have bK1 := bK.keep t1 id
  have T1 := ta.trans t1
  have hz1 := bK1.lt
  clear HK x0 x1 x2 x3 x4 x5 bK ta t1
  go_wp2_with (refine wpList_store_blk rfl _ _ _ rfl (z) #[.int .i64 k1, .int .i64 k2, .int .i64 k3, .int .i64 k4, .int .i64 0, .int .i64 0] (by rfl) (by rfl) bK1 (by kernel_rfl) rfl (by simp [Value.oneCell']) ?_; refine Hid.out ?_)
  refine Lib.hid ?_
  intro w2 bK2 ts2
  have T2 := T1.trans' ts2 (fun i hi => .inr (by have hi : i = z := hi; have := HZW.out; omega))
  have hl3 := HL.out.keep T2
  have HKR := Lib.hid (fun (r1 r2 r3 r4 r5 r6 : Int) w' => ratekey_any r1 r2 r3 r4 r5 r6 w')
  have hw64 : wrap64 ((l.length : Int) - 1) = (l.length : Int) - 1 := by unfold wrap64; omega
  clear bK1 T1 ts2 HL
  go_wp2_with fail
  go_loopw [5] (fun i wr => ∃ j : Nat, j ≤ l.length ∧ i = .int .i64 ((j : Int) - 1) ∧ lastAt l (k1, k2, k3, k4) j = ANS ∧ Tch (fun _ => False) w2 wr) (fun i _ => ((intOf i) + 1).toNat)
  case atStart => exact ⟨l.length, Nat.le_refl _, rfl, HANS.out, Tch.refl _ _⟩
  case round =>
    obtain ⟨j, hj, rfl, ha, ht⟩ := hrel
    have HA := Lib.hid ha
    clear ha
    cases j with
    | zero =>
      have hlt : ¬ (0 : Int) ≤ ((0 : Nat) : Int) - 1 := by omega
      have e0 : ANS = 0 := by rw [← HA.out]; rfl
      subst e0
      clear HA HKR hl3 bK2
      go_wp2
      go_ret
      exact ⟨rfl, T2.trans ht⟩
    | succ j =>
      have hjj : (((j + 1 : Nat) : Int) - 1) = (j : Int) := by omega
      rw [hjj]
      have hj0 : (0 : Int) ≤ (j : Int) := Int.natCast_nonneg _
      have hj1 : (j : Int) < (l.length : Int) := by omega
      have hlr := hl3.keep ht
      obtain ⟨g, oo, rfl⟩ := hlr.head (by omega)
      obtain ⟨q0, q1, q2, q3, q4, q5⟩ := Row.six hlr int6_len (show j < l.length by omega) rfl
      have hbr := bK2.keep ht id
      have HGE := Lib.hid (show l[j]? = some l[j] from List.getElem?_eq_getElem (by omega))
      generalize l[j] = r at *
      obtain ⟨r1, r2, r3, r4, r5, r6⟩ := r
      simp only at q0 q1 q2 q3 q4 q5
      have HKJ := Lib.hid (fun w' => HKR.out r1 r2 r3 r4 r5 r6 w')
      have hcmp := fun (w' : World) => run_eq_Rate r1 r2 r3 r4 0 0 k1 k2 k3 k4 0 0 w'
      have y0 := within_cell (F := fun _ => False) q0 id
      have y1 := within_cell (F := fun _ => False) q1 id
      have y2 := within_cell (F := fun _ => False) q2 id
      have y3 := within_cell (F := fun _ => False) q3 id
      have y4 := within_cell (F := fun _ => False) q4 id
      have y5 := within_cell (F := fun _ => False) q5 id
      have z0 := within_cell (F := fun _ => False) (show wr.cell? ⟨z, 0, none⟩ = some (.int .i64 k1) from hbr.cell 0) id
      have z1 := within_cell (F := fun _ => False) (show wr.cell? ⟨z, 1, none⟩ = some (.int .i64 k2) from hbr.cell 1) id
      have z2 := within_cell (F := fun _ => False) (show wr.cell? ⟨z, 2, none⟩ = some (.int .i64 k3) from hbr.cell 2) id
      have z3 := within_cell (F := fun _ => False) (show wr.cell? ⟨z, 3, none⟩ = some (.int .i64 k4) from hbr.cell 3) id
      have z4 := within_cell (F := fun _ => False) (show wr.cell? ⟨z, 4, none⟩ = some (.int .i64 0) from hbr.cell 4) id
      have z5 := within_cell (F := fun _ => False) (show wr.cell? ⟨z, 5, none⟩ = some (.int .i64 0) from hbr.cell 5) id
      have HAT := Lib.hid (show lastAt l (k1, k2, k3, k4) (j + 1) = if (l[j]?.map rkey) = some (k1, k2, k3, k4) then j + 1 else lastAt l (k1, k2, k3, k4) j from rfl)
      clear q0 q1 q2 q3 q4 q5 HKR
      go_wp2_with fail
      refine wp_region_touch (fun _ => False) [] 6 [(4, .inl (.agg #[.int .i64 r1, .int .i64 r2, .int .i64 r3, .int .i64 r4, .int .i64 0, .int .i64 0]))] [] (by kernel_rfl) rfl (by kernel_rfl) rfl (fun d _ _ _ _ h => by cases d <;> exact h) ?_ ?_
      · exact trivial
      (intro bef ops hbef hops; clear hbef; subst hops; simp only [List.take_succ_cons, List.take_zero, List.drop_succ_cons, List.drop_zero])
      iterate 4 (refine t_det (by rfl) (by rfl) (by rfl) (by rfl) (fun K hK => ?_); go_big_quiet_op; (first | refine hK _ ?_ | refine ⟨_, fun _ => rfl, hK _ ?_⟩); clear hK K; (try simp only [Act.put, List.setIfInBounds_toArray, List.set_cons_succ, List.set_cons_zero]))
      refine t_fix (.agg #[.int .i64 r1, .int .i64 r2, .int .i64 r3, .int .i64 r4, .int .i64 0, .int .i64 0]) (by rfl) (by rfl) (fun wa hr hf => ?_) ?_
      · refine yields_of_wp (d := 19) rfl (by simp) (fun K hK => ?_)
        go_step
        refine (HKJ.out wa).mono ?_
        rintro _ wb ⟨rfl, t3⟩
        exact hK _ _ ⟨⟨rfl, t3⟩, newAt_no⟩
      simp only [Act.put, List.setIfInBounds_toArray, List.set_cons_succ, List.set_cons_zero]
      iterate 1 (refine t_det (by rfl) (by rfl) (by rfl) (by rfl) (fun K hK => ?_); go_big_quiet_op; (first | refine hK _ ?_ | refine ⟨_, fun _ => rfl, hK _ ?_⟩); clear hK K; (try simp only [Act.put, List.setIfInBounds_toArray, List.set_cons_succ, List.set_cons_zero]))
      refine t_nil ?_
      intro w3 hr hp9 hap
      have t3 := (Tch.drew (fun _ => False) wr).trans hr
      have ht3 := ht.trans t3
      clear hap hp9 hr y0 y1 y2 y3 y4 y5 z0 z1 z2 z3 z4 z5 HKJ t3 ht hbr hlr
      have hA := HA.out
      rw [HAT.out, HGE.out] at hA
      simp only [Option.map_some, Option.some.injEq, rkey] at hA
      by_cases he : (r1, r2, r3, r4) = (k1, k2, k3, k4)
      · rw [if_pos he] at hA
        injection he with e1 e2
        injection e2 with e2 e3
        injection e3 with e3 e4
        subst e1; subst e2; subst e3; subst e4
        have HFIN := Lib.hid (show (j : Int) = (ANS : Int) - 1 by omega)
        simp only [beq_self_eq_true, Bool.and_self] at hcmp
        clear hA HA HAT HGE
        go_wp2
        go_ret
        rw [← HFIN.out]
        exact ⟨rfl, T2.trans ht3⟩
      · rw [if_neg he] at hA
        have hb : (r1 == k1 && r2 == k2 && r3 == k3 && r4 == k4 && ((0 : Int) == 0 && (0 : Int) == 0)) = false := by
          simp only [Bool.and_eq_false_iff, beq_eq_false_iff_ne, ne_eq, beq_self_eq_true, Bool.true_eq_false, or_false]
          simp only [Prod.mk.injEq] at he
          by_cases c1 : r1 = k1 <;> by_cases c2 : r2 = k2 <;> by_cases c3 : r3 = k3 <;> by_cases c4 : r4 = k4 <;> simp_all
        have HLA := Lib.hid hA
        have hwj : wrap64 ((j : Int) - 1) = (j : Int) - 1 := by unfold wrap64; omega
        simp only [hb] at hcmp
        clear hA HA HAT HGE he hb
        go_wp2
        go_roundw
        case rel => exact ⟨j, by omega, by go_num, HLA.out, ht3⟩
        case measure => simp [intOf] <;> omega

set_option maxRecDepth 100000 in
set_option maxHeartbeats 3200000 in
theorem ratefind_any {w : World} {v : Value} {l : List Rt6} (hl : RowsOf int6 6 (fun _ => True) w v l) (hn : l.length ≤ 1000000) (k1 k2 k3 k4 k5 k6 : Int) :
    Calls Tryz.prog 117 #[v, .agg #[.int .i64 k1, .int .i64 k2, .int .i64 k3, .int .i64 k4, .int .i64 k5, .int .i64 k6]] w fun e w' => e = .returned (.tuple #[.agg #[.int .i64 (findOf l (k1, k2, k3, k4)).1.1, .int .i64 (findOf l (k1, k2, k3, k4)).1.2], .bool (findOf l (k1, k2, k3, k4)).2]) ∧ Tch (fun _ => False) w w' := by
  have ta := Tch.alloc (fun _ => False) w (.cells #[.int .i64 k1, .int .i64 k2, .int .i64 k3, .int .i64 k4, .int .i64 k5, .int .i64 k6] 68)
  have tb := Tch.alloc (fun _ => False) (w.alloc (.cells #[.int .i64 k1, .int .i64 k2, .int .i64 k3, .int .i64 k4, .int .i64 k5, .int .i64 k6] 68)) (.cells #[.int .i64 0, .int .i64 0] 42)
  have tw := ta.trans tb
  have bK := (Blk.new w 68 #[.int .i64 k1, .int .i64 k2, .int .i64 k3, .int .i64 k4, .int .i64 k5, .int .i64 k6]).keep tb id
  have bO := Blk.new2 w (.cells #[.int .i64 k1, .int .i64 k2, .int .i64 k3, .int .i64 k4, .int .i64 k5, .int .i64 k6] 68) 42 #[.int .i64 0, .int .i64 0]
  have HLA := Lib.hid (ratelast_any (hl.keep tw) hn k1 k2 k3 k4 k5 k6)
  have HAR := Lib.hid (lastAt_rat l (k1, k2, k3, k4) l.length (Nat.le_refl _))
  rw [List.take_length] at HAR
  obtain ⟨A, cc, rfl, hc1, hc2⟩ := hl.form
  have HL := Lib.hid hl
  have HFI := Lib.hid (show findOf l (k1, k2, k3, k4) = match lastRat l (k1, k2, k3, k4) with | some r => (r, true) | none => ((0, 0), false) from rfl)
  generalize lastAt l (k1, k2, k3, k4) l.length = at0 at *
  generalize findOf l (k1, k2, k3, k4) = F at *
  have x0 : ((w.alloc (.cells #[.int .i64 k1, .int .i64 k2, .int .i64 k3, .int .i64 k4, .int .i64 k5, .int .i64 k6] 68)).alloc (.cells #[.int .i64 0, .int .i64 0] 42)).cell? ⟨w.heap.size, 0, none⟩ = some (.int .i64 k1) := bK.cell 0
  have x1 : ((w.alloc (.cells #[.int .i64 k1, .int .i64 k2, .int .i64 k3, .int .i64 k4, .int .i64 k5, .int .i64 k6] 68)).alloc (.cells #[.int .i64 0, .int .i64 0] 42)).cell? ⟨w.heap.size, 1, none⟩ = some (.int .i64 k2) := bK.cell 1
  have x2 : ((w.alloc (.cells #[.int .i64 k1, .int .i64 k2, .int .i64 k3, .int .i64 k4, .int .i64 k5, .int .i64 k6] 68)).alloc (.cells #[.int .i64 0, .int .i64 0] 42)).cell? ⟨w.heap.size, 2, none⟩ = some (.int .i64 k3) := bK.cell 2
  have x3 : ((w.alloc (.cells #[.int .i64 k1, .int .i64 k2, .int .i64 k3, .int .i64 k4, .int .i64 k5, .int .i64 k6] 68)).alloc (.cells #[.int .i64 0, .int .i64 0] 42)).cell? ⟨w.heap.size, 3, none⟩ = some (.int .i64 k4) := bK.cell 3
  have x4 : ((w.alloc (.cells #[.int .i64 k1, .int .i64 k2, .int .i64 k3, .int .i64 k4, .int .i64 k5, .int .i64 k6] 68)).alloc (.cells #[.int .i64 0, .int .i64 0] 42)).cell? ⟨w.heap.size, 4, none⟩ = some (.int .i64 k5) := bK.cell 4
  have x5 : ((w.alloc (.cells #[.int .i64 k1, .int .i64 k2, .int .i64 k3, .int .i64 k4, .int .i64 k5, .int .i64 k6] 68)).alloc (.cells #[.int .i64 0, .int .i64 0] 42)).cell? ⟨w.heap.size, 5, none⟩ = some (.int .i64 k6) := bK.cell 5
  clear ta tb hl
  cases at0 with
  | zero =>
    have hF9 := HFI.out
    rw [HAR.out.2.1 rfl] at hF9
    simp only at hF9
    subst hF9
    simp only
    have hm1 : ((0 : Nat) : Int) - 1 < 0 := by omega
    clear HFI HAR HL
    go_enter Tryz.func117, Tryz.ntmps117
    go_wp2_with fail
    generalize (w.alloc (.cells #[.int .i64 k1, .int .i64 k2, .int .i64 k3, .int .i64 k4, .int .i64 k5, .int .i64 k6] 68)).alloc _ = W at *
    generalize hzw : w.heap.size = z at *
    have HZW := Lib.hid hzw
    clear hzw
    refine HLA.out.mono ?_
    rintro _ w1 ⟨rfl, t1⟩
    have bO1 := bO.keep t1 id
    have T1 := tw.trans t1
    clear HLA x0 x1 x2 x3 x4 x5 bK bO tw t1
    go_wp2_with (refine wpList_store_blk rfl _ _ _ rfl (z + 1) #[.int .i64 0, .int .i64 0] (by rfl) (by rfl) bO1 (by kernel_rfl) rfl (by simp [Value.oneCell']) ?_; refine Hid.out ?_)
    refine Lib.hid ?_
    intro w9 hF tF
    have HBF := Lib.hid hF
    have HTF := Lib.hid tF
    clear hF tF
    go_wp2
    (try simp only [Exit.inBlock, Exit.then])
    (try rw [Exit.noGoto_ret])
    refine bodyPost_ret (results_row_tmp (P := Tryz.prog) rfl _ _ (z + 1) 42 _ (0, 0) _ rfl HBF.out Tryz.underlying42 rfl (by kernel_rfl)) rfl ?_
    exact ⟨rfl, T1.trans' (F' := fun g => g = z + 1) HTF.out (fun i hi => .inr (by have hi : i = z + 1 := hi; have := HZW.out; omega))⟩
  | succ i =>
    have hi : i < l.length := by have := HAR.out.1; omega
    have hF9 := HFI.out
    rw [HAR.out.2.2 i hi rfl] at hF9
    simp only at hF9
    subst hF9
    have hlr := HL.out
    obtain ⟨g, oo, rfl⟩ := hlr.head (by omega)
    have HLR := Lib.hid hlr
    have hi0 : (0 : Int) ≤ (i : Int) := Int.natCast_nonneg _
    have hi1 : (i : Int) < (l.length : Int) := by omega
    have hm1 : (((i + 1 : Nat) : Int) - 1) = (i : Int) := by omega
    have hm2 : ¬ (i : Int) < 0 := by omega
    rw [hm1] at HLA
    have HSX := Lib.hid (fun (w' : World) (t : Tch (fun _ => False) w w') => Row.six (hlr.keep t) int6_len hi rfl)
    generalize l[i] = r at *
    obtain ⟨r1, r2, r3, r4, r5, r6⟩ := r
    simp only at HSX ⊢
    clear HFI HAR HL hlr hm1 HLR
    go_enter Tryz.func117, Tryz.ntmps117
    go_wp2_with fail
    generalize (w.alloc (.cells #[.int .i64 k1, .int .i64 k2, .int .i64 k3, .int .i64 k4, .int .i64 k5, .int .i64 k6] 68)).alloc _ = W at *
    generalize hzw : w.heap.size = z at *
    have HZW := Lib.hid hzw
    clear hzw
    refine HLA.out.mono ?_
    rintro _ w1 ⟨rfl, t1⟩
    have bO1 := bO.keep t1 id
    have T1 := tw.trans t1
    obtain ⟨q0, q1, q2, q3, q4, q5⟩ := HSX.out w1 T1
    clear HLA x0 x1 x2 x3 x4 x5 bK bO tw t1 q0 q1 q2 q3 HSX
    go_wp2_with (refine wpList_store_blk rfl _ _ _ rfl (z + 1) #[.int .i64 r5, .int .i64 r6] (by rfl) (by rfl) bO1 (by kernel_rfl) rfl (by simp [Value.oneCell']) ?_; refine Hid.out ?_)
    refine Lib.hid ?_
    intro w9 hF tF
    have HBF := Lib.hid hF
    have HTF := Lib.hid tF
    clear hF tF
    go_wp2
    (try simp only [Exit.inBlock, Exit.then])
    (try rw [Exit.noGoto_ret])
    refine bodyPost_ret (results_row_tmp (P := Tryz.prog) rfl _ _ (z + 1) 42 _ (0, 0) _ rfl HBF.out Tryz.underlying42 rfl (by kernel_rfl)) rfl ?_
    exact ⟨rfl, T1.trans' (F' := fun g => g = z + 1) HTF.out (fun i hi => .inr (by have hi : i = z + 1 := hi; have := HZW.out; omega))⟩

set_option maxRecDepth 100000 in
set_option maxHeartbeats 6400000 in
theorem rateleg_any {w : World} {v : Value} {l : List Rt6} (hl : RowsOf int6 6 (fun _ => True) w v l) (hn : l.length ≤ 1000000) (hT : Tab64 1 w) {zk zl : Nat} {f t kd p k5 k6 : Int} (hk : Blk w zk 68 #[.int .i64 f, .int .i64 t, .int .i64 kd, .int .i64 p, .int .i64 k5, .int .i64 k6]) (hb : Blk w zl 25 #[v]) (c d : Int) :
    Calls Tryz.prog 116 #[.int .i64 c, .int .i64 d, .pointer (some ⟨zk, 0, none⟩), .pointer (some ⟨zl, 0, none⟩)] w fun e w' => e = .returned (.tuple #[.agg #[.int .i64 (legOf l kd p c d).1.1, .int .i64 (legOf l kd p c d).1.2], .bool (legOf l kd p c d).2]) ∧ Tch (fun _ => False) w w' := by
  have ta := Tch.alloc (fun _ => False) w (.cells #[.int .i64 0, .int .i64 0] 42)
  have tb := Tch.alloc (fun _ => False) (w.alloc (.cells #[.int .i64 0, .int .i64 0] 42)) (.cells #[.int .i64 c, .int .i64 d, .int .i64 kd, .int .i64 p, .int .i64 k5, .int .i64 k6] 68)
  have tw := ta.trans tb
  have bO := (Blk.new w 42 #[.int .i64 0, .int .i64 0]).keep tb id
  have bW := Blk.new2 w (.cells #[.int .i64 0, .int .i64 0] 42) 68 #[.int .i64 c, .int .i64 d, .int .i64 kd, .int .i64 p, .int .i64 k5, .int .i64 k6]
  have hk1 := hk.keep ta id
  have HKB := Lib.hid (fun w' (t : Tch (fun _ => False) w w') => hb.keep t id)
  have hzl := hb.lt
  have hbl := hb.keep tw id
  have x0 : (w.alloc (.cells #[.int .i64 0, .int .i64 0] 42)).cell? ⟨zk, 0, none⟩ = some (.int .i64 f) := hk1.cell 0
  have x1 : (w.alloc (.cells #[.int .i64 0, .int .i64 0] 42)).cell? ⟨zk, 1, none⟩ = some (.int .i64 t) := hk1.cell 1
  have x2 : (w.alloc (.cells #[.int .i64 0, .int .i64 0] 42)).cell? ⟨zk, 2, none⟩ = some (.int .i64 kd) := hk1.cell 2
  have x3 : (w.alloc (.cells #[.int .i64 0, .int .i64 0] 42)).cell? ⟨zk, 3, none⟩ = some (.int .i64 p) := hk1.cell 3
  have x4 : (w.alloc (.cells #[.int .i64 0, .int .i64 0] 42)).cell? ⟨zk, 4, none⟩ = some (.int .i64 k5) := hk1.cell 4
  have x5 : (w.alloc (.cells #[.int .i64 0, .int .i64 0] 42)).cell? ⟨zk, 5, none⟩ = some (.int .i64 k6) := hk1.cell 5
  have y0 : ((w.alloc (.cells #[.int .i64 0, .int .i64 0] 42)).alloc (.cells #[.int .i64 c, .int .i64 d, .int .i64 kd, .int .i64 p, .int .i64 k5, .int .i64 k6] 68)).cell? ⟨zl, 0, none⟩ = some v := hbl.cell 0
  have HF1 := Lib.hid (ratefind_any (hl.keep tw) hn c d kd p k5 k6)
  have HF2 := Lib.hid (fun w' (t : Tch (fun _ => False) w w') => ratefind_any (hl.keep t) hn d c kd p k5 k6)
  have HTT := Lib.hid (fun w' (t : Tch (fun _ => False) w w') => hT.keep t)
  have HLG := Lib.hid (show legOf l kd p c d = if (findOf l (c, d, kd, p)).2 = true then ((findOf l (c, d, kd, p)).1, true) else ((invOf (findOf l (d, c, kd, p)).1).1, (findOf l (d, c, kd, p)).2 && decide ((invOf (findOf l (d, c, kd, p)).1).2 = 0)) from rfl)
  generalize findOf l (c, d, kd, p) = F1 at *
  generalize findOf l (d, c, kd, p) = F2 at *
  generalize legOf l kd p c d = AV at *
  obtain ⟨⟨v1, v2⟩, v3⟩ := AV
  obtain ⟨⟨r1, r2⟩, ok1⟩ := F1
  obtain ⟨⟨s1, s2⟩, ok2⟩ := F2
  obtain ⟨A, cc, rfl, hc1, hc2⟩ := hl.form
  clear ta tb hl hT hk hk1 hb hbl
  go_enter Tryz.func116, Tryz.ntmps116
  go_wp2_with fail
  generalize (w.alloc (.cells #[.int .i64 0, .int .i64 0] 42)).alloc _ = W at *
  generalize hzw : w.heap.size = z at *
  have HZW := Lib.hid hzw
  clear hzw
  refine HF1.out.mono ?_
  rintro _ w1 ⟨rfl, t1⟩
  have bO1 := bO.keep t1 id
  have bW1 := bW.keep t1 id
  have T1 := tw.trans t1
  have tc := Tch.alloc (fun _ => False) w1 (.cells #[.int .i64 r1, .int .i64 r2] 42)
  have bF := Blk.new w1 42 #[.int .i64 r1, .int .i64 r2]
  have bO2 := bO1.keep tc id
  have bW2 := bW1.keep tc id
  have T2 := T1.trans tc
  have hz1 := bW1.lt
  have hlg := HLG.out
  clear HF1 x0 x1 x2 x3 x4 x5 y0 bO bW tw t1 bO1 bW1 T1 tc HLG
  cases ok1
  rotate_left
  · rw [if_pos rfl] at hlg
    injection hlg with e1 e2
    injection e1 with e0 e1
    have e0 := e0.symm; have e1 := e1.symm; have e2 := e2.symm; subst e0; subst e1; subst e2
    have f0 : (w1.alloc (.cells #[.int .i64 r1, .int .i64 r2] 42)).cell? ⟨w1.heap.size, 0, none⟩ = some (.int .i64 r1) := bF.cell 0
    have f1 : (w1.alloc (.cells #[.int .i64 r1, .int .i64 r2] 42)).cell? ⟨w1.heap.size, 1, none⟩ = some (.int .i64 r2) := bF.cell 1
    clear HF2 HTT HKB bW2
    go_wp2_with (refine wpList_store_blk rfl _ _ _ rfl (z) #[.int .i64 r1, .int .i64 r2] (by rfl) (by rfl) bO2 (by kernel_rfl) rfl (by simp [Value.oneCell']) ?_; refine Hid.out ?_)
    refine Lib.hid ?_
    intro w9 hF tF
    have HBF := Lib.hid hF
    have HTF := Lib.hid tF
    clear hF tF
    go_wp2
    (try simp only [Exit.inBlock, Exit.then])
    (try rw [Exit.noGoto_ret])
    refine bodyPost_ret (results_row_tmp (P := Tryz.prog) rfl _ _ (z) 42 _ (0, 0) _ rfl HBF.out Tryz.underlying42 rfl (by kernel_rfl)) rfl ?_
    exact ⟨rfl, T2.trans' (F' := fun g => g = z) HTF.out (fun i hi => .inr (by have hi : i = z := hi; have := HZW.out; omega))⟩
  rw [if_neg (by decide)] at hlg
  (try simp only at hlg)
  have HLG := Lib.hid hlg
  clear hlg bF
  go_wp2_with (refine wpList_store_cell rfl _ _ _ rfl (z + 1) 0 (.int .i64 d) (by rfl) (by rfl) rfl (by rfl) bW2 (by simp) ?_; refine Hid.out ?_)
  refine Lib.hid ?_
  intro w3 bW3 ts3
  (try simp only [List.setIfInBounds_toArray, List.set_cons_succ, List.set_cons_zero] at bW3)
  generalize w1.alloc _ = W1 at *
  generalize w1.heap.size = y1 at *
  have bO3 := bO2.keep ts3 (by omega)
  have T3 := T2.trans' ts3 (fun i hi => .inr (by have hi : i = z + 1 := hi; have := HZW.out; omega))
  clear bO2 bW2 T2 ts3
  go_wp2_with (refine wpList_store_cell rfl _ _ _ rfl (z + 1) 1 (.int .i64 c) (by rfl) (by rfl) rfl (by rfl) bW3 (by simp) ?_; refine Hid.out ?_)
  refine Lib.hid ?_
  intro w4 bW4 ts4
  (try simp only [List.setIfInBounds_toArray, List.set_cons_succ, List.set_cons_zero] at bW4)
  have bO4 := bO3.keep ts4 (by omega)
  have T4 := T3.trans' ts4 (fun i hi => .inr (by have hi : i = z + 1 := hi; have := HZW.out; omega))
  have y0 : w4.cell? ⟨zl, 0, none⟩ = some (.slice A l.length cc) := (HKB.out w4 T4).cell 0
  have x0 : w4.cell? ⟨z + 1, 0, none⟩ = some (.int .i64 d) := bW4.cell 0
  have x1 : w4.cell? ⟨z + 1, 1, none⟩ = some (.int .i64 c) := bW4.cell 1
  have x2 : w4.cell? ⟨z + 1, 2, none⟩ = some (.int .i64 kd) := bW4.cell 2
  have x3 : w4.cell? ⟨z + 1, 3, none⟩ = some (.int .i64 p) := bW4.cell 3
  have x4 : w4.cell? ⟨z + 1, 4, none⟩ = some (.int .i64 k5) := bW4.cell 4
  have x5 : w4.cell? ⟨z + 1, 5, none⟩ = some (.int .i64 k6) := bW4.cell 5
  have HF24 := Lib.hid (HF2.out w4 T4)
  clear bO3 bW3 T3 ts4 HF2 HKB
  go_wp2_with fail
  refine HF24.out.mono ?_
  rintro _ w5 ⟨rfl, t5⟩
  have bO5 := bO4.keep t5 id
  have T5 := T4.trans t5
  have td := Tch.alloc (fun _ => False) w5 (.cells #[.int .i64 s1, .int .i64 s2] 42)
  have bS := Blk.new w5 42 #[.int .i64 s1, .int .i64 s2]
  have bO6 := bO5.keep td id
  have T6 := T5.trans td
  have f0 : (w5.alloc (.cells #[.int .i64 s1, .int .i64 s2] 42)).cell? ⟨w5.heap.size, 0, none⟩ = some (.int .i64 s1) := bS.cell 0
  have f1 : (w5.alloc (.cells #[.int .i64 s1, .int .i64 s2] 42)).cell? ⟨w5.heap.size, 1, none⟩ = some (.int .i64 s2) := bS.cell 1
  have HIV := Lib.hid (inverse_any s1 s2 _ (HTT.out _ T6))
  generalize invOf (s1, s2) = IV at *
  obtain ⟨⟨i1, i2⟩, i3⟩ := IV
  clear HF24 x0 x1 x2 x3 x4 x5 y0 bO4 bW4 T4 t5 bO5 T5 td HTT
  (try simp only at HIV)
  (try simp only at HLG)
  go_wp2_with fail
  generalize w5.alloc _ = W5 at *
  generalize w5.heap.size = y5 at *
  refine HIV.out.mono ?_
  rintro _ w7 ⟨rfl, t7⟩
  have te := Tch.alloc (fun _ => False) w7 (.cells #[.int .i64 i1, .int .i64 i2] 42)
  have bI := Blk.new w7 42 #[.int .i64 i1, .int .i64 i2]
  have bO8 := (bO6.keep t7 id).keep te id
  have T8 := (T6.trans t7).trans te
  have g0 : (w7.alloc (.cells #[.int .i64 i1, .int .i64 i2] 42)).cell? ⟨w7.heap.size, 0, none⟩ = some (.int .i64 i1) := bI.cell 0
  have g1 : (w7.alloc (.cells #[.int .i64 i1, .int .i64 i2] 42)).cell? ⟨w7.heap.size, 1, none⟩ = some (.int .i64 i2) := bI.cell 1
  have hlg := HLG.out
  clear HIV f0 f1 bO6 T6 t7 te bS bI HLG
  cases ok2
  · rw [Bool.false_and] at hlg
    injection hlg with e1 e2
    injection e1 with e0 e1
    have e0 := e0.symm; have e1 := e1.symm; have e2 := e2.symm; subst e0; subst e1; subst e2
    go_wp2_with (refine wpList_store_blk rfl _ _ _ rfl (z) #[.int .i64 i1, .int .i64 i2] (by rfl) (by rfl) bO8 (by kernel_rfl) rfl (by simp [Value.oneCell']) ?_; refine Hid.out ?_)
    refine Lib.hid ?_
    intro w9 hF tF
    have HBF := Lib.hid hF
    have HTF := Lib.hid tF
    clear hF tF
    go_wp2
    (try simp only [Exit.inBlock, Exit.then])
    (try rw [Exit.noGoto_ret])
    refine bodyPost_ret (results_row_tmp (P := Tryz.prog) rfl _ _ (z) 42 _ (0, 0) _ rfl HBF.out Tryz.underlying42 rfl (by kernel_rfl)) rfl ?_
    exact ⟨rfl, T8.trans' (F' := fun g => g = z) HTF.out (fun i hi => .inr (by have hi : i = z := hi; have := HZW.out; omega))⟩
  · rw [Bool.true_and] at hlg
    by_cases hi3 : i3 = 0
    · subst hi3
      rw [decide_eq_true rfl] at hlg
      injection hlg with e1 e2
      injection e1 with e0 e1
      have e0 := e0.symm; have e1 := e1.symm; have e2 := e2.symm; subst e0; subst e1; subst e2
      go_wp2_with (refine wpList_store_blk rfl _ _ _ rfl (z) #[.int .i64 i1, .int .i64 i2] (by rfl) (by rfl) bO8 (by kernel_rfl) rfl (by simp [Value.oneCell']) ?_; refine Hid.out ?_)
      refine Lib.hid ?_
      intro w9 hF tF
      have HBF := Lib.hid hF
      have HTF := Lib.hid tF
      clear hF tF
      go_wp2
      (try simp only [Exit.inBlock, Exit.then])
      (try rw [Exit.noGoto_ret])
      refine bodyPost_ret (results_row_tmp (P := Tryz.prog) rfl _ _ (z) 42 _ (0, 0) _ rfl HBF.out Tryz.underlying42 rfl (by kernel_rfl)) rfl ?_
      exact ⟨rfl, T8.trans' (F' := fun g => g = z) HTF.out (fun i hi => .inr (by have hi : i = z := hi; have := HZW.out; omega))⟩
    · have hi4 : (i3 == 0) = false := by simpa using hi3
      rw [decide_eq_false hi3] at hlg
      injection hlg with e1 e2
      injection e1 with e0 e1
      have e0 := e0.symm; have e1 := e1.symm; have e2 := e2.symm; subst e0; subst e1; subst e2
      go_wp2_with (refine wpList_store_blk rfl _ _ _ rfl (z) #[.int .i64 i1, .int .i64 i2] (by rfl) (by rfl) bO8 (by kernel_rfl) rfl (by simp [Value.oneCell']) ?_; refine Hid.out ?_)
      refine Lib.hid ?_
      intro w9 hF tF
      have HBF := Lib.hid hF
      have HTF := Lib.hid tF
      clear hF tF
      go_wp2
      (try simp only [Exit.inBlock, Exit.then])
      (try rw [Exit.noGoto_ret])
      refine bodyPost_ret (results_row_tmp (P := Tryz.prog) rfl _ _ (z) 42 _ (0, 0) _ rfl HBF.out Tryz.underlying42 rfl (by kernel_rfl)) rfl ?_
      exact ⟨rfl, T8.trans' (F' := fun g => g = z) HTF.out (fun i hi => .inr (by have hi : i = z := hi; have := HZW.out; omega))⟩
end Go.Proofs.YtblenmelciaigaaGreatDoor
