/-
  The document's rates: found; ratios that may be.
-/
import Derived.Test.YtblenmelciaigaaGreatDoorZ55
import Derived.Test.YtblenmelciaigaaGreatDoorZ20
import Derived.Test.YtblenmelciaigaaGreatDoorZ4
import Derived.Test.YtblenmelciaigaaGreatDoorZ13
namespace Go.Gk
open Go.RowKit
theorem findOf_take {l : List Rt6} {j : Nat} (h : j < l.length) (k : Rk4) : findOf (l.take (j + 1)) k = if rkey l[j] = k then (l[j].2.2.2.2, true) else findOf (l.take j) k := by
  unfold findOf
  rw [lastRat_take h]
  by_cases e : rkey l[j] = k
  · rw [if_pos e, if_pos e]
  · rw [if_neg e, if_neg e]
end Go.Gk
namespace Go.Proofs.YtblenmelciaigaaGreatDoor
open Go.RowKit Go.Gk

set_option maxRecDepth 100000 in
set_option maxHeartbeats 800000 in
theorem money17_any (c : Int) (w : World) : Calls Tryz.prog 82 #[.int .i64 c] w fun e w' => e = .returned (.bool (decide (1 ≤ c ∧ c ≤ 8))) ∧ w = w' := by
  by_cases h1 : 1 ≤ c
  · by_cases h2 : c ≤ 8
    · rw [decide_eq_true ⟨h1, h2⟩]
      go_enter Tryz.func82, Tryz.ntmps82
      go_wp2
      go_ret
      exact ⟨rfl, rfl⟩
    · rw [decide_eq_false (fun h => h2 h.2)]
      go_enter Tryz.func82, Tryz.ntmps82
      go_wp2
      go_ret
      exact ⟨rfl, rfl⟩
  · rw [decide_eq_false (fun h => h1 h.1)]
    go_enter Tryz.func82, Tryz.ntmps82
    go_wp2
    go_ret
    exact ⟨rfl, rfl⟩

set_option maxRecDepth 100000 in
set_option maxHeartbeats 1600000 in
theorem refone_any (r1 r2 r3 r4 r5 r6 k1 k2 k3 k4 k5 k6 : Int) (w : World) :
    Calls Tryz.prog 189 #[.agg #[.int .i64 r1, .int .i64 r2, .int .i64 r3, .int .i64 r4, .int .i64 r5, .int .i64 r6], .agg #[.int .i64 k1, .int .i64 k2, .int .i64 k3, .int .i64 k4, .int .i64 k5, .int .i64 k6]] w fun e w' => e = .returned (.bool (decide ((r1, r2, r3, r4) = (k1, k2, k3, k4)))) ∧ Tch (fun _ => False) w w' := by
  by_cases e1 : r1 = k1
  · subst e1
    by_cases e2 : r2 = k2
    · subst e2
      by_cases e3 : r3 = k3
      · subst e3
        by_cases e4 : r4 = k4
        · subst e4
          rw [decide_eq_true rfl]
          go_enter Tryz.func189, Tryz.ntmps189
          go_wp2
          go_ret
          exact ⟨rfl, (Tch.alloc _ _ _).trans (Tch.alloc _ _ _)⟩
        · rw [decide_eq_false (by simp [e4])]
          have b : (r4 == k4) = false := by simpa using e4
          clear e4
          go_enter Tryz.func189, Tryz.ntmps189
          go_wp2
          go_ret
          exact ⟨rfl, (Tch.alloc _ _ _).trans (Tch.alloc _ _ _)⟩
      · rw [decide_eq_false (by simp [e3])]
        have b : (r3 == k3) = false := by simpa using e3
        clear e3
        go_enter Tryz.func189, Tryz.ntmps189
        go_wp2
        go_ret
        exact ⟨rfl, (Tch.alloc _ _ _).trans (Tch.alloc _ _ _)⟩
    · rw [decide_eq_false (by simp [e2])]
      have b : (r2 == k2) = false := by simpa using e2
      clear e2
      go_enter Tryz.func189, Tryz.ntmps189
      go_wp2
      go_ret
      exact ⟨rfl, (Tch.alloc _ _ _).trans (Tch.alloc _ _ _)⟩
  · rw [decide_eq_false (by simp [e1])]
    have b : (r1 == k1) = false := by simpa using e1
    clear e1
    go_enter Tryz.func189, Tryz.ntmps189
    go_wp2
    go_ret
    exact ⟨rfl, (Tch.alloc _ _ _).trans (Tch.alloc _ _ _)⟩

set_option maxRecDepth 100000 in
set_option maxHeartbeats 1600000 in
theorem refcheck04_any (r1 r2 : Int) (w : World) :
    Calls Tryz.prog 155 #[.agg #[.int .i64 r1, .int .i64 r2]] w fun e w' => e = .returned (.int .i64 (if ratOK (r1, r2) = true then 0 else 11)) ∧ Tch (fun _ => False) w w' := by
  have HR := Lib.hid (ratOK_iff (r := (r1, r2)))
  obtain ⟨A, hA⟩ : ∃ A, (if ratOK (r1, r2) = true then (0 : Int) else 11) = A := ⟨_, rfl⟩
  have HA := Lib.hid hA
  rw [hA]
  clear hA
  by_cases h1 : r1 < 1
  · obtain rfl : A = 11 := by rw [← HA.out, if_neg (fun h => by have := HR.out.1 h; omega)]
    clear HR HA
    go_enter Tryz.func155, Tryz.ntmps155
    go_wp2
    go_ret
    exact ⟨rfl, Tch.alloc _ _ _⟩
  by_cases h2 : r2 < 1
  · obtain rfl : A = 11 := by rw [← HA.out, if_neg (fun h => by have := HR.out.1 h; omega)]
    clear HR HA
    go_enter Tryz.func155, Tryz.ntmps155
    go_wp2
    go_ret
    exact ⟨rfl, Tch.alloc _ _ _⟩
  by_cases h3 : 1000000000000 < r1
  · obtain rfl : A = 11 := by rw [← HA.out, if_neg (fun h => by have := HR.out.1 h; omega)]
    clear HR HA
    go_enter Tryz.func155, Tryz.ntmps155
    go_wp2
    go_ret
    exact ⟨rfl, Tch.alloc _ _ _⟩
  by_cases h4 : 1000000000000 < r2
  · obtain rfl : A = 11 := by rw [← HA.out, if_neg (fun h => by have := HR.out.1 h; omega)]
    clear HR HA
    go_enter Tryz.func155, Tryz.ntmps155
    go_wp2
    go_ret
    exact ⟨rfl, Tch.alloc _ _ _⟩
  · obtain rfl : A = 0 := by rw [← HA.out, if_pos (HR.out.2 ⟨by simp only; omega, by simp only; omega, by simp only; omega, by simp only; omega⟩)]
    clear HR HA
    go_enter Tryz.func155, Tryz.ntmps155
    go_wp2
    go_ret
    exact ⟨rfl, Tch.alloc _ _ _⟩

set_option maxRecDepth 100000 in
set_option maxHeartbeats 3200000 in
theorem reffind_any {w : World} {v : Value} {l : List Rt6} (hl : RowsOf int6 6 (fun _ => True) w v l) (hn : l.length ≤ 1000000) (k1 k2 k3 k4 k5 k6 : Int) :
    Calls Tryz.prog 153 #[v, .agg #[.int .i64 k1, .int .i64 k2, .int .i64 k3, .int .i64 k4, .int .i64 k5, .int .i64 k6]] w fun e w' => e = .returned (.tuple #[.agg #[.int .i64 (findOf l (k1, k2, k3, k4)).1.1, .int .i64 (findOf l (k1, k2, k3, k4)).1.2], .bool (findOf l (k1, k2, k3, k4)).2]) ∧ Tch (fun _ => False) w w' := by
  have ta := Tch.alloc (fun _ => False) w (.cells #[.int .i64 k1, .int .i64 k2, .int .i64 k3, .int .i64 k4, .int .i64 k5, .int .i64 k6] 68)
  have tb := Tch.alloc (fun _ => False) (w.alloc (.cells #[.int .i64 k1, .int .i64 k2, .int .i64 k3, .int .i64 k4, .int .i64 k5, .int .i64 k6] 68)) (.cells #[.int .i64 0, .int .i64 0] 42)
  have tc := Tch.alloc (fun _ => False) ((w.alloc (.cells #[.int .i64 k1, .int .i64 k2, .int .i64 k3, .int .i64 k4, .int .i64 k5, .int .i64 k6] 68)).alloc (.cells #[.int .i64 0, .int .i64 0] 42)) (.cells #[.int .i64 0, .int .i64 0] 42)
  have tw := (ta.trans tb).trans tc
  have bK := ((Blk.new w 68 #[.int .i64 k1, .int .i64 k2, .int .i64 k3, .int .i64 k4, .int .i64 k5, .int .i64 k6]).keep tb id).keep tc id
  have bO := (Blk.new2 w (.cells #[.int .i64 k1, .int .i64 k2, .int .i64 k3, .int .i64 k4, .int .i64 k5, .int .i64 k6] 68) 42 #[.int .i64 0, .int .i64 0]).keep tc id
  have bF : Blk (((w.alloc (.cells #[.int .i64 k1, .int .i64 k2, .int .i64 k3, .int .i64 k4, .int .i64 k5, .int .i64 k6] 68)).alloc (.cells #[.int .i64 0, .int .i64 0] 42)).alloc (.cells #[.int .i64 0, .int .i64 0] 42)) (w.heap.size + 1 + 1) 42 #[.int .i64 0, .int .i64 0] := by simpa using Blk.new ((w.alloc (.cells #[.int .i64 k1, .int .i64 k2, .int .i64 k3, .int .i64 k4, .int .i64 k5, .int .i64 k6] 68)).alloc (.cells #[.int .i64 0, .int .i64 0] 42)) 42 #[.int .i64 0, .int .i64 0]
  obtain ⟨A, cc, rfl, hc1, hc2⟩ := hl.form
  have HLT := Lib.hid (fun w' (t9 : Tch (fun _ => False) w w') => hl.keep t9)
  obtain ⟨AV, hAV⟩ : ∃ AV, findOf l (k1, k2, k3, k4) = AV := ⟨_, rfl⟩
  have HAV := Lib.hid hAV
  rw [hAV]
  obtain ⟨⟨v1, v2⟩, v3⟩ := AV
  simp only
  clear ta tb tc hl hAV
  go_enter Tryz.func153, Tryz.ntmps153
  go_wp2_with fail
  generalize ((w.alloc (.cells #[.int .i64 k1, .int .i64 k2, .int .i64 k3, .int .i64 k4, .int .i64 k5, .int .i64 k6] 68)).alloc (.cells #[.int .i64 0, .int .i64 0] 42)).alloc _ = W at *
  generalize hzw : w.heap.size = z at *
  have HZW := Lib.hid hzw
  clear hzw
  go_loopw [7, 8] (fun fd i wr => ∃ (j : Nat) (a1 a2 : Int) (ok : Bool), j ≤ l.length ∧ i = .int .i64 j ∧ fd = .bool ok ∧ findOf (l.take j) (k1, k2, k3, k4) = ((a1, a2), ok) ∧ Blk wr (z + 1 + 1) 42 #[.int .i64 a1, .int .i64 a2] ∧ Tch (fun g => g = z + 1 + 1) W wr) (fun _ i _ => l.length - (intOf i).toNat)
  case atStart => exact ⟨0, 0, 0, false, Nat.zero_le _, rfl, rfl, rfl, bF, Tch.refl _ _⟩
  case round =>
    obtain ⟨j, a1, a2, ok, hj, rfl, rfl, hf, hF, ht⟩ := hrel
    have HFF := Lib.hid hf
    clear hf
    have Tr := tw.trans' ht (fun i hi => .inr (by have hi : i = z + 1 + 1 := hi; have := HZW.out; omega))
    have bKr := bK.keep ht (by omega)
    have bOr := bO.keep ht (by omega)
    by_cases hlt : j < l.length
    · have hlt' : (j : Int) < (l.length : Int) := by omega
      have hj0 : (0 : Int) ≤ (j : Int) := Int.natCast_nonneg _
      have hlr := HLT.out wr Tr
      have HTK := Lib.hid (findOf_take hlt (k1, k2, k3, k4))
      obtain ⟨g, oo, rfl⟩ := hlr.head (by omega)
      have HROW := Lib.hid (fun w' (t9 : Tch (fun _ => False) w w') => Row.six (HLT.out w' t9) int6_len hlt rfl)
      generalize l[j] = r at *
      obtain ⟨r1, r2, r3, r4, r5, r6⟩ := r
      simp only [rkey] at HTK HROW
      obtain ⟨q0, q1, q2, q3, q4, q5⟩ := HROW.out wr Tr
      have y0 := within_cell (F := fun _ => False) q0 id
      have y1 := within_cell (F := fun _ => False) q1 id
      have y2 := within_cell (F := fun _ => False) q2 id
      have y3 := within_cell (F := fun _ => False) q3 id
      have y4 := within_cell (F := fun _ => False) q4 id
      have y5 := within_cell (F := fun _ => False) q5 id
      have x0 := within_cell (F := fun _ => False) (show wr.cell? ⟨z, 0, none⟩ = some (.int .i64 k1) from bKr.cell 0) id
      have x1 := within_cell (F := fun _ => False) (show wr.cell? ⟨z, 1, none⟩ = some (.int .i64 k2) from bKr.cell 1) id
      have x2 := within_cell (F := fun _ => False) (show wr.cell? ⟨z, 2, none⟩ = some (.int .i64 k3) from bKr.cell 2) id
      have x3 := within_cell (F := fun _ => False) (show wr.cell? ⟨z, 3, none⟩ = some (.int .i64 k4) from bKr.cell 3) id
      have x4 := within_cell (F := fun _ => False) (show wr.cell? ⟨z, 4, none⟩ = some (.int .i64 k5) from bKr.cell 4) id
      have x5 := within_cell (F := fun _ => False) (show wr.cell? ⟨z, 5, none⟩ = some (.int .i64 k6) from bKr.cell 5) id
      have HON := Lib.hid (fun w' => refone_any r1 r2 r3 r4 r5 r6 k1 k2 k3 k4 k5 k6 w')
      have htk := HTK.out
      rw [HFF.out] at htk
      have HTK2 := Lib.hid htk
      clear q0 q1 q2 q3 q4 q5 hlr htk HTK HFF
      go_wp2_with fail
      refine wp_region_touch (fun _ => False) [] 5 [] [] (by kernel_rfl) rfl (by kernel_rfl) rfl (fun d _ _ _ _ h => by cases d <;> exact h) ?_ ?_
      · exact trivial
      (intro bef ops hbef hops; clear hbef; subst hops; simp only [List.take_succ_cons, List.take_zero, List.drop_succ_cons, List.drop_zero])
      iterate 5 (refine t_det (by rfl) (by rfl) (by rfl) (by rfl) (fun K hK => ?_); go_big_quiet_op; (first | refine hK _ ?_ | refine ⟨_, fun _ => rfl, hK _ ?_⟩); clear hK K; (try simp only [Act.put, List.setIfInBounds_toArray, List.set_cons_succ, List.set_cons_zero]))
      refine t_nil ?_
      intro w3 hr hp9 hap
      have t3 := (Tch.drew (fun _ => False) wr).trans hr
      have hF3 := hF.keep t3 id
      have T3 := Tr.trans t3
      have ht3 := ht.trans (t3.mono fun _ _ h => h.elim)
      clear hap hp9 hr y0 y1 y2 y3 y4 y5 x0 x1 x2 x3 x4 x5 hF bKr bOr
      go_wp2_with fail
      refine (HON.out w3).mono ?_
      rintro _ w4 ⟨rfl, t4⟩
      have hF4 := hF3.keep t4 id
      have T4 := T3.trans t4
      have ht4 := ht3.trans (t4.mono fun _ _ h => h.elim)
      obtain ⟨_, _, _, _, q4, q5⟩ := HROW.out w4 T4
      clear HON hF3 HROW Tr t3 ht3 T3
      by_cases he : (r1, r2, r3, r4) = (k1, k2, k3, k4)
      · have HT3 := Lib.hid (show findOf (l.take (j + 1)) (k1, k2, k3, k4) = ((r5, r6), true) from by
          rw [HTK2.out]
          exact if_pos he)
        rw [decide_eq_true he]
        clear HTK2 he
        go_wp2_with (refine wpList_store_blk rfl _ _ _ rfl (z + 1 + 1) #[.int .i64 r5, .int .i64 r6] (by rfl) (by rfl) hF4 (by kernel_rfl) rfl (by simp [Value.oneCell']) ?_; refine Hid.out ?_)
        refine Lib.hid ?_
        intro w5 hF5 ts5
        have ht5 := ht4.trans ts5
        clear hF4 ts5 q4 q5
        go_wp2
        go_roundw
        case rel => exact ⟨j + 1, r5, r6, true, by omega, by go_num, rfl, HT3.out, hF5, ht5⟩
        case measure => simp [intOf] <;> omega
      · have HT3 := Lib.hid (show findOf (l.take (j + 1)) (k1, k2, k3, k4) = ((a1, a2), ok) from by
          rw [HTK2.out]
          exact if_neg he)
        rw [decide_eq_false he]
        clear HTK2 he q4 q5
        go_wp2
        go_roundw
        case rel => exact ⟨j + 1, a1, a2, ok, by omega, by go_num, rfl, HT3.out, hF4, ht4⟩
        case measure => simp [intOf] <;> omega
    · obtain rfl : j = l.length := by omega
      have hlt' : ¬ (l.length : Int) < (l.length : Int) := by omega
      have hf := HFF.out
      rw [List.take_length, HAV.out] at hf
      injection hf with e1 e2
      injection e1 with e0 e1
      subst e0; subst e1; subst e2
      have f0 : wr.cell? ⟨z + 1 + 1, 0, none⟩ = some (.int .i64 v1) := hF.cell 0
      have f1 : wr.cell? ⟨z + 1 + 1, 1, none⟩ = some (.int .i64 v2) := hF.cell 1
      clear HFF hF bKr bK bO bF hlt HLT HAV
      go_wp2_with (refine wpList_store_blk rfl _ _ _ rfl (z + 1) #[.int .i64 v1, .int .i64 v2] (by rfl) (by rfl) bOr (by kernel_rfl) rfl (by simp [Value.oneCell']) ?_; refine Hid.out ?_)
      refine Lib.hid ?_
      intro w9 hF9 tF9
      have HBF := Lib.hid hF9
      have HTF := Lib.hid tF9
      clear hF9 tF9 f0 f1
      go_wp2
      (try simp only [Exit.inBlock, Exit.then])
      (try rw [Exit.noGoto_ret])
      refine bodyPost_ret (results_row_tmp (P := Tryz.prog) rfl _ _ (z + 1) 42 _ (0, 0) _ rfl HBF.out Tryz.underlying42 rfl (by kernel_rfl)) rfl ?_
      exact ⟨rfl, Tr.trans' (F' := fun g => g = z + 1) HTF.out (fun i hi => .inr (by have hi : i = z + 1 := hi; have := HZW.out; omega))⟩
end Go.Proofs.YtblenmelciaigaaGreatDoor

/-
  The document's books: currencies.
-/
namespace Go.Proofs.YtblenmelciaigaaGreatDoor
open Go.RowKit Go.Gk

set_option maxRecDepth 100000 in
set_option maxHeartbeats 1600000 in
theorem refcur17_any {w : World} {v : Value} {l : List Int} (hl : RowsOf int1 1 (fun _ => True) w v l) (x : Int) :
    Calls Tryz.prog 81 #[v, .int .i64 x] w fun y w' => (∃ k : Int, y = .returned (.tuple #[.int .i64 (if 1 ≤ x ∧ x ≤ l.length then (l[(x - 1).toNat]?).getD 0 else 0), .int .i64 k])) ∧ w = w' := by
  obtain ⟨A, c, rfl, hc1, hc2⟩ := hl.form
  by_cases hx : 1 ≤ x ∧ x ≤ (l.length : Int)
  · rw [if_pos hx]
    obtain ⟨k, rfl⟩ : ∃ k : Nat, x = (k : Int) + 1 := ⟨(x - 1).toNat, by omega⟩
    have hk : k < l.length := by omega
    have e : ((k : Int) + 1 - 1).toNat = k := by omega
    rw [e, List.getElem?_eq_getElem hk, Option.getD_some]
    obtain ⟨g, o, rfl⟩ := hl.head (by omega)
    have q0 := Row.one hl int1_len hk rfl
    have hk' : (k : Int) < (l.length : Int) := by omega
    have hk0 : (0 : Int) ≤ (k : Int) := Int.natCast_nonneg _
    have g1 : ¬ ((k : Int) + 1) < 1 := by omega
    have g2 : ¬ (l.length : Int) < ((k : Int) + 1) := by omega
    have g3 : wrap64 ((k : Int) + 1 - 1) = (k : Int) := by unfold wrap64; omega
    generalize l[k] = y at *
    clear hl e hx
    go_enter Tryz.func81, Tryz.ntmps81
    go_wp2
    go_ret2
    exact ⟨⟨_, rfl⟩, rfl⟩
  · rw [if_neg hx]
    by_cases h1 : x < 1
    · clear hx hl
      go_enter Tryz.func81, Tryz.ntmps81
      go_wp2
      go_ret2
      exact ⟨⟨_, rfl⟩, rfl⟩
    · have h2 : (l.length : Int) < x := by omega
      clear hx hl
      go_enter Tryz.func81, Tryz.ntmps81
      go_wp2
      go_ret2
      exact ⟨⟨_, rfl⟩, rfl⟩

set_option maxRecDepth 100000 in
set_option maxHeartbeats 1600000 in
theorem refcur30_any {w : World} {e a s r l n : Value} {b : Bks} {us : List (Ent × Value)} (h : BksAt w e a s r l n b us) (x : Int) :
    Calls Tryz.prog 36 #[.agg #[e, a, s, r, l, n], .int .i64 x] w fun y w' => y = .returned (.int .i64 (curOf b x)) ∧ Tch (fun _ => False) w w' := by
  have ta := Tch.alloc (fun _ => False) w (.cells #[e, a, s, r, l, n] 29)
  have bB := Blk.new w 29 #[e, a, s, r, l, n]
  have HC := Lib.hid (refcur17_any (h.ents.keep ta) x)
  obtain ⟨Ae, ce, rfl, _, _⟩ := h.ents.form
  obtain ⟨Aa, ca, rfl, _, _⟩ := h.accs.form
  obtain ⟨As, cs, rfl, _, _⟩ := h.stakes.form
  obtain ⟨Ar, cr, rfl, _, _⟩ := h.rates.form
  obtain ⟨Al, cl, rfl, _, _⟩ := h.locks.form
  obtain ⟨An, cn, rfl, _, _⟩ := h.ent.row.form
  have g0 : (w.alloc (.cells #[.slice Ae b.ents.length ce, .slice Aa b.accs.length ca, .slice As b.stakes.length cs, .slice Ar b.rates.length cr, .slice Al b.locks.length cl, .slice An us.length cn] 29)).cell? ⟨w.heap.size, 0, none⟩ = some (.slice Ae b.ents.length ce) := bB.cell 0
  have HE := Lib.hid (show curOf b x = if 1 ≤ x ∧ x ≤ (b.ents.length : Int) then (b.ents[(x - 1).toNat]?).getD 0 else 0 from rfl)
  rw [← HE.out] at HC
  generalize curOf b x = cu at *
  clear h bB HE
  go_enter Tryz.func36, Tryz.ntmps36
  go_wp2_with fail
  refine HC.out.mono ?_
  rintro _ _ ⟨⟨k, rfl⟩, rfl⟩
  go_wp2
  go_ret
  exact ⟨rfl, ta⟩

set_option maxRecDepth 100000 in
set_option maxHeartbeats 3200000 in
theorem refacc30_any {w : World} {e a s r l n : Value} {b : Bks} {us : List (Ent × Value)} (h : BksAt w e a s r l n b us) {k : Nat} (hk : k < b.accs.length) (x : Int) (hx : x = (k : Int) + 1) :
    Calls Tryz.prog 37 #[.agg #[e, a, s, r, l, n], .int .i64 x] w fun y w' => y = .returned (.tuple #[.agg (acc4 b.accs[k]).toArray, .bool true]) ∧ Tch (fun _ => False) w w' := by
  subst hx
  have ta := Tch.alloc (fun _ => False) w (.cells #[e, a, s, r, l, n] 29)
  have tb := Tch.alloc (fun _ => False) (w.alloc (.cells #[e, a, s, r, l, n] 29)) (.cells #[.int .i64 0, .int .i64 0, .bool false, .bool false] 90)
  have tw := ta.trans tb
  have bB := (Blk.new w 29 #[e, a, s, r, l, n]).keep tb id
  have bA := Blk.new2 w (.cells #[e, a, s, r, l, n] 29) 90 #[.int .i64 0, .int .i64 0, .bool false, .bool false]
  have hacc := h.accs.keep tw
  obtain ⟨Ae, ce, rfl, _, _⟩ := h.ents.form
  obtain ⟨Aa, ca, rfl, _, _⟩ := h.accs.form
  obtain ⟨As, cs, rfl, _, _⟩ := h.stakes.form
  obtain ⟨Ar, cr, rfl, _, _⟩ := h.rates.form
  obtain ⟨Al, cl, rfl, _, _⟩ := h.locks.form
  obtain ⟨An, cn, rfl, _, _⟩ := h.ent.row.form
  obtain ⟨g, o, rfl⟩ := hacc.head (by omega)
  obtain ⟨q0, q1, q2, q3⟩ := Row.four hacc acc4_len hk rfl
  have g1 := bB.cell 1
  simp only [List.getElem?_toArray, List.getElem?_cons_succ, List.getElem?_cons_zero] at g1
  have hk' : (k : Int) < (b.accs.length : Int) := by omega
  have hk0 : (0 : Int) ≤ (k : Int) := Int.natCast_nonneg _
  have c1 : ¬ ((k : Int) + 1) < 1 := by omega
  have c2 : ¬ (b.accs.length : Int) < ((k : Int) + 1) := by omega
  have c3 : wrap64 ((k : Int) + 1 - 1) = (k : Int) := by unfold wrap64; omega
  generalize b.accs[k] = y at *
  obtain ⟨y1, y2, y3, y4⟩ := y
  unfold acc4
  simp only at q0 q1 q2 q3 ⊢
  have hsz : ((w.alloc (.cells #[.slice Ae b.ents.length ce, .slice (some ⟨g, o, none⟩) b.accs.length ca, .slice As b.stakes.length cs, .slice Ar b.rates.length cr, .slice Al b.locks.length cl, .slice An us.length cn] 29)).alloc (.cells #[.int .i64 0, .int .i64 0, .bool false, .bool false] 90)).heap.size = w.heap.size + 2 := by simp
  clear h hacc ta tb bB
  have HTW := Lib.hid tw
  clear tw
  go_enter Tryz.func37, Tryz.ntmps37
  go_wp2_with (refine wpList_store_blk rfl _ _ _ rfl (w.heap.size + 1) #[.int .i64 y1, .int .i64 y2, .bool y3, .bool y4] (by rfl) (by rfl) bA (by kernel_rfl) rfl (by simp [Value.oneCell']) ?_; refine Hid.out ?_)
  refine Lib.hid ?_
  intro w9 hF tF
  have HBF := Lib.hid hF
  have HTF := Lib.hid tF
  clear hF tF bA q0 q1 q2 q3 g1
  go_wp2
  (try simp only [Exit.inBlock, Exit.then])
  (try rw [Exit.noGoto_ret])
  refine bodyPost_ret (results_row_tmp (P := Tryz.prog) rfl _ _ (w.heap.size + 1) 90 _ (0, 0) _ rfl HBF.out Tryz.underlying90 rfl (by kernel_rfl)) rfl ?_
  exact ⟨rfl, HTW.out.trans' (F' := fun g => g = w.heap.size + 1) HTF.out (fun i hi => .inr (by have hi : i = w.heap.size + 1 := hi; omega))⟩
end Go.Proofs.YtblenmelciaigaaGreatDoor
