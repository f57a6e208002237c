/-
  The document's translations.
-/
import Derived.Test.YtblenmelciaigaaGreatDoorRs
import Derived.Test.YtblenmelciaigaaGreatDoorZ57
import Derived.Test.YtblenmelciaigaaGreatDoorTr
import Derived.Test.YtblenmelciaigaaGreatDoorZ24
namespace Go.Proofs.YtblenmelciaigaaGreatDoor
open Go.RowKit Go.Gk

set_option maxRecDepth 100000 in
set_option maxHeartbeats 6400000 in
theorem refrate30_any {w : World} {e a s r l n : Value} {b : Bks} {us : List (Ent × Value)} (h : BksAt w e a s r l n b us) (hr : b.rates.length ≤ 1000000) (f t kd p : Int) :
    Calls Tryz.prog 38 #[.agg #[e, a, s, r, l, n], .int .i64 f, .int .i64 t, .int .i64 kd, .int .i64 p] w fun y w' => y = .returned (.tuple #[.agg #[.int .i64 (rateOf b.rates f t kd p).1.1, .int .i64 (rateOf b.rates f t kd p).1.2], .bool (rateOf b.rates f t kd p).2]) ∧ Tch (fun _ => False) w w' := by
  have HC := Lib.hid (fun w' (t9 : Tch (fun _ => False) w w') => refcross_any (h.rates.keep t9) hr f t kd p 0 0)
  obtain ⟨Ae, ce, rfl, _, _⟩ := h.ents.form
  obtain ⟨Aa, ca, rfl, _, _⟩ := h.accs.form
  obtain ⟨As, cs, rfl, _, _⟩ := h.stakes.form
  obtain ⟨Ar, cr, rfl, _, _⟩ := h.rates.form
  obtain ⟨Al, cl, rfl, _, _⟩ := h.locks.form
  obtain ⟨An, cn, rfl, _, _⟩ := h.ent.row.form
  have ta := Tch.alloc (fun _ => False) w (.cells #[.slice Ae b.ents.length ce, .slice Aa b.accs.length ca, .slice As b.stakes.length cs, .slice Ar b.rates.length cr, .slice Al b.locks.length cl, .slice An us.length cn] 29)
  have tb := Tch.alloc (fun _ => False) (w.alloc (.cells #[.slice Ae b.ents.length ce, .slice Aa b.accs.length ca, .slice As b.stakes.length cs, .slice Ar b.rates.length cr, .slice Al b.locks.length cl, .slice An us.length cn] 29)) (.cells #[.int .i64 0, .int .i64 0] 42)
  have tw := ta.trans tb
  have bB := (Blk.new w 29 #[.slice Ae b.ents.length ce, .slice Aa b.accs.length ca, .slice As b.stakes.length cs, .slice Ar b.rates.length cr, .slice Al b.locks.length cl, .slice An us.length cn]).keep tb id
  have bO := Blk.new2 w (.cells #[.slice Ae b.ents.length ce, .slice Aa b.accs.length ca, .slice As b.stakes.length cs, .slice Ar b.rates.length cr, .slice Al b.locks.length cl, .slice An us.length cn] 29) 42 #[.int .i64 0, .int .i64 0]
  have HRT := Lib.hid (show rateOf b.rates f t kd p = if f = t ∧ 1 ≤ f ∧ f ≤ 8 then ((1, 1), true) else crossOf b.rates f t kd p from rfl)
  generalize rateOf b.rates f t kd p = AV at *
  generalize crossOf b.rates f t kd p = CV at *
  obtain ⟨⟨v1, v2⟩, v3⟩ := AV
  obtain ⟨⟨x1, x2⟩, x3⟩ := CV
  simp only at HC HRT ⊢
  clear ta tb h
  have hrt := HRT.out
  by_cases he : f = t
  · have hb : (f == t) = true := by simpa using he
    have HE := Lib.hid he
    clear he
    go_enter Tryz.func38, Tryz.ntmps38
    go_wp2_with fail
    generalize ((w.alloc (.cells #[.slice Ae b.ents.length ce, .slice Aa b.accs.length ca, .slice As b.stakes.length cs, .slice Ar b.rates.length cr, .slice Al b.locks.length cl, .slice An us.length cn] 29))).alloc _ = W at *
    generalize hzw : w.heap.size = z at *
    have HZW := Lib.hid hzw
    clear hzw
    refine (money17_any f W).mono ?_
    rintro _ _ ⟨rfl, rfl⟩
    by_cases hm : 1 ≤ f ∧ f ≤ 8
    · rw [decide_eq_true hm]
      rw [if_pos ⟨HE.out, hm⟩] at hrt
      injection hrt with h12 h3
      injection h12 with h1 h2
      subst h1 h2 h3
      clear HC HRT hm bB
      go_wp2_with (refine wpList_store_blk rfl _ _ _ rfl (z + 1) #[.int .i64 1, .int .i64 1] (by rfl) (by rfl) bO (by kernel_rfl) rfl (by simp [Value.oneCell']) ?_; refine Hid.out ?_)
      refine Lib.hid ?_
      intro w9 hF tF
      have HF := Lib.hid hF
      have HTF := Lib.hid tF
      clear hF tF bO
      go_wp2
      (try simp only [Exit.inBlock, Exit.then])
      (try rw [Exit.noGoto_ret])
      refine bodyPost_ret (results_row_tmp (P := Tryz.prog) rfl _ _ (z + 1) 42 _ (0, 0) _ rfl HF.out Tryz.underlying42 rfl (by kernel_rfl)) rfl ?_
      exact ⟨rfl, tw.trans' (F' := fun g => g = z + 1) HTF.out (fun i hi => .inr (by have hi : i = z + 1 := hi; have := HZW.out; omega))⟩
    · rw [decide_eq_false hm]
      rw [if_neg (fun h => hm h.2)] at hrt
      injection hrt with h12 h3
      injection h12 with h1 h2
      subst h1 h2 h3
      have q3 : W.cell? ⟨z, 3, none⟩ = some (.slice Ar b.rates.length cr) := bB.cell 3
      clear HRT hm bB
      go_wp2_with fail
      refine (HC.out W tw).mono ?_
      rintro _ w2 ⟨rfl, t2⟩
      have bO2 := bO.keep t2 id
      have T2 := tw.trans t2
      clear HC q3 bO
      go_wp2_with (refine wpList_store_blk rfl _ _ _ rfl (z + 1) #[.int .i64 v1, .int .i64 v2] (by rfl) (by rfl) bO2 (by kernel_rfl) rfl (by simp [Value.oneCell']) ?_; refine Hid.out ?_)
      refine Lib.hid ?_
      intro w9 hF tF
      have HF := Lib.hid hF
      have HTF := Lib.hid tF
      clear hF tF bO2
      go_wp2
      (try simp only [Exit.inBlock, Exit.then])
      (try rw [Exit.noGoto_ret])
      refine bodyPost_ret (results_row_tmp (P := Tryz.prog) rfl _ _ (z + 1) 42 _ (0, 0) _ rfl HF.out Tryz.underlying42 rfl (by kernel_rfl)) rfl ?_
      exact ⟨rfl, T2.trans' (F' := fun g => g = z + 1) HTF.out (fun i hi => .inr (by have hi : i = z + 1 := hi; have := HZW.out; omega))⟩
  · have hb : (f == t) = false := by simpa using he
    rw [if_neg (fun h => he h.1)] at hrt
    injection hrt with h12 h3
    injection h12 with h1 h2
    subst h1 h2 h3
    go_enter Tryz.func38, Tryz.ntmps38
    go_wp2_with fail
    generalize ((w.alloc (.cells #[.slice Ae b.ents.length ce, .slice Aa b.accs.length ca, .slice As b.stakes.length cs, .slice Ar b.rates.length cr, .slice Al b.locks.length cl, .slice An us.length cn] 29))).alloc _ = W at *
    generalize hzw : w.heap.size = z at *
    have HZW := Lib.hid hzw
    clear hzw
    refine (HC.out W tw).mono ?_
    rintro _ w2 ⟨rfl, t2⟩
    have bO2 := bO.keep t2 id
    have T2 := tw.trans t2
    clear HC HRT he bO bB
    go_wp2_with (refine wpList_store_blk rfl _ _ _ rfl (z + 1) #[.int .i64 v1, .int .i64 v2] (by rfl) (by rfl) bO2 (by kernel_rfl) rfl (by simp [Value.oneCell']) ?_; refine Hid.out ?_)
    refine Lib.hid ?_
    intro w9 hF tF
    have HF := Lib.hid hF
    have HTF := Lib.hid tF
    clear hF tF bO2
    go_wp2
    (try simp only [Exit.inBlock, Exit.then])
    (try rw [Exit.noGoto_ret])
    refine bodyPost_ret (results_row_tmp (P := Tryz.prog) rfl _ _ (z + 1) 42 _ (0, 0) _ rfl HF.out Tryz.underlying42 rfl (by kernel_rfl)) rfl ?_
    exact ⟨rfl, T2.trans' (F' := fun g => g = z + 1) HTF.out (fun i hi => .inr (by have hi : i = z + 1 := hi; have := HZW.out; omega))⟩


set_option maxRecDepth 100000 in
set_option maxHeartbeats 25600000 in
theorem reftrans_any {w : World} {e a s r l n : Value} {b : Bks} {us : List (Ent × Value)} (h : BksAt w e a s r l n b us) (hn : b.accs.length ≤ 100000) (hr : b.rates.length ≤ 1000000) (c1 c2 c3 c4 c5 c6 : Int) :
    Calls Tryz.prog 10 #[.agg #[e, a, s, r, l, n], .agg #[.int .i64 c1, .int .i64 c2, .int .i64 c3, .int .i64 c4, .int .i64 c5, .int .i64 c6]] w (TransOk b (c1, c2, c3, c4, c5, c6) w) := by
  have H0 := Lib.hid (fun w' (t9 : Tch (fun _ => False) w w') => h.keep t9)
  obtain ⟨Ae, ce, rfl, _, _⟩ := h.ents.form
  obtain ⟨Aa, ca, rfl, _, _⟩ := h.accs.form
  obtain ⟨As, cs, rfl, _, _⟩ := h.stakes.form
  obtain ⟨Ar, cr, rfl, _, _⟩ := h.rates.form
  obtain ⟨Al, cl, rfl, _, _⟩ := h.locks.form
  obtain ⟨An, cn, rfl, _, _⟩ := h.ent.row.form
  have ta := Tch.alloc (fun _ => False) w (.cells #[.slice Ae b.ents.length ce, .slice Aa b.accs.length ca, .slice As b.stakes.length cs, .slice Ar b.rates.length cr, .slice Al b.locks.length cl, .slice An us.length cn] 29)
  have tb := Tch.alloc (fun _ => False) (w.alloc (.cells #[.slice Ae b.ents.length ce, .slice Aa b.accs.length ca, .slice As b.stakes.length cs, .slice Ar b.rates.length cr, .slice Al b.locks.length cl, .slice An us.length cn] 29)) (.cells #[.int .i64 c1, .int .i64 c2, .int .i64 c3, .int .i64 c4, .int .i64 c5, .int .i64 c6] 31)
  have tc := Tch.alloc (fun _ => False) ((w.alloc (.cells #[.slice Ae b.ents.length ce, .slice Aa b.accs.length ca, .slice As b.stakes.length cs, .slice Ar b.rates.length cr, .slice Al b.locks.length cl, .slice An us.length cn] 29)).alloc (.cells #[.int .i64 c1, .int .i64 c2, .int .i64 c3, .int .i64 c4, .int .i64 c5, .int .i64 c6] 31)) (.cells #[.int .i64 0, .int .i64 0, .slice none 0 0, .slice none 0 0, .int .i64 0, .int .i64 0, .int .i64 0, .int .i64 0, .int .i64 0, .int .i64 0, .bool false, .int .i64 0, .int .i64 0, .bool false] 50)
  have td := Tch.alloc (fun _ => False) (((w.alloc (.cells #[.slice Ae b.ents.length ce, .slice Aa b.accs.length ca, .slice As b.stakes.length cs, .slice Ar b.rates.length cr, .slice Al b.locks.length cl, .slice An us.length cn] 29)).alloc (.cells #[.int .i64 c1, .int .i64 c2, .int .i64 c3, .int .i64 c4, .int .i64 c5, .int .i64 c6] 31)).alloc (.cells #[.int .i64 0, .int .i64 0, .slice none 0 0, .slice none 0 0, .int .i64 0, .int .i64 0, .int .i64 0, .int .i64 0, .int .i64 0, .int .i64 0, .bool false, .int .i64 0, .int .i64 0, .bool false] 50)) (.cells #[.int .i64 0, .int .i64 0, .slice none 0 0, .slice none 0 0, .int .i64 0, .int .i64 0, .int .i64 0, .int .i64 0, .int .i64 0, .int .i64 0, .bool false, .int .i64 0, .int .i64 0, .bool false] 50)
  have tw := ((ta.trans tb).trans tc).trans td
  have bB := (((Blk.new w 29 #[.slice Ae b.ents.length ce, .slice Aa b.accs.length ca, .slice As b.stakes.length cs, .slice Ar b.rates.length cr, .slice Al b.locks.length cl, .slice An us.length cn]).keep tb id).keep tc id).keep td id
  have bC := ((Blk.new2 w (.cells #[.slice Ae b.ents.length ce, .slice Aa b.accs.length ca, .slice As b.stakes.length cs, .slice Ar b.rates.length cr, .slice Al b.locks.length cl, .slice An us.length cn] 29) 31 #[.int .i64 c1, .int .i64 c2, .int .i64 c3, .int .i64 c4, .int .i64 c5, .int .i64 c6]).keep tc id).keep td id
  have bO := (show Blk (((w.alloc (.cells #[.slice Ae b.ents.length ce, .slice Aa b.accs.length ca, .slice As b.stakes.length cs, .slice Ar b.rates.length cr, .slice Al b.locks.length cl, .slice An us.length cn] 29)).alloc (.cells #[.int .i64 c1, .int .i64 c2, .int .i64 c3, .int .i64 c4, .int .i64 c5, .int .i64 c6] 31)).alloc (.cells #[.int .i64 0, .int .i64 0, .slice none 0 0, .slice none 0 0, .int .i64 0, .int .i64 0, .int .i64 0, .int .i64 0, .int .i64 0, .int .i64 0, .bool false, .int .i64 0, .int .i64 0, .bool false] 50)) (w.heap.size + 1 + 1) 50 #[.int .i64 0, .int .i64 0, .slice none 0 0, .slice none 0 0, .int .i64 0, .int .i64 0, .int .i64 0, .int .i64 0, .int .i64 0, .int .i64 0, .bool false, .int .i64 0, .int .i64 0, .bool false] by simpa using Blk.new ((w.alloc (.cells #[.slice Ae b.ents.length ce, .slice Aa b.accs.length ca, .slice As b.stakes.length cs, .slice Ar b.rates.length cr, .slice Al b.locks.length cl, .slice An us.length cn] 29)).alloc (.cells #[.int .i64 c1, .int .i64 c2, .int .i64 c3, .int .i64 c4, .int .i64 c5, .int .i64 c6] 31)) 50 #[.int .i64 0, .int .i64 0, .slice none 0 0, .slice none 0 0, .int .i64 0, .int .i64 0, .int .i64 0, .int .i64 0, .int .i64 0, .int .i64 0, .bool false, .int .i64 0, .int .i64 0, .bool false]).keep td id
  have bR : Blk ((((w.alloc (.cells #[.slice Ae b.ents.length ce, .slice Aa b.accs.length ca, .slice As b.stakes.length cs, .slice Ar b.rates.length cr, .slice Al b.locks.length cl, .slice An us.length cn] 29)).alloc (.cells #[.int .i64 c1, .int .i64 c2, .int .i64 c3, .int .i64 c4, .int .i64 c5, .int .i64 c6] 31)).alloc (.cells #[.int .i64 0, .int .i64 0, .slice none 0 0, .slice none 0 0, .int .i64 0, .int .i64 0, .int .i64 0, .int .i64 0, .int .i64 0, .int .i64 0, .bool false, .int .i64 0, .int .i64 0, .bool false] 50)).alloc (.cells #[.int .i64 0, .int .i64 0, .slice none 0 0, .slice none 0 0, .int .i64 0, .int .i64 0, .int .i64 0, .int .i64 0, .int .i64 0, .int .i64 0, .bool false, .int .i64 0, .int .i64 0, .bool false] 50)) (w.heap.size + 1 + 1 + 1) 50 #[.int .i64 0, .int .i64 0, .slice none 0 0, .slice none 0 0, .int .i64 0, .int .i64 0, .int .i64 0, .int .i64 0, .int .i64 0, .int .i64 0, .bool false, .int .i64 0, .int .i64 0, .bool false] := by simpa using Blk.new (((w.alloc (.cells #[.slice Ae b.ents.length ce, .slice Aa b.accs.length ca, .slice As b.stakes.length cs, .slice Ar b.rates.length cr, .slice Al b.locks.length cl, .slice An us.length cn] 29)).alloc (.cells #[.int .i64 c1, .int .i64 c2, .int .i64 c3, .int .i64 c4, .int .i64 c5, .int .i64 c6] 31)).alloc (.cells #[.int .i64 0, .int .i64 0, .slice none 0 0, .slice none 0 0, .int .i64 0, .int .i64 0, .int .i64 0, .int .i64 0, .int .i64 0, .int .i64 0, .bool false, .int .i64 0, .int .i64 0, .bool false] 50)) 50 #[.int .i64 0, .int .i64 0, .slice none 0 0, .slice none 0 0, .int .i64 0, .int .i64 0, .int .i64 0, .int .i64 0, .int .i64 0, .int .i64 0, .bool false, .int .i64 0, .int .i64 0, .bool false]
  have HM := Lib.hid (refmay31_any (H0.out _ tw) hn (c1, c2, c3, c4, c5, c6) 3 3)
  unfold cellV at HM
  simp only at HM
  have HL : Hid (transOf b (c1, c2, c3, c4, c5, c6) = if mayOf b (c1, c2, c3, c4, c5, c6) 3 3 = 0 then (transRcp b (c1, c2, c3, c4, c5, c6), 0) else (Rcp.none, mayOf b (c1, c2, c3, c4, c5, c6) 3 3)) := Lib.hid rfl
  have HFA := Lib.hid (fun h => may_facts (b := b) (c := (c1, c2, c3, c4, c5, c6)) (lo := 3) (hi := 3) h)
  generalize mayOf b (c1, c2, c3, c4, c5, c6) 3 3 = m at *
  clear ta tb tc td h
  go_enter Tryz.func10, Tryz.ntmps10
  go_wp2_with fail
  generalize ((((w.alloc (.cells #[.slice Ae b.ents.length ce, .slice Aa b.accs.length ca, .slice As b.stakes.length cs, .slice Ar b.rates.length cr, .slice Al b.locks.length cl, .slice An us.length cn] 29)).alloc (.cells #[.int .i64 c1, .int .i64 c2, .int .i64 c3, .int .i64 c4, .int .i64 c5, .int .i64 c6] 31)).alloc (.cells #[.int .i64 0, .int .i64 0, .slice none 0 0, .slice none 0 0, .int .i64 0, .int .i64 0, .int .i64 0, .int .i64 0, .int .i64 0, .int .i64 0, .bool false, .int .i64 0, .int .i64 0, .bool false] 50))).alloc _ = W at *
  generalize hzw : w.heap.size = z at *
  have HZW := Lib.hid hzw
  clear hzw
  refine HM.out.mono ?_
  rintro _ w1 ⟨rfl, t1⟩
  have bB1 := bB.keep t1 id
  have bC1 := bC.keep t1 id
  have bO1 := bO.keep t1 id
  have bR1 := bR.keep t1 id
  have T1 := tw.trans t1
  have hz1 : z + 4 ≤ w1.heap.size := by have := bR1.lt; omega
  clear HM bB bC bO bR tw t1
  by_cases hm : m = 0
  rotate_left
  · have hm' : (m != 0) = true := by simpa using hm
    have HLN := Lib.hid (show transOf b (c1, c2, c3, c4, c5, c6) = (Rcp.none, m) by rw [HL.out, if_neg hm])
    clear hm HL HFA H0 bC1 bB1
    have f0 : w1.cell? ⟨z + 1 + 1 + 1, 0, none⟩ = some (.int .i64 0) := bR1.cell 0
    have f1 : w1.cell? ⟨z + 1 + 1 + 1, 1, none⟩ = some (.int .i64 0) := bR1.cell 1
    have f2 : w1.cell? ⟨z + 1 + 1 + 1, 2, none⟩ = some (.slice none 0 0) := bR1.cell 2
    have f3 : w1.cell? ⟨z + 1 + 1 + 1, 3, none⟩ = some (.slice none 0 0) := bR1.cell 3
    have f4 : w1.cell? ⟨z + 1 + 1 + 1, 4, none⟩ = some (.int .i64 0) := bR1.cell 4
    have f5 : w1.cell? ⟨z + 1 + 1 + 1, 5, none⟩ = some (.int .i64 0) := bR1.cell 5
    have f6 : w1.cell? ⟨z + 1 + 1 + 1, 6, none⟩ = some (.int .i64 0) := bR1.cell 6
    have f7 : w1.cell? ⟨z + 1 + 1 + 1, 7, none⟩ = some (.int .i64 0) := bR1.cell 7
    have f8 : w1.cell? ⟨z + 1 + 1 + 1, 8, none⟩ = some (.int .i64 0) := bR1.cell 8
    have f9 : w1.cell? ⟨z + 1 + 1 + 1, 9, none⟩ = some (.int .i64 0) := bR1.cell 9
    have f10 : w1.cell? ⟨z + 1 + 1 + 1, 10, none⟩ = some (.bool false) := bR1.cell 10
    have f11 : w1.cell? ⟨z + 1 + 1 + 1, 11, none⟩ = some (.int .i64 0) := bR1.cell 11
    have f12 : w1.cell? ⟨z + 1 + 1 + 1, 12, none⟩ = some (.int .i64 0) := bR1.cell 12
    have f13 : w1.cell? ⟨z + 1 + 1 + 1, 13, none⟩ = some (.bool false) := bR1.cell 13
    clear bR1
    go_wp2_with (refine wpList_store_blk rfl _ _ _ rfl (z + 1 + 1) #[.int .i64 0, .int .i64 0, .slice none 0 0, .slice none 0 0, .int .i64 0, .int .i64 0, .int .i64 0, .int .i64 0, .int .i64 0, .int .i64 0, .bool false, .int .i64 0, .int .i64 0, .bool false] (by rfl) (by rfl) bO1 (by kernel_rfl) rfl (by simp [Value.oneCell']) ?_; refine Hid.out ?_)
    refine Lib.hid ?_
    intro w9 hF tF
    have HF := Lib.hid hF
    have HTF := Lib.hid tF
    clear hF tF bO1 f0 f1 f2 f3 f4 f5 f6 f7 f8 f9 f10 f11 f12 f13
    go_wp2
    (try simp only [Exit.inBlock, Exit.then])
    (try rw [Exit.noGoto_ret])
    refine bodyPost_ret (results_row_tmp (P := Tryz.prog) rfl _ _ (z + 1 + 1) 50 _ (0, 0) _ rfl HF.out Tryz.underlying50 rfl (by kernel_rfl)) rfl ?_
    unfold TransOk
    rw [HLN.out]
    exact ⟨_, rfl, ⟨_, _, rfl, Row.nil _ _ _, Row.nil _ _ _⟩, T1.trans' (F' := fun g => g = z + 1 + 1) HTF.out (fun i hi => .inr (by have hi : i = z + 1 + 1 := hi; have := HZW.out; omega))⟩
  obtain ⟨h13, ⟨hp0, hp1⟩, _, hlf⟩ := HFA.out hm
  obtain rfl : c1 = 3 := by have h13 : 3 ≤ c1 ∧ c1 ≤ 3 := h13; omega
  have HLF := Lib.hid (show accLeaf b.accs c3 = true from hlf)
  have HC4 := Lib.hid (show 0 ≤ c4 ∧ c4 ≤ 23 from ⟨hp0, hp1⟩)
  have HLN := Lib.hid (show transOf b (3, c2, c3, c4, c5, c6) = (transRcp b (3, c2, c3, c4, c5, c6), 0) by rw [HL.out, if_pos hm])
  subst hm
  clear HL HFA hp0 hp1 hlf h13
  have k0 : w1.cell? ⟨z + 1, 0, none⟩ = some (.int .i64 3) := bC1.cell 0
  have k1 : w1.cell? ⟨z + 1, 1, none⟩ = some (.int .i64 c2) := bC1.cell 1
  have k2 : w1.cell? ⟨z + 1, 2, none⟩ = some (.int .i64 c3) := bC1.cell 2
  have k3 : w1.cell? ⟨z + 1, 3, none⟩ = some (.int .i64 c4) := bC1.cell 3
  have k4 : w1.cell? ⟨z + 1, 4, none⟩ = some (.int .i64 c5) := bC1.cell 4
  have k5 : w1.cell? ⟨z + 1, 5, none⟩ = some (.int .i64 c6) := bC1.cell 5
  have g0 : w1.cell? ⟨z, 0, none⟩ = some (.slice Ae b.ents.length ce) := bB1.cell 0
  have g1 : w1.cell? ⟨z, 1, none⟩ = some (.slice Aa b.accs.length ca) := bB1.cell 1
  have g2 : w1.cell? ⟨z, 2, none⟩ = some (.slice As b.stakes.length cs) := bB1.cell 2
  have g3 : w1.cell? ⟨z, 3, none⟩ = some (.slice Ar b.rates.length cr) := bB1.cell 3
  have g4 : w1.cell? ⟨z, 4, none⟩ = some (.slice Al b.locks.length cl) := bB1.cell 4
  have g5 : w1.cell? ⟨z, 5, none⟩ = some (.slice An us.length cn) := bB1.cell 5
  by_cases h31 : c3 = 1
  · subst h31
    have HLV := Lib.hid (refleaves30_any (H0.out w1 T1) hn)
    have HRC := Lib.hid (show transRcp b (3, c2, 1, c4, c5, c6) = if c6 ≠ 0 then Rcp.none else { Rcp.none with minus := plugOf (accLeaves b.accs) (3, c2, 1, c4, c5, c6) } from rfl)
    have hLL : (accLeaves b.accs).length ≤ 100000 := by
      unfold accLeaves
      refine Nat.le_trans (List.length_filter_le _ _) ?_
      unfold accIds
      simpa using hn
    clear HLF
    go_wp2_with fail
    refine HLV.out.mono ?_
    rintro _ w2 ⟨u, rfl, hO⟩
    clear HLV k0 k1 k2 k3 k4 k5 g0 g1 g2 g3 g4 g5
    generalize accLeaves b.accs = L at *
    have bC2 := bC1.keep hO.tch id
    have bO2 := bO1.keep hO.tch id
    have bR2 := bR1.keep hO.tch id
    have T2 := T1.trans hO.tch
    obtain ⟨U, cu, rfl, hu1, hu2⟩ := hO.form
    have hzz : z + 4 ≤ w2.heap.size := by have := bR2.lt; omega
    have hln : (L.length : Int) ≤ 100000 := by omega
    by_cases h6 : c6 = 0
    rotate_left
    · have h6b : (c6 == 0) = false := by simpa using h6
      have hrc := HRC.out
      rw [if_pos h6] at hrc
      have HRC2 := Lib.hid hrc
      clear hrc HRC h6 hO bC1 bO1 bR1 bB1 H0
      go_wp2_with fail
      go_loopw [9] (fun i wr => i = .int .i64 0 ∧ Tch (fun _ => False) w2 wr) (fun _ _ => 0)
      case atStart => exact ⟨rfl, Tch.refl _ _⟩
      case round =>
        obtain ⟨rfl, ht⟩ := hrel
        have bC3 := bC2.keep ht id
        have bO3 := bO2.keep ht id
        have bR3 := bR2.keep ht id
        have T3 := T2.trans ht
        have k5 : wr.cell? ⟨z + 1, 5, none⟩ = some (.int .i64 c6) := bC3.cell 5
        clear bC3
        by_cases hl0 : (0 : Int) < (L.length : Int)
        · have f0 : wr.cell? ⟨z + 1 + 1 + 1, 0, none⟩ = some (.int .i64 0) := bR3.cell 0
          have f1 : wr.cell? ⟨z + 1 + 1 + 1, 1, none⟩ = some (.int .i64 0) := bR3.cell 1
          have f2 : wr.cell? ⟨z + 1 + 1 + 1, 2, none⟩ = some (.slice none 0 0) := bR3.cell 2
          have f3 : wr.cell? ⟨z + 1 + 1 + 1, 3, none⟩ = some (.slice none 0 0) := bR3.cell 3
          have f4 : wr.cell? ⟨z + 1 + 1 + 1, 4, none⟩ = some (.int .i64 0) := bR3.cell 4
          have f5 : wr.cell? ⟨z + 1 + 1 + 1, 5, none⟩ = some (.int .i64 0) := bR3.cell 5
          have f6 : wr.cell? ⟨z + 1 + 1 + 1, 6, none⟩ = some (.int .i64 0) := bR3.cell 6
          have f7 : wr.cell? ⟨z + 1 + 1 + 1, 7, none⟩ = some (.int .i64 0) := bR3.cell 7
          have f8 : wr.cell? ⟨z + 1 + 1 + 1, 8, none⟩ = some (.int .i64 0) := bR3.cell 8
          have f9 : wr.cell? ⟨z + 1 + 1 + 1, 9, none⟩ = some (.int .i64 0) := bR3.cell 9
          have f10 : wr.cell? ⟨z + 1 + 1 + 1, 10, none⟩ = some (.bool false) := bR3.cell 10
          have f11 : wr.cell? ⟨z + 1 + 1 + 1, 11, none⟩ = some (.int .i64 0) := bR3.cell 11
          have f12 : wr.cell? ⟨z + 1 + 1 + 1, 12, none⟩ = some (.int .i64 0) := bR3.cell 12
          have f13 : wr.cell? ⟨z + 1 + 1 + 1, 13, none⟩ = some (.bool false) := bR3.cell 13
          clear bR3
          go_wp2_with (refine wpList_store_blk rfl _ _ _ rfl (z + 1 + 1) #[.int .i64 0, .int .i64 0, .slice none 0 0, .slice none 0 0, .int .i64 0, .int .i64 0, .int .i64 0, .int .i64 0, .int .i64 0, .int .i64 0, .bool false, .int .i64 0, .int .i64 0, .bool false] (by rfl) (by rfl) bO3 (by kernel_rfl) rfl (by simp [Value.oneCell']) ?_; refine Hid.out ?_)
          refine Lib.hid ?_
          intro w9 hF tF
          have HF := Lib.hid hF
          have HTF := Lib.hid tF
          clear hF tF bO3 f0 f1 f2 f3 f4 f5 f6 f7 f8 f9 f10 f11 f12 f13
          go_wp2
          (try simp only [Exit.inBlock, Exit.then])
          (try rw [Exit.noGoto_ret])
          refine bodyPost_ret (results_row_tmp (P := Tryz.prog) rfl _ _ (z + 1 + 1) 50 _ (0, 0) _ rfl HF.out Tryz.underlying50 rfl (by kernel_rfl)) rfl ?_
          unfold TransOk
          rw [HLN.out, HRC2.out]
          exact ⟨_, rfl, ⟨_, _, rfl, Row.nil _ _ _, Row.nil _ _ _⟩, T3.trans' (F' := fun g => g = z + 1 + 1) HTF.out (fun i hi => .inr (by have hi : i = z + 1 + 1 := hi; have := HZW.out; omega))⟩
        · have f0 : wr.cell? ⟨z + 1 + 1 + 1, 0, none⟩ = some (.int .i64 0) := bR3.cell 0
          have f1 : wr.cell? ⟨z + 1 + 1 + 1, 1, none⟩ = some (.int .i64 0) := bR3.cell 1
          have f2 : wr.cell? ⟨z + 1 + 1 + 1, 2, none⟩ = some (.slice none 0 0) := bR3.cell 2
          have f3 : wr.cell? ⟨z + 1 + 1 + 1, 3, none⟩ = some (.slice none 0 0) := bR3.cell 3
          have f4 : wr.cell? ⟨z + 1 + 1 + 1, 4, none⟩ = some (.int .i64 0) := bR3.cell 4
          have f5 : wr.cell? ⟨z + 1 + 1 + 1, 5, none⟩ = some (.int .i64 0) := bR3.cell 5
          have f6 : wr.cell? ⟨z + 1 + 1 + 1, 6, none⟩ = some (.int .i64 0) := bR3.cell 6
          have f7 : wr.cell? ⟨z + 1 + 1 + 1, 7, none⟩ = some (.int .i64 0) := bR3.cell 7
          have f8 : wr.cell? ⟨z + 1 + 1 + 1, 8, none⟩ = some (.int .i64 0) := bR3.cell 8
          have f9 : wr.cell? ⟨z + 1 + 1 + 1, 9, none⟩ = some (.int .i64 0) := bR3.cell 9
          have f10 : wr.cell? ⟨z + 1 + 1 + 1, 10, none⟩ = some (.bool false) := bR3.cell 10
          have f11 : wr.cell? ⟨z + 1 + 1 + 1, 11, none⟩ = some (.int .i64 0) := bR3.cell 11
          have f12 : wr.cell? ⟨z + 1 + 1 + 1, 12, none⟩ = some (.int .i64 0) := bR3.cell 12
          have f13 : wr.cell? ⟨z + 1 + 1 + 1, 13, none⟩ = some (.bool false) := bR3.cell 13
          clear bR3
          go_wp2_with (refine wpList_store_blk rfl _ _ _ rfl (z + 1 + 1) #[.int .i64 0, .int .i64 0, .slice none 0 0, .slice none 0 0, .int .i64 0, .int .i64 0, .int .i64 0, .int .i64 0, .int .i64 0, .int .i64 0, .bool false, .int .i64 0, .int .i64 0, .bool false] (by rfl) (by rfl) bO3 (by kernel_rfl) rfl (by simp [Value.oneCell']) ?_; refine Hid.out ?_)
          refine Lib.hid ?_
          intro w9 hF tF
          have HF := Lib.hid hF
          have HTF := Lib.hid tF
          clear hF tF bO3 f0 f1 f2 f3 f4 f5 f6 f7 f8 f9 f10 f11 f12 f13
          go_wp2
          (try simp only [Exit.inBlock, Exit.then])
          (try rw [Exit.noGoto_ret])
          refine bodyPost_ret (results_row_tmp (P := Tryz.prog) rfl _ _ (z + 1 + 1) 50 _ (0, 0) _ rfl HF.out Tryz.underlying50 rfl (by kernel_rfl)) rfl ?_
          unfold TransOk
          rw [HLN.out, HRC2.out]
          exact ⟨_, rfl, ⟨_, _, rfl, Row.nil _ _ _, Row.nil _ _ _⟩, T3.trans' (F' := fun g => g = z + 1 + 1) HTF.out (fun i hi => .inr (by have hi : i = z + 1 + 1 := hi; have := HZW.out; omega))⟩
    subst h6
    have hrc := HRC.out
    rw [if_neg (fun h => h rfl)] at hrc
    have HRC2 := Lib.hid hrc
    have hl := hO.row
    have HROW := Lib.hid (fun wr (ht : Tch (fun g => g = z + 1 + 1 + 1) w2 wr) => Row.keepTo (P' := fun _ => True) (Row.own hO.own (P := fun g => w1.heap.size ≤ g) (fun g hg => (hO.own.lt g hg).1)) ht (fun g _ hg => ⟨fun e => by have e : g = z + 1 + 1 + 1 := e; omega, trivial⟩))
    clear hrc HRC hl bC1 bO1 bR1 bB1 H0 hO
    go_wp2_with fail
    go_loopw [9] (fun i wr => ∃ (j : Nat) (xs : List Rt6) (O : Option Addr) (co : Nat), j ≤ L.length ∧ i = .int .i64 j ∧ plugOf (L.take j) (3, c2, 1, c4, c5, 0) = xs ∧ Blk wr (z + 1 + 1 + 1) 50 #[.int .i64 0, .int .i64 0, .slice none 0 0, .slice O xs.length co, .int .i64 0, .int .i64 0, .int .i64 0, .int .i64 0, .int .i64 0, .int .i64 0, .bool false, .int .i64 0, .int .i64 0, .bool false] ∧ wr.ownsRow w2.heap.size 31 6 (.slice O xs.length co) xs.length (xs.flatMap int6) ∧ Tch (fun g => g = z + 1 + 1 + 1) w2 wr) (fun i _ => L.length - (intOf i).toNat)
    case atStart => exact ⟨0, [], none, 0, Nat.zero_le _, rfl, rfl, bR2, World.ownsRow_nil _ _ _ _, Tch.refl _ _⟩
    case round =>
      obtain ⟨j, xs, O, co, hj, rfl, hxs, hR, hown, ht⟩ := hrel
      have HXS := Lib.hid hxs
      have hxl : xs.length ≤ j := by
        rw [← hxs]
        unfold plugOf
        rw [List.length_map]
        exact Nat.le_trans (List.length_filter_le _ _) (by rw [List.length_take]; omega)
      clear hxs
      have bCr := bC2.keep ht (by omega)
      have hj0 : (0 : Int) ≤ (j : Int) := Int.natCast_nonneg _
      by_cases hlt : j < L.length
      · have hlt' : (j : Int) < (L.length : Int) := by omega
        have hl9 := HROW.out wr ht
        obtain ⟨g, o9, rfl⟩ := hl9.head (by omega)
        have q0 := Row.one hl9 int1_len hlt rfl
        have HPS := Lib.hid (show plugOf (L.take (j + 1)) (3, c2, 1, c4, c5, 0) = xs ++ (if L[j] ≠ 1 then [(3, c2, L[j], c4, c5, 0)] else []) by
          rw [← HXS.out]
          unfold plugOf
          rw [List.take_succ_eq_append_getElem hlt, List.filter_append, List.map_append]
          by_cases h1 : L[j] = 1 <;> simp [h1])
        generalize L[j] = x at *
        have p1 : wr.cell? ⟨z + 1, 1, none⟩ = some (.int .i64 c2) := bCr.cell 1
        have p3 : wr.cell? ⟨z + 1, 3, none⟩ = some (.int .i64 c4) := bCr.cell 3
        have p4 : wr.cell? ⟨z + 1, 4, none⟩ = some (.int .i64 c5) := bCr.cell 4
        have p5 : wr.cell? ⟨z + 1, 5, none⟩ = some (.int .i64 0) := bCr.cell 5
        clear HXS hl9 bCr
        by_cases hx : x = 1
        · subst hx
          have hps := HPS.out
          rw [if_neg (fun h => h rfl), List.append_nil] at hps
          have HP2 := Lib.hid hps
          clear hps HPS
          go_wp2
          go_roundw
          case rel => exact ⟨j + 1, xs, O, co, by omega, by go_num, HP2.out, hR, hown, ht⟩
          case measure => simp [intOf] <;> omega
        · have hxb : (x != 1) = true := by simpa using hx
          have hps := HPS.out
          rw [if_pos hx] at hps
          have HP2 := Lib.hid hps
          have HSZ := ht.size
          have HLT := Lib.hid (fun g hg => hown.lt g hg)
          have hlen5 : xs.length ≤ 100000 := by omega
          have Y1 := within_cell (F := fun _ => False) p1 id
          have Y3 := within_cell (F := fun _ => False) p3 id
          have Y4 := within_cell (F := fun _ => False) p4 id
          have Y5 := within_cell (F := fun _ => False) q0 id
          have Y6 := within_cell (F := fun _ => False) (show wr.cell? ⟨z + 1 + 1 + 1, 3, none⟩ = some (.slice O xs.length co) from hR.cell 3) id
          clear hps HPS hx
          go_wp2_with fail
          refine wp_region_touch (fun _ => False) [] 14 [(13, .inr fun u w' => ∃ g, u = .slice (some ⟨g, 0, none⟩) 1 1 ∧ Blk w' g 31 #[.int .i64 3, .int .i64 c2, .int .i64 x, .int .i64 c4, .int .i64 c5, .int .i64 0])] [] (by kernel_rfl) rfl (by kernel_rfl) rfl (fun d _ _ _ _ h => by cases d <;> exact h) ?_ ?_
          · exact ⟨fun _ _ _ hr ⟨g, h1, h2⟩ => ⟨g, h1, h2.keep hr id⟩, trivial⟩
          (intro bef ops hbef hops; clear hbef; subst hops; simp only [List.take_succ_cons, List.take_zero, List.drop_succ_cons, List.drop_zero])
          iterate 13 (refine t_det (by rfl) (by rfl) (by rfl) (by rfl) (fun K hK => ?_); go_big_quiet_op; (first | refine hK _ ?_ | refine ⟨_, fun _ => rfl, hK _ ?_⟩); clear hK K; (try simp only [Act.put, List.setIfInBounds_toArray, List.set_cons_succ, List.set_cons_zero]))
          refine t_loose (by rfl) (by rfl) (fun w4 hr hf => ?_) (fun u => ?_)
          · refine yields_of_wp (d := 56) rfl (by simp) (fun K hK => ?_)
            go_step
            exact hK _ _ ⟨⟨⟨_, rfl, Blk.new _ _ _⟩, Tch.alloc _ _ _⟩, newAt_no⟩
          simp only [Act.put, List.setIfInBounds_toArray, List.set_cons_succ, List.set_cons_zero]
          refine t_nil ?_
          intro a5 hr hp hap
          obtain ⟨gq, rfl, hgq⟩ := hp _ (List.Mem.head _)
          have t4 := (Tch.drew (fun _ => False) wr).trans hr
          clear hp hap hr Y1 Y3 Y4 Y5 Y6 p1 p3 p4 p5 q0
          have hown4 := t4.own hown (fun _ _ => id)
          have hR4 := hR.keep t4 id
          refine wpList_append _ rfl _ _ 40 rfl rowCells (own_base hown4) (by rfl) (Go.Gk.Src.one (news := int6 (3, c2, x, c4, c5, 0)) rfl (fun m9 u9 hu9 => by rw [hgq.cell m9]; simpa [int6] using hu9)) (by rfl) (one6 _) (by unfold maxLen; omega) (by omega) ?_
          intro v2 b5 ho2 hg2 hl2
          obtain ⟨O2, co2, rfl, _, _⟩ := own_form ho2
          have tg : Tch (fun g => w2.heap.size ≤ g) a5 b5 := Tch.grown hg2 fun k9 hk9 => .inl (HLT.out k9 hk9).1
          have hR5 := hR4.keep tg (by omega)
          have hob : ∀ g, (Value.slice O2 (xs.length + 1) co2).ownBlock = some g → w2.heap.size ≤ g := fun g9 hg9 => by
            rcases hl2 g9 hg9 with h9 | h9
            · exact (HLT.out g9 h9).1
            · have := t4.size; omega
          have t5 := (ht.trans (Exn.touch t4)).trans' tg (fun i hi => .inr hi)
          clear hg2 hl2 hR4 hR hown hown4 hgq tg t4 ht HLT
          go_step
          go_step
          go_step
          refine wpList_store_cell rfl _ _ _ rfl (z + 1 + 1 + 1) 3 (.slice O2 (xs.length + 1) co2) (by rfl) (by rfl) rfl (by rfl) hR5 (by simp) ?_
          intro w5 hR6 ts6
          (try simp only [List.setIfInBounds_toArray, List.set_cons_succ, List.set_cons_zero] at hR6)
          have hown6 := ts6.own (own_up ho2 hob) (fun g hg he => by have he : g = z + 1 + 1 + 1 := he; have := hob g hg; omega)
          have t6 := t5.trans ts6
          have HX6 := Lib.hid (show xs.length + 1 = (xs ++ [(3, c2, x, c4, c5, 0)]).length by simp)
          clear hR5 ho2 hob ts6 t5
          go_wp2
          go_roundw
          case rel => exact ⟨j + 1, xs ++ [(3, c2, x, c4, c5, 0)], O2, co2, by omega, by go_num, HP2.out, by rw [← HX6.out]; exact hR6, by rw [← HX6.out]; simpa [int6] using hown6, t6⟩
          case measure => simp [intOf] <;> omega
      · obtain rfl : j = L.length := by omega
        have hxs := HXS.out
        rw [List.take_length] at hxs
        have hlt' : ¬ (L.length : Int) < (L.length : Int) := by omega
        have bO3 := bO2.keep ht (by omega)
        have T3 := T2.trans' ht (fun i hi => .inr (by have hi : i = z + 1 + 1 + 1 := hi; have := HZW.out; omega))
        have HROWS := Lib.hid (fun w' (t9 : Tch (fun g => g = z + 1 + 1) wr w') => Row.keepTo (P' := fun _ => True) (Row.own hown (P := fun g => w2.heap.size ≤ g) (fun g hg => (hown.lt g hg).1)) t9 (fun g _ hg => ⟨fun e => by have e : g = z + 1 + 1 := e; omega, trivial⟩))
        have HRC3 := Lib.hid (HRC2.out.trans (by rw [hxs]))
        clear hxs HXS hown hlt ht HROW bC2 bO2 bR2 T2 bCr HRC2
        have f0 : wr.cell? ⟨z + 1 + 1 + 1, 0, none⟩ = some (.int .i64 0) := hR.cell 0
        have f1 : wr.cell? ⟨z + 1 + 1 + 1, 1, none⟩ = some (.int .i64 0) := hR.cell 1
        have f2 : wr.cell? ⟨z + 1 + 1 + 1, 2, none⟩ = some (.slice none 0 0) := hR.cell 2
        have f3 : wr.cell? ⟨z + 1 + 1 + 1, 3, none⟩ = some (.slice O xs.length co) := hR.cell 3
        have f4 : wr.cell? ⟨z + 1 + 1 + 1, 4, none⟩ = some (.int .i64 0) := hR.cell 4
        have f5 : wr.cell? ⟨z + 1 + 1 + 1, 5, none⟩ = some (.int .i64 0) := hR.cell 5
        have f6 : wr.cell? ⟨z + 1 + 1 + 1, 6, none⟩ = some (.int .i64 0) := hR.cell 6
        have f7 : wr.cell? ⟨z + 1 + 1 + 1, 7, none⟩ = some (.int .i64 0) := hR.cell 7
        have f8 : wr.cell? ⟨z + 1 + 1 + 1, 8, none⟩ = some (.int .i64 0) := hR.cell 8
        have f9 : wr.cell? ⟨z + 1 + 1 + 1, 9, none⟩ = some (.int .i64 0) := hR.cell 9
        have f10 : wr.cell? ⟨z + 1 + 1 + 1, 10, none⟩ = some (.bool false) := hR.cell 10
        have f11 : wr.cell? ⟨z + 1 + 1 + 1, 11, none⟩ = some (.int .i64 0) := hR.cell 11
        have f12 : wr.cell? ⟨z + 1 + 1 + 1, 12, none⟩ = some (.int .i64 0) := hR.cell 12
        have f13 : wr.cell? ⟨z + 1 + 1 + 1, 13, none⟩ = some (.bool false) := hR.cell 13
        clear hR
        go_wp2_with (refine wpList_store_blk rfl _ _ _ rfl (z + 1 + 1) #[.int .i64 0, .int .i64 0, .slice none 0 0, .slice O xs.length co, .int .i64 0, .int .i64 0, .int .i64 0, .int .i64 0, .int .i64 0, .int .i64 0, .bool false, .int .i64 0, .int .i64 0, .bool false] (by rfl) (by rfl) bO3 (by kernel_rfl) rfl (by simp [Value.oneCell']) ?_; refine Hid.out ?_)
        refine Lib.hid ?_
        intro w9 hF tF
        have HF := Lib.hid hF
        have HTF := Lib.hid tF
        clear hF tF bO3 f0 f1 f2 f3 f4 f5 f6 f7 f8 f9 f10 f11 f12 f13
        go_wp2
        (try simp only [Exit.inBlock, Exit.then])
        (try rw [Exit.noGoto_ret])
        refine bodyPost_ret (results_row_tmp (P := Tryz.prog) rfl _ _ (z + 1 + 1) 50 _ (0, 0) _ rfl HF.out Tryz.underlying50 rfl (by kernel_rfl)) rfl ?_
        unfold TransOk
        rw [HLN.out, HRC3.out]
        exact ⟨_, rfl, ⟨_, _, rfl, Row.nil _ _ _, HROWS.out w9 HTF.out⟩, T3.trans' (F' := fun g => g = z + 1 + 1) HTF.out (fun i hi => .inr (by have hi : i = z + 1 + 1 := hi; have := HZW.out; omega))⟩
  have h31b : (c3 == 1) = false := by simpa using h31
  have HRC := Lib.hid (show transRcp b (3, c2, c3, c4, c5, c6) = if curOf b c2 = c5 then { Rcp.none with plus := [(2, c2, c3, c4, 0, c6)] } else { Rcp.none with plus := if kindOf b c3 ≠ 1 ∧ 0 < c4 then [(3, c2, c3, c4 - 1, c5, c6)] else [], scaled := (if kindOf b c3 = 1 then 2 else 1, c2, c3, c4, 0, c6), rated := true, ratio := (rateOf b.rates (curOf b c2) c5 (kindOf b c3) c4).1, has := (rateOf b.rates (curOf b c2) c5 (kindOf b c3) c4).2 } from by unfold transRcp; simp only; rw [if_neg h31])
  have tM := Tch.alloc (fun _ => False) w1 (.cells #[.int .i64 1, .int .i64 c2, .int .i64 c3, .int .i64 c4, .int .i64 0, .int .i64 c6] 31)
  have tL := Tch.alloc (fun _ => False) (w1.alloc (.cells #[.int .i64 1, .int .i64 c2, .int .i64 c3, .int .i64 c4, .int .i64 0, .int .i64 c6] 31)) (.cells #[.int .i64 2, .int .i64 c2, .int .i64 c3, .int .i64 c4, .int .i64 0, .int .i64 c6] 31)
  have t2 := tM.trans tL
  have bM2 := (Blk.new w1 31 #[.int .i64 1, .int .i64 c2, .int .i64 c3, .int .i64 c4, .int .i64 0, .int .i64 c6]).keep tL id
  have bL2 := Blk.new2 w1 (.cells #[.int .i64 1, .int .i64 c2, .int .i64 c3, .int .i64 c4, .int .i64 0, .int .i64 c6] 31) 31 #[.int .i64 2, .int .i64 c2, .int .i64 c3, .int .i64 c4, .int .i64 0, .int .i64 c6]
  have bC1m := bC1.keep tM id
  have m0 : (w1.alloc (.cells #[.int .i64 1, .int .i64 c2, .int .i64 c3, .int .i64 c4, .int .i64 0, .int .i64 c6] 31)).cell? ⟨z + 1, 0, none⟩ = some (.int .i64 3) := bC1m.cell 0
  have m1 : (w1.alloc (.cells #[.int .i64 1, .int .i64 c2, .int .i64 c3, .int .i64 c4, .int .i64 0, .int .i64 c6] 31)).cell? ⟨z + 1, 1, none⟩ = some (.int .i64 c2) := bC1m.cell 1
  have m2 : (w1.alloc (.cells #[.int .i64 1, .int .i64 c2, .int .i64 c3, .int .i64 c4, .int .i64 0, .int .i64 c6] 31)).cell? ⟨z + 1, 2, none⟩ = some (.int .i64 c3) := bC1m.cell 2
  have m3 : (w1.alloc (.cells #[.int .i64 1, .int .i64 c2, .int .i64 c3, .int .i64 c4, .int .i64 0, .int .i64 c6] 31)).cell? ⟨z + 1, 3, none⟩ = some (.int .i64 c4) := bC1m.cell 3
  have m4 : (w1.alloc (.cells #[.int .i64 1, .int .i64 c2, .int .i64 c3, .int .i64 c4, .int .i64 0, .int .i64 c6] 31)).cell? ⟨z + 1, 4, none⟩ = some (.int .i64 c5) := bC1m.cell 4
  have m5 : (w1.alloc (.cells #[.int .i64 1, .int .i64 c2, .int .i64 c3, .int .i64 c4, .int .i64 0, .int .i64 c6] 31)).cell? ⟨z + 1, 5, none⟩ = some (.int .i64 c6) := bC1m.cell 5
  have bB2 := bB1.keep t2 id
  have bC2 := bC1.keep t2 id
  have bO2 := bO1.keep t2 id
  have bR2 := bR1.keep t2 id
  have T2 := T1.trans t2
  have l1 : ((w1.alloc (.cells #[.int .i64 1, .int .i64 c2, .int .i64 c3, .int .i64 c4, .int .i64 0, .int .i64 c6] 31)).alloc (.cells #[.int .i64 2, .int .i64 c2, .int .i64 c3, .int .i64 c4, .int .i64 0, .int .i64 c6] 31)).cell? ⟨z + 1, 1, none⟩ = some (.int .i64 c2) := bC2.cell 1
  have n0 : ((w1.alloc (.cells #[.int .i64 1, .int .i64 c2, .int .i64 c3, .int .i64 c4, .int .i64 0, .int .i64 c6] 31)).alloc (.cells #[.int .i64 2, .int .i64 c2, .int .i64 c3, .int .i64 c4, .int .i64 0, .int .i64 c6] 31)).cell? ⟨z, 0, none⟩ = some (.slice Ae b.ents.length ce) := bB2.cell 0
  have n1 : ((w1.alloc (.cells #[.int .i64 1, .int .i64 c2, .int .i64 c3, .int .i64 c4, .int .i64 0, .int .i64 c6] 31)).alloc (.cells #[.int .i64 2, .int .i64 c2, .int .i64 c3, .int .i64 c4, .int .i64 0, .int .i64 c6] 31)).cell? ⟨z, 1, none⟩ = some (.slice Aa b.accs.length ca) := bB2.cell 1
  have n2 : ((w1.alloc (.cells #[.int .i64 1, .int .i64 c2, .int .i64 c3, .int .i64 c4, .int .i64 0, .int .i64 c6] 31)).alloc (.cells #[.int .i64 2, .int .i64 c2, .int .i64 c3, .int .i64 c4, .int .i64 0, .int .i64 c6] 31)).cell? ⟨z, 2, none⟩ = some (.slice As b.stakes.length cs) := bB2.cell 2
  have n3 : ((w1.alloc (.cells #[.int .i64 1, .int .i64 c2, .int .i64 c3, .int .i64 c4, .int .i64 0, .int .i64 c6] 31)).alloc (.cells #[.int .i64 2, .int .i64 c2, .int .i64 c3, .int .i64 c4, .int .i64 0, .int .i64 c6] 31)).cell? ⟨z, 3, none⟩ = some (.slice Ar b.rates.length cr) := bB2.cell 3
  have n4 : ((w1.alloc (.cells #[.int .i64 1, .int .i64 c2, .int .i64 c3, .int .i64 c4, .int .i64 0, .int .i64 c6] 31)).alloc (.cells #[.int .i64 2, .int .i64 c2, .int .i64 c3, .int .i64 c4, .int .i64 0, .int .i64 c6] 31)).cell? ⟨z, 4, none⟩ = some (.slice Al b.locks.length cl) := bB2.cell 4
  have n5 : ((w1.alloc (.cells #[.int .i64 1, .int .i64 c2, .int .i64 c3, .int .i64 c4, .int .i64 0, .int .i64 c6] 31)).alloc (.cells #[.int .i64 2, .int .i64 c2, .int .i64 c3, .int .i64 c4, .int .i64 0, .int .i64 c6] 31)).cell? ⟨z, 5, none⟩ = some (.slice An us.length cn) := bB2.cell 5
  have HCU := Lib.hid (refcur30_any (H0.out _ T2) c2)
  have HBK := Lib.hid (fun w' (t9 : Tch (fun _ => False) w w') => H0.out w' t9)
  generalize curOf b c2 = cu at *
  clear h31 tM tL t2 bC1 bB1 bO1 bR1 T1 bC1m H0
  go_wp2_with fail
  generalize ((w1.alloc (.cells #[.int .i64 1, .int .i64 c2, .int .i64 c3, .int .i64 c4, .int .i64 0, .int .i64 c6] 31))).alloc _ = W2 at *
  generalize hyy : w1.heap.size = y at *
  refine HCU.out.mono ?_
  rintro _ w3 ⟨rfl, t3⟩
  have bB3 := bB2.keep t3 id
  have bC3 := bC2.keep t3 id
  have bO3 := bO2.keep t3 id
  have bR3 := bR2.keep t3 id
  have bM3 := bM2.keep t3 id
  have bL3 := bL2.keep t3 id
  have T3 := T2.trans t3
  clear HCU k0 k1 k2 k3 k4 k5 g0 g1 g2 g3 g4 g5 m0 m1 m2 m3 m4 m5 n0 n1 n2 n3 n4 n5 l1 t3 bB2 bC2 bO2 bR2 bM2 bL2 T2
  have k4 : w3.cell? ⟨z + 1, 4, none⟩ = some (.int .i64 c5) := bC3.cell 4
  by_cases he : cu = c5
  · have hb : (cu == c5) = true := by simpa using he
    have hrc := HRC.out
    rw [if_pos he] at hrc
    have HRC2 := Lib.hid hrc
    have r2 : w3.cell? ⟨z + 1 + 1 + 1, 1 + 1, none⟩ = some (.slice none 0 0) := bR3.cell 2
    have l0 : w3.cell? ⟨y + 1, 0, none⟩ = some (.int .i64 2) := bL3.cell 0
    have l1 : w3.cell? ⟨y + 1, 1, none⟩ = some (.int .i64 c2) := bL3.cell 1
    have l2 : w3.cell? ⟨y + 1, 2, none⟩ = some (.int .i64 c3) := bL3.cell 2
    have l3 : w3.cell? ⟨y + 1, 3, none⟩ = some (.int .i64 c4) := bL3.cell 3
    have l4 : w3.cell? ⟨y + 1, 4, none⟩ = some (.int .i64 0) := bL3.cell 4
    have l5 : w3.cell? ⟨y + 1, 5, none⟩ = some (.int .i64 c6) := bL3.cell 5
    have tN := Tch.alloc (fun _ => False) w3 (.cells #[.int .i64 2, .int .i64 c2, .int .i64 c3, .int .i64 c4, .int .i64 0, .int .i64 c6] 31)
    have HBE := Lib.hid (fun m9 => (Blk.new w3 31 #[.int .i64 2, .int .i64 c2, .int .i64 c3, .int .i64 c4, .int .i64 0, .int .i64 c6]).cell m9)
    have hown0 : (w3.alloc (.cells #[.int .i64 2, .int .i64 c2, .int .i64 c3, .int .i64 c4, .int .i64 0, .int .i64 c6] 31)).ownsRow w3.heap.size 31 6 (.slice none 0 0) 0 [] := World.ownsRow_nil _ _ _ _
    have bO4 := bO3.keep tN id
    have bR4 := bR3.keep tN id
    have T4 := T3.trans tN
    have hs3 := bL3.lt
    clear hrc HRC he HLF HBK bC3 bO3 bM3 bL3 bB3 bR3 T3
    go_wp2_with (at_builtin; refine Hid.out ?_)
    refine Lib.hid ?_
    refine wpList_append _ rfl _ _ 40 rfl rowCells (own_base hown0) (by rfl) (Go.Gk.Src.one (news := int6 (2, c2, c3, c4, 0, c6)) rfl (fun m9 u9 hu9 => by rw [HBE.out m9]; simpa [int6] using hu9)) (by rfl) (one6 _) (by unfold maxLen; omega) (by omega) ?_
    intro v2 w5 ho2 hg2 hl2
    obtain ⟨O2, co2, rfl, _, _⟩ := own_form ho2
    have tg : Tch (fun _ => False) _ w5 := Tch.grown hg2 fun k9 hk9 => by cases hk9
    have hob : ∀ g, (Value.slice O2 (0 + 1) co2).ownBlock = some g → w3.heap.size ≤ g := fun g hg => by
      rcases hl2 g hg with h9 | h9
      · cases h9
      · have := tN.size; omega
    have bO5 := bO4.keep tg id
    have bR5 := bR4.keep tg id
    have T5 := T4.trans tg
    clear l0 l1 l2 l3 l4 l5 r2 hg2 hl2 bO4 bR4 T4 tg tN hown0 k4
    go_wp2_with (refine wpList_store_cell rfl _ _ _ rfl (z + 1 + 1 + 1) 2 (.slice O2 (0 + 1) co2) (by rfl) (by rfl) rfl (by rfl) bR5 (by simp) ?_; refine Hid.out ?_)
    refine Lib.hid ?_
    intro w8 bR6 ts6
    (try simp only [List.setIfInBounds_toArray, List.set_cons_succ, List.set_cons_zero] at bR6)
    have bO6 := bO5.keep ts6 (by omega)
    have T6 := T5.trans' ts6 (fun i hi => .inr (by have hi : i = z + 1 + 1 + 1 := hi; have := HZW.out; omega))
    have HROWS := Lib.hid (fun w' (t9 : Tch (fun g => g = z + 1 + 1) w8 w') => (show RowsOf int6 6 (fun _ => True) w' (.slice O2 (0 + 1) co2) [(2, c2, c3, c4, 0, c6)] from Row.keepTo (P' := fun _ => True) (Row.own (ts6.own ho2 (fun g hg he => by have he : g = z + 1 + 1 + 1 := he; have := hob g hg; omega)) (P := fun g => w3.heap.size ≤ g) (fun g hg => hob g hg)) t9 (fun g _ hg => ⟨fun e => by have e : g = z + 1 + 1 := e; omega, trivial⟩)))
    clear bR5 bO5 T5 ts6 ho2
    have f0 : w8.cell? ⟨z + 1 + 1 + 1, 0, none⟩ = some (.int .i64 0) := bR6.cell 0
    have f1 : w8.cell? ⟨z + 1 + 1 + 1, 1, none⟩ = some (.int .i64 0) := bR6.cell 1
    have f2 : w8.cell? ⟨z + 1 + 1 + 1, 2, none⟩ = some (.slice O2 (0 + 1) co2) := bR6.cell 2
    have f3 : w8.cell? ⟨z + 1 + 1 + 1, 3, none⟩ = some (.slice none 0 0) := bR6.cell 3
    have f4 : w8.cell? ⟨z + 1 + 1 + 1, 4, none⟩ = some (.int .i64 0) := bR6.cell 4
    have f5 : w8.cell? ⟨z + 1 + 1 + 1, 5, none⟩ = some (.int .i64 0) := bR6.cell 5
    have f6 : w8.cell? ⟨z + 1 + 1 + 1, 6, none⟩ = some (.int .i64 0) := bR6.cell 6
    have f7 : w8.cell? ⟨z + 1 + 1 + 1, 7, none⟩ = some (.int .i64 0) := bR6.cell 7
    have f8 : w8.cell? ⟨z + 1 + 1 + 1, 8, none⟩ = some (.int .i64 0) := bR6.cell 8
    have f9 : w8.cell? ⟨z + 1 + 1 + 1, 9, none⟩ = some (.int .i64 0) := bR6.cell 9
    have f10 : w8.cell? ⟨z + 1 + 1 + 1, 10, none⟩ = some (.bool false) := bR6.cell 10
    have f11 : w8.cell? ⟨z + 1 + 1 + 1, 11, none⟩ = some (.int .i64 0) := bR6.cell 11
    have f12 : w8.cell? ⟨z + 1 + 1 + 1, 12, none⟩ = some (.int .i64 0) := bR6.cell 12
    have f13 : w8.cell? ⟨z + 1 + 1 + 1, 13, none⟩ = some (.bool false) := bR6.cell 13
    clear bR6
    go_wp2_with (refine wpList_store_blk rfl _ _ _ rfl (z + 1 + 1) #[.int .i64 0, .int .i64 0, .slice O2 (0 + 1) co2, .slice none 0 0, .int .i64 0, .int .i64 0, .int .i64 0, .int .i64 0, .int .i64 0, .int .i64 0, .bool false, .int .i64 0, .int .i64 0, .bool false] (by rfl) (by rfl) bO6 (by kernel_rfl) rfl (by simp [Value.oneCell']) ?_; refine Hid.out ?_)
    refine Lib.hid ?_
    intro w9 hF tF
    have HF := Lib.hid hF
    have HTF := Lib.hid tF
    clear hF tF bO6 f0 f1 f2 f3 f4 f5 f6 f7 f8 f9 f10 f11 f12 f13
    go_wp2
    (try simp only [Exit.inBlock, Exit.then])
    (try rw [Exit.noGoto_ret])
    refine bodyPost_ret (results_row_tmp (P := Tryz.prog) rfl _ _ (z + 1 + 1) 50 _ (0, 0) _ rfl HF.out Tryz.underlying50 rfl (by kernel_rfl)) rfl ?_
    unfold TransOk
    rw [HLN.out, HRC2.out]
    exact ⟨_, rfl, ⟨_, _, rfl, HROWS.out w9 HTF.out, Row.nil _ _ _⟩, T6.trans' (F' := fun g => g = z + 1 + 1) HTF.out (fun i hi => .inr (by have hi : i = z + 1 + 1 := hi; have := HZW.out; omega))⟩
  have hb : (cu == c5) = false := by simpa using he
  have hrc := HRC.out
  rw [if_neg he] at hrc
  have HRC2 := Lib.hid hrc
  clear hrc HRC he
  obtain ⟨k, hk, hkx, hka⟩ := accIs_at HLF.out
  have HAC := Lib.hid (refacc30_any (HBK.out w3 T3) hk c3 hkx)
  have hkd : kindOf b c3 = b.accs[k].2.1 := by unfold kindOf; rw [hka]; rfl
  rw [hkd] at HRC2
  clear hkx hka hkd HLF
  generalize b.accs[k] = ac at *
  obtain ⟨a1, kd, a3, a4⟩ := ac
  unfold acc4 at HAC
  simp only at HAC HRC2
  clear hk
  have k2 : w3.cell? ⟨z + 1, 2, none⟩ = some (.int .i64 c3) := bC3.cell 2
  have g0 : w3.cell? ⟨z, 0, none⟩ = some (.slice Ae b.ents.length ce) := bB3.cell 0
  have g1 : w3.cell? ⟨z, 1, none⟩ = some (.slice Aa b.accs.length ca) := bB3.cell 1
  have g2 : w3.cell? ⟨z, 2, none⟩ = some (.slice As b.stakes.length cs) := bB3.cell 2
  have g3 : w3.cell? ⟨z, 3, none⟩ = some (.slice Ar b.rates.length cr) := bB3.cell 3
  have g4 : w3.cell? ⟨z, 4, none⟩ = some (.slice Al b.locks.length cl) := bB3.cell 4
  have g5 : w3.cell? ⟨z, 5, none⟩ = some (.slice An us.length cn) := bB3.cell 5
  go_wp2_with fail
  refine HAC.out.mono ?_
  rintro _ w4 ⟨rfl, t4⟩
  have tA := Tch.alloc (fun _ => False) w4 (.cells #[.int .i64 a1, .int .i64 kd, .bool a3, .bool a4] 90)
  have bA4 := Blk.new w4 90 #[.int .i64 a1, .int .i64 kd, .bool a3, .bool a4]
  have t4A := t4.trans tA
  have bB4 := bB3.keep t4A id
  have bC4 := bC3.keep t4A id
  have bO4 := bO3.keep t4A id
  have bR4 := bR3.keep t4A id
  have bM4 := bM3.keep t4A id
  have bL4 := bL3.keep t4A id
  have T4 := T3.trans t4A
  have hs4 := bL3.lt
  have hs5 := t4.size
  have HRT := Lib.hid (fun w' (t9 : Tch (fun _ => False) w w') => refrate30_any (HBK.out w' t9) hr cu c5 kd c4)
  generalize rateOf b.rates cu c5 kd c4 = RT at *
  obtain ⟨⟨q1, q2⟩, q3⟩ := RT
  simp only at HRT HRC2
  clear HAC t4 tA t4A bB3 bC3 bO3 bR3 bM3 bL3 T3 k2 k4 g0 g1 g2 g3 g4 g5 HBK
  go_wp2_with (refine wpList_store_cell rfl _ _ _ rfl (z + 1 + 1 + 1) 10 (.bool true) (by rfl) (by rfl) rfl (by rfl) bR4 (by simp) ?_; refine Hid.out ?_)
  refine Lib.hid ?_
  intro w5 bR5 ts5
  (try simp only [List.setIfInBounds_toArray, List.set_cons_succ, List.set_cons_zero] at bR5)
  have bR5 : Blk w5 (z + 1 + 1 + 1) 50 #[.int .i64 0, .int .i64 0, .slice none 0 0, .slice none 0 0, .int .i64 0, .int .i64 0, .int .i64 0, .int .i64 0, .int .i64 0, .int .i64 0, .bool true, .int .i64 0, .int .i64 0, .bool false] := bR5
  have bB5 := bB4.keep ts5 (by omega)
  have bC5 := bC4.keep ts5 (by omega)
  have bO5 := bO4.keep ts5 (by omega)
  have bM5 := bM4.keep ts5 (by omega)
  have bL5 := bL4.keep ts5 (by omega)
  have bA5 := bA4.keep ts5 (by omega)
  have T5 := T4.trans' ts5 (fun i hi => .inr (by have hi : i = z + 1 + 1 + 1 := hi; have := HZW.out; omega))
  clear bR4 bB4 bC4 bO4 bM4 bL4 bA4 T4 ts5 
  generalize w4.alloc _ = W4 at *
  generalize hya : w4.heap.size = ya at *
  have g0 : w5.cell? ⟨z, 0, none⟩ = some (.slice Ae b.ents.length ce) := bB5.cell 0
  have g1 : w5.cell? ⟨z, 1, none⟩ = some (.slice Aa b.accs.length ca) := bB5.cell 1
  have g2 : w5.cell? ⟨z, 2, none⟩ = some (.slice As b.stakes.length cs) := bB5.cell 2
  have g3 : w5.cell? ⟨z, 3, none⟩ = some (.slice Ar b.rates.length cr) := bB5.cell 3
  have g4 : w5.cell? ⟨z, 4, none⟩ = some (.slice Al b.locks.length cl) := bB5.cell 4
  have g5 : w5.cell? ⟨z, 5, none⟩ = some (.slice An us.length cn) := bB5.cell 5
  have p1 : w5.cell? ⟨ya, 1, none⟩ = some (.int .i64 kd) := bA5.cell 1
  have p3 : w5.cell? ⟨z + 1, 3, none⟩ = some (.int .i64 c4) := bC5.cell 3
  have p4 : w5.cell? ⟨z + 1, 4, none⟩ = some (.int .i64 c5) := bC5.cell 4
  go_wp2_with fail
  refine (HRT.out w5 T5).mono ?_
  rintro _ w6 ⟨rfl, t6⟩
  have bC6 := bC5.keep t6 id
  have bO6 := bO5.keep t6 id
  have bR6 := bR5.keep t6 id
  have bM6 := bM5.keep t6 id
  have bL6 := bL5.keep t6 id
  have bA6 := bA5.keep t6 id
  have T6 := T5.trans t6
  clear HRT g0 g1 g2 g3 g4 g5 p1 p3 p4 bB5 bC5 bO5 bR5 bM5 bL5 bA5 T5 t6
  go_wp2_with (refine wpList_store_part rfl _ _ _ rfl (z + 1 + 1 + 1) [.int .i64 0, .int .i64 0, .slice none 0 0, .slice none 0 0, .int .i64 0, .int .i64 0, .int .i64 0, .int .i64 0, .int .i64 0, .int .i64 0, .bool true] [.int .i64 0, .int .i64 0] [.int .i64 q1, .int .i64 q2] [.bool false] (by rfl) (by rfl) (by simp [Value.oneCell']) (by kernel_rfl) rfl bR6 ?_; refine Hid.out ?_)
  refine Lib.hid ?_
  intro w7 bR7 ts7
  (try simp only [List.setIfInBounds_toArray, List.set_cons_succ, List.set_cons_zero] at bR7)
  have bR7 : Blk w7 (z + 1 + 1 + 1) 50 #[.int .i64 0, .int .i64 0, .slice none 0 0, .slice none 0 0, .int .i64 0, .int .i64 0, .int .i64 0, .int .i64 0, .int .i64 0, .int .i64 0, .bool true, .int .i64 q1, .int .i64 q2, .bool false] := bR7
  have bC7 := bC6.keep ts7 (by omega)
  have bO7 := bO6.keep ts7 (by omega)
  have bM7 := bM6.keep ts7 (by omega)
  have bL7 := bL6.keep ts7 (by omega)
  have bA7 := bA6.keep ts7 (by omega)
  have T7 := T6.trans' ts7 (fun i hi => .inr (by have hi : i = z + 1 + 1 + 1 := hi; have := HZW.out; omega))
  clear bR6 bC6 bO6 bM6 bL6 bA6 T6 ts7 
  go_wp2_with (refine wpList_store_cell rfl _ _ _ rfl (z + 1 + 1 + 1) 13 (.bool q3) (by rfl) (by rfl) rfl (by rfl) bR7 (by simp) ?_; refine Hid.out ?_)
  refine Lib.hid ?_
  intro w8 bR8 ts8
  (try simp only [List.setIfInBounds_toArray, List.set_cons_succ, List.set_cons_zero] at bR8)
  have bR8 : Blk w8 (z + 1 + 1 + 1) 50 #[.int .i64 0, .int .i64 0, .slice none 0 0, .slice none 0 0, .int .i64 0, .int .i64 0, .int .i64 0, .int .i64 0, .int .i64 0, .int .i64 0, .bool true, .int .i64 q1, .int .i64 q2, .bool q3] := bR8
  have bC8 := bC7.keep ts8 (by omega)
  have bO8 := bO7.keep ts8 (by omega)
  have bM8 := bM7.keep ts8 (by omega)
  have bL8 := bL7.keep ts8 (by omega)
  have bA8 := bA7.keep ts8 (by omega)
  have T8 := T7.trans' ts8 (fun i hi => .inr (by have hi : i = z + 1 + 1 + 1 := hi; have := HZW.out; omega))
  clear bR7 bC7 bO7 bM7 bL7 bA7 T7 ts8 
  have p1 : w8.cell? ⟨ya, 1, none⟩ = some (.int .i64 kd) := bA8.cell 1
  by_cases hkd : kd = 1
  · subst hkd
    have hrc := HRC2.out
    rw [if_pos rfl, if_neg (fun h => h.1 rfl)] at hrc
    have HRC3 := Lib.hid hrc
    have l0 : w8.cell? ⟨y + 1, 0, none⟩ = some (.int .i64 2) := bL8.cell 0
    have l1 : w8.cell? ⟨y + 1, 1, none⟩ = some (.int .i64 c2) := bL8.cell 1
    have l2 : w8.cell? ⟨y + 1, 2, none⟩ = some (.int .i64 c3) := bL8.cell 2
    have l3 : w8.cell? ⟨y + 1, 3, none⟩ = some (.int .i64 c4) := bL8.cell 3
    have l4 : w8.cell? ⟨y + 1, 4, none⟩ = some (.int .i64 0) := bL8.cell 4
    have l5 : w8.cell? ⟨y + 1, 5, none⟩ = some (.int .i64 c6) := bL8.cell 5
    clear hrc HRC2 bA8 bM8 bL8 bC8
    go_wp2_with (refine wpList_store_part rfl _ _ _ rfl (z + 1 + 1 + 1) [.int .i64 0, .int .i64 0, .slice none 0 0, .slice none 0 0] [.int .i64 0, .int .i64 0, .int .i64 0, .int .i64 0, .int .i64 0, .int .i64 0] [.int .i64 2, .int .i64 c2, .int .i64 c3, .int .i64 c4, .int .i64 0, .int .i64 c6] [.bool true, .int .i64 q1, .int .i64 q2, .bool q3] (by rfl) (by rfl) (by simp [Value.oneCell']) (by kernel_rfl) rfl bR8 ?_; refine Hid.out ?_)
    refine Lib.hid ?_
    intro wa bR9 ts9
    (try simp only [List.setIfInBounds_toArray, List.set_cons_succ, List.set_cons_zero] at bR9)
    have bR9 : Blk wa (z + 1 + 1 + 1) 50 #[.int .i64 0, .int .i64 0, .slice none 0 0, .slice none 0 0, .int .i64 2, .int .i64 c2, .int .i64 c3, .int .i64 c4, .int .i64 0, .int .i64 c6, .bool true, .int .i64 q1, .int .i64 q2, .bool q3] := bR9
    have bO9 := bO8.keep ts9 (by omega)
    have T9 := T8.trans' ts9 (fun i hi => .inr (by have hi : i = z + 1 + 1 + 1 := hi; have := HZW.out; omega))
    clear bR8 bO8 T8 ts9 l0 l1 l2 l3 l4 l5 p1
    have f0 : wa.cell? ⟨z + 1 + 1 + 1, 0, none⟩ = some (.int .i64 0) := bR9.cell 0
    have f1 : wa.cell? ⟨z + 1 + 1 + 1, 1, none⟩ = some (.int .i64 0) := bR9.cell 1
    have f2 : wa.cell? ⟨z + 1 + 1 + 1, 2, none⟩ = some (.slice none 0 0) := bR9.cell 2
    have f3 : wa.cell? ⟨z + 1 + 1 + 1, 3, none⟩ = some (.slice none 0 0) := bR9.cell 3
    have f4 : wa.cell? ⟨z + 1 + 1 + 1, 4, none⟩ = some (.int .i64 2) := bR9.cell 4
    have f5 : wa.cell? ⟨z + 1 + 1 + 1, 5, none⟩ = some (.int .i64 c2) := bR9.cell 5
    have f6 : wa.cell? ⟨z + 1 + 1 + 1, 6, none⟩ = some (.int .i64 c3) := bR9.cell 6
    have f7 : wa.cell? ⟨z + 1 + 1 + 1, 7, none⟩ = some (.int .i64 c4) := bR9.cell 7
    have f8 : wa.cell? ⟨z + 1 + 1 + 1, 8, none⟩ = some (.int .i64 0) := bR9.cell 8
    have f9 : wa.cell? ⟨z + 1 + 1 + 1, 9, none⟩ = some (.int .i64 c6) := bR9.cell 9
    have f10 : wa.cell? ⟨z + 1 + 1 + 1, 10, none⟩ = some (.bool true) := bR9.cell 10
    have f11 : wa.cell? ⟨z + 1 + 1 + 1, 11, none⟩ = some (.int .i64 q1) := bR9.cell 11
    have f12 : wa.cell? ⟨z + 1 + 1 + 1, 12, none⟩ = some (.int .i64 q2) := bR9.cell 12
    have f13 : wa.cell? ⟨z + 1 + 1 + 1, 13, none⟩ = some (.bool q3) := bR9.cell 13
    clear bR9
    go_wp2_with (refine wpList_store_blk rfl _ _ _ rfl (z + 1 + 1) #[.int .i64 0, .int .i64 0, .slice none 0 0, .slice none 0 0, .int .i64 2, .int .i64 c2, .int .i64 c3, .int .i64 c4, .int .i64 0, .int .i64 c6, .bool true, .int .i64 q1, .int .i64 q2, .bool q3] (by rfl) (by rfl) bO9 (by kernel_rfl) rfl (by simp [Value.oneCell']) ?_; refine Hid.out ?_)
    refine Lib.hid ?_
    intro w9 hF tF
    have HF := Lib.hid hF
    have HTF := Lib.hid tF
    clear hF tF bO9 f0 f1 f2 f3 f4 f5 f6 f7 f8 f9 f10 f11 f12 f13
    go_wp2
    (try simp only [Exit.inBlock, Exit.then])
    (try rw [Exit.noGoto_ret])
    refine bodyPost_ret (results_row_tmp (P := Tryz.prog) rfl _ _ (z + 1 + 1) 50 _ (0, 0) _ rfl HF.out Tryz.underlying50 rfl (by kernel_rfl)) rfl ?_
    unfold TransOk
    rw [HLN.out, HRC3.out]
    exact ⟨_, rfl, ⟨_, _, rfl, Row.nil _ _ _, Row.nil _ _ _⟩, T9.trans' (F' := fun g => g = z + 1 + 1) HTF.out (fun i hi => .inr (by have hi : i = z + 1 + 1 := hi; have := HZW.out; omega))⟩
  have hk1 : (kd == 1) = false := by simpa using hkd
  have l0 : w8.cell? ⟨y, 0, none⟩ = some (.int .i64 1) := bM8.cell 0
  have l1 : w8.cell? ⟨y, 1, none⟩ = some (.int .i64 c2) := bM8.cell 1
  have l2 : w8.cell? ⟨y, 2, none⟩ = some (.int .i64 c3) := bM8.cell 2
  have l3 : w8.cell? ⟨y, 3, none⟩ = some (.int .i64 c4) := bM8.cell 3
  have l4 : w8.cell? ⟨y, 4, none⟩ = some (.int .i64 0) := bM8.cell 4
  have l5 : w8.cell? ⟨y, 5, none⟩ = some (.int .i64 c6) := bM8.cell 5
  clear bA8 bM8 bL8
  go_wp2_with (refine wpList_store_part rfl _ _ _ rfl (z + 1 + 1 + 1) [.int .i64 0, .int .i64 0, .slice none 0 0, .slice none 0 0] [.int .i64 0, .int .i64 0, .int .i64 0, .int .i64 0, .int .i64 0, .int .i64 0] [.int .i64 1, .int .i64 c2, .int .i64 c3, .int .i64 c4, .int .i64 0, .int .i64 c6] [.bool true, .int .i64 q1, .int .i64 q2, .bool q3] (by rfl) (by rfl) (by simp [Value.oneCell']) (by kernel_rfl) rfl bR8 ?_; refine Hid.out ?_)
  refine Lib.hid ?_
  intro wa bR9 ts9
  (try simp only [List.setIfInBounds_toArray, List.set_cons_succ, List.set_cons_zero] at bR9)
  have bR9 : Blk wa (z + 1 + 1 + 1) 50 #[.int .i64 0, .int .i64 0, .slice none 0 0, .slice none 0 0, .int .i64 1, .int .i64 c2, .int .i64 c3, .int .i64 c4, .int .i64 0, .int .i64 c6, .bool true, .int .i64 q1, .int .i64 q2, .bool q3] := bR9
  have bC9 := bC8.keep ts9 (by omega)
  have bO9 := bO8.keep ts9 (by omega)
  have T9 := T8.trans' ts9 (fun i hi => .inr (by have hi : i = z + 1 + 1 + 1 := hi; have := HZW.out; omega))
  clear bR8 bC8 bO8 T8 ts9 l0 l1 l2 l3 l4 l5 p1
  have k0 : wa.cell? ⟨z + 1, 0, none⟩ = some (.int .i64 3) := bC9.cell 0
  have k1 : wa.cell? ⟨z + 1, 1, none⟩ = some (.int .i64 c2) := bC9.cell 1
  have k2 : wa.cell? ⟨z + 1, 2, none⟩ = some (.int .i64 c3) := bC9.cell 2
  have k3 : wa.cell? ⟨z + 1, 3, none⟩ = some (.int .i64 c4) := bC9.cell 3
  have k4 : wa.cell? ⟨z + 1, 4, none⟩ = some (.int .i64 c5) := bC9.cell 4
  have k5 : wa.cell? ⟨z + 1, 5, none⟩ = some (.int .i64 c6) := bC9.cell 5
  by_cases hc4 : c4 > 0
  rotate_left
  · have hc4' : ¬ (0 : Int) < c4 := hc4
    have hrc := HRC2.out
    rw [if_neg hkd, if_neg (fun h => hc4 h.2)] at hrc
    have HRC3 := Lib.hid hrc
    clear hrc HRC2 hkd hc4 HC4 bC9
    have f0 : wa.cell? ⟨z + 1 + 1 + 1, 0, none⟩ = some (.int .i64 0) := bR9.cell 0
    have f1 : wa.cell? ⟨z + 1 + 1 + 1, 1, none⟩ = some (.int .i64 0) := bR9.cell 1
    have f2 : wa.cell? ⟨z + 1 + 1 + 1, 2, none⟩ = some (.slice none 0 0) := bR9.cell 2
    have f3 : wa.cell? ⟨z + 1 + 1 + 1, 3, none⟩ = some (.slice none 0 0) := bR9.cell 3
    have f4 : wa.cell? ⟨z + 1 + 1 + 1, 4, none⟩ = some (.int .i64 1) := bR9.cell 4
    have f5 : wa.cell? ⟨z + 1 + 1 + 1, 5, none⟩ = some (.int .i64 c2) := bR9.cell 5
    have f6 : wa.cell? ⟨z + 1 + 1 + 1, 6, none⟩ = some (.int .i64 c3) := bR9.cell 6
    have f7 : wa.cell? ⟨z + 1 + 1 + 1, 7, none⟩ = some (.int .i64 c4) := bR9.cell 7
    have f8 : wa.cell? ⟨z + 1 + 1 + 1, 8, none⟩ = some (.int .i64 0) := bR9.cell 8
    have f9 : wa.cell? ⟨z + 1 + 1 + 1, 9, none⟩ = some (.int .i64 c6) := bR9.cell 9
    have f10 : wa.cell? ⟨z + 1 + 1 + 1, 10, none⟩ = some (.bool true) := bR9.cell 10
    have f11 : wa.cell? ⟨z + 1 + 1 + 1, 11, none⟩ = some (.int .i64 q1) := bR9.cell 11
    have f12 : wa.cell? ⟨z + 1 + 1 + 1, 12, none⟩ = some (.int .i64 q2) := bR9.cell 12
    have f13 : wa.cell? ⟨z + 1 + 1 + 1, 13, none⟩ = some (.bool q3) := bR9.cell 13
    clear bR9
    go_wp2_with (refine wpList_store_blk rfl _ _ _ rfl (z + 1 + 1) #[.int .i64 0, .int .i64 0, .slice none 0 0, .slice none 0 0, .int .i64 1, .int .i64 c2, .int .i64 c3, .int .i64 c4, .int .i64 0, .int .i64 c6, .bool true, .int .i64 q1, .int .i64 q2, .bool q3] (by rfl) (by rfl) bO9 (by kernel_rfl) rfl (by simp [Value.oneCell']) ?_; refine Hid.out ?_)
    refine Lib.hid ?_
    intro w9 hF tF
    have HF := Lib.hid hF
    have HTF := Lib.hid tF
    clear hF tF bO9 f0 f1 f2 f3 f4 f5 f6 f7 f8 f9 f10 f11 f12 f13
    go_wp2
    (try simp only [Exit.inBlock, Exit.then])
    (try rw [Exit.noGoto_ret])
    refine bodyPost_ret (results_row_tmp (P := Tryz.prog) rfl _ _ (z + 1 + 1) 50 _ (0, 0) _ rfl HF.out Tryz.underlying50 rfl (by kernel_rfl)) rfl ?_
    unfold TransOk
    rw [HLN.out, HRC3.out]
    exact ⟨_, rfl, ⟨_, _, rfl, Row.nil _ _ _, Row.nil _ _ _⟩, T9.trans' (F' := fun g => g = z + 1 + 1) HTF.out (fun i hi => .inr (by have hi : i = z + 1 + 1 := hi; have := HZW.out; omega))⟩
  have hc4' : (0 : Int) < c4 := hc4
  have hrc := HRC2.out
  rw [if_neg hkd, if_pos ⟨hkd, hc4⟩] at hrc
  have HRC3 := Lib.hid hrc
  have hw4 : wrap64 (c4 - 1) = c4 - 1 := by unfold wrap64; have := HC4.out; omega
  have r2 : wa.cell? ⟨z + 1 + 1 + 1, 1 + 1, none⟩ = some (.slice none 0 0) := bR9.cell 2
  have tN := Tch.alloc (fun _ => False) wa (.cells #[.int .i64 3, .int .i64 c2, .int .i64 c3, .int .i64 (c4 - 1), .int .i64 c5, .int .i64 c6] 31)
  have HBE := Lib.hid (fun m9 => (Blk.new wa 31 #[.int .i64 3, .int .i64 c2, .int .i64 c3, .int .i64 (c4 - 1), .int .i64 c5, .int .i64 c6]).cell m9)
  have hown0 : (wa.alloc (.cells #[.int .i64 3, .int .i64 c2, .int .i64 c3, .int .i64 (c4 - 1), .int .i64 c5, .int .i64 c6] 31)).ownsRow wa.heap.size 31 6 (.slice none 0 0) 0 [] := World.ownsRow_nil _ _ _ _
  have bO10 := bO9.keep tN id
  have bR10 := bR9.keep tN id
  have T10 := T9.trans tN
  have hs9 := bR9.lt
  have hs8 := bO9.lt
  clear hrc HRC2 hkd hc4 bC9 bO9 bR9 T9
  go_wp2_with (at_builtin; refine Hid.out ?_)
  refine Lib.hid ?_
  refine wpList_append _ rfl _ _ 40 rfl rowCells (own_base hown0) (by rfl) (Go.Gk.Src.one (news := int6 (3, c2, c3, c4 - 1, c5, c6)) rfl (fun m9 u9 hu9 => by rw [HBE.out m9]; simpa [int6] using hu9)) (by rfl) (one6 _) (by unfold maxLen; omega) (by omega) ?_
  intro v2 wb ho2 hg2 hl2
  obtain ⟨O2, co2, rfl, _, _⟩ := own_form ho2
  have tg : Tch (fun _ => False) _ wb := Tch.grown hg2 fun k9 hk9 => by cases hk9
  have hob : ∀ g, (Value.slice O2 (0 + 1) co2).ownBlock = some g → wa.heap.size ≤ g := fun g hg => by
    rcases hl2 g hg with h9 | h9
    · cases h9
    · have := tN.size; omega
  have bO11 := bO10.keep tg id
  have bR11 := bR10.keep tg id
  have T11 := T10.trans tg
  clear k0 k1 k2 k3 k4 k5 r2 hg2 hl2 bO10 bR10 T10 tg tN hown0
  go_wp2_with (refine wpList_store_cell rfl _ _ _ rfl (z + 1 + 1 + 1) 2 (.slice O2 (0 + 1) co2) (by rfl) (by rfl) rfl (by rfl) bR11 (by simp) ?_; refine Hid.out ?_)
  refine Lib.hid ?_
  intro wc bR12 ts12
  (try simp only [List.setIfInBounds_toArray, List.set_cons_succ, List.set_cons_zero] at bR12)
  have bO12 := bO11.keep ts12 (by omega)
  have T12 := T11.trans' ts12 (fun i hi => .inr (by have hi : i = z + 1 + 1 + 1 := hi; have := HZW.out; omega))
  have HROWS := Lib.hid (fun w' (t9 : Tch (fun g => g = z + 1 + 1) wc w') => (show RowsOf int6 6 (fun _ => True) w' (.slice O2 (0 + 1) co2) [(3, c2, c3, c4 - 1, c5, c6)] from Row.keepTo (P' := fun _ => True) (Row.own (ts12.own ho2 (fun g hg he => by have he : g = z + 1 + 1 + 1 := he; have := hob g hg; omega)) (P := fun g => wa.heap.size ≤ g) (fun g hg => hob g hg)) t9 (fun g _ hg => ⟨fun e => by have e : g = z + 1 + 1 := e; omega, trivial⟩)))
  clear bR11 bO11 T11 ts12 ho2
  have f0 : wc.cell? ⟨z + 1 + 1 + 1, 0, none⟩ = some (.int .i64 0) := bR12.cell 0
  have f1 : wc.cell? ⟨z + 1 + 1 + 1, 1, none⟩ = some (.int .i64 0) := bR12.cell 1
  have f2 : wc.cell? ⟨z + 1 + 1 + 1, 2, none⟩ = some (.slice O2 (0 + 1) co2) := bR12.cell 2
  have f3 : wc.cell? ⟨z + 1 + 1 + 1, 3, none⟩ = some (.slice none 0 0) := bR12.cell 3
  have f4 : wc.cell? ⟨z + 1 + 1 + 1, 4, none⟩ = some (.int .i64 1) := bR12.cell 4
  have f5 : wc.cell? ⟨z + 1 + 1 + 1, 5, none⟩ = some (.int .i64 c2) := bR12.cell 5
  have f6 : wc.cell? ⟨z + 1 + 1 + 1, 6, none⟩ = some (.int .i64 c3) := bR12.cell 6
  have f7 : wc.cell? ⟨z + 1 + 1 + 1, 7, none⟩ = some (.int .i64 c4) := bR12.cell 7
  have f8 : wc.cell? ⟨z + 1 + 1 + 1, 8, none⟩ = some (.int .i64 0) := bR12.cell 8
  have f9 : wc.cell? ⟨z + 1 + 1 + 1, 9, none⟩ = some (.int .i64 c6) := bR12.cell 9
  have f10 : wc.cell? ⟨z + 1 + 1 + 1, 10, none⟩ = some (.bool true) := bR12.cell 10
  have f11 : wc.cell? ⟨z + 1 + 1 + 1, 11, none⟩ = some (.int .i64 q1) := bR12.cell 11
  have f12 : wc.cell? ⟨z + 1 + 1 + 1, 12, none⟩ = some (.int .i64 q2) := bR12.cell 12
  have f13 : wc.cell? ⟨z + 1 + 1 + 1, 13, none⟩ = some (.bool q3) := bR12.cell 13
  clear bR12
  go_wp2_with (refine wpList_store_blk rfl _ _ _ rfl (z + 1 + 1) #[.int .i64 0, .int .i64 0, .slice O2 (0 + 1) co2, .slice none 0 0, .int .i64 1, .int .i64 c2, .int .i64 c3, .int .i64 c4, .int .i64 0, .int .i64 c6, .bool true, .int .i64 q1, .int .i64 q2, .bool q3] (by rfl) (by rfl) bO12 (by kernel_rfl) rfl (by simp [Value.oneCell']) ?_; refine Hid.out ?_)
  refine Lib.hid ?_
  intro w9 hF tF
  have HF := Lib.hid hF
  have HTF := Lib.hid tF
  clear hF tF bO12 f0 f1 f2 f3 f4 f5 f6 f7 f8 f9 f10 f11 f12 f13
  go_wp2
  (try simp only [Exit.inBlock, Exit.then])
  (try rw [Exit.noGoto_ret])
  refine bodyPost_ret (results_row_tmp (P := Tryz.prog) rfl _ _ (z + 1 + 1) 50 _ (0, 0) _ rfl HF.out Tryz.underlying50 rfl (by kernel_rfl)) rfl ?_
  unfold TransOk
  rw [HLN.out, HRC3.out]
  exact ⟨_, rfl, ⟨_, _, rfl, HROWS.out w9 HTF.out, Row.nil _ _ _⟩, T12.trans' (F' := fun g => g = z + 1 + 1) HTF.out (fun i hi => .inr (by have hi : i = z + 1 + 1 := hi; have := HZW.out; omega))⟩
end Go.Proofs.YtblenmelciaigaaGreatDoor
