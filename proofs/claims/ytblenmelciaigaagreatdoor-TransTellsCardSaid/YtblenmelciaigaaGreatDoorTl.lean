/-
  TransTells: the walk.
-/
import Derived.Test.YtblenmelciaigaaGreatDoorAw
import Derived.Test.YtblenmelciaigaaGreatDoorRt
import Derived.Test.YtblenmelciaigaaGreatDoorZ24
namespace Go.Proofs.YtblenmelciaigaaGreatDoor
open Go.RowKit Go.Gk

set_option maxRecDepth 100000 in
set_option maxHeartbeats 12800000 in
theorem transtells_any {w : World} {e a s r l n : Value} {b : Bks} {us : List (Ent × Value)} (h : BksAt w e a s r l n b us) (h64 : Bks64 b) (hT : Tab64 1 w) (c1 c2 c3 c4 c5 c6 : Int) :
    Calls Tryz.prog 3 #[.agg #[e, a, s, r, l, n], .agg #[.int .i64 c1, .int .i64 c2, .int .i64 c3, .int .i64 c4, .int .i64 c5, .int .i64 c6]] w fun x w' => x = .returned (.bool true) ∧ Tch (fun _ => False) w w' := by
  have HTA := Lib.hid (fun w' (t9 : Tch (fun _ => False) w w') => hT.keep t9)
  clear hT
  have ta := Tch.alloc (fun _ => False) w (.cells #[e, a, s, r, l, n] 29)
  have tb := Tch.alloc (fun _ => False) (w.alloc (.cells #[e, a, s, r, l, n] 29)) (.cells #[.int .i64 c1, .int .i64 c2, .int .i64 c3, .int .i64 c4, .int .i64 c5, .int .i64 c6] 31)
  have tw := ta.trans tb
  have hbB := (Blk.new w 29 #[e, a, s, r, l, n]).keep tb id
  have hbC := Blk.new2 w (.cells #[e, a, s, r, l, n] 29) 31 #[.int .i64 c1, .int .i64 c2, .int .i64 c3, .int .i64 c4, .int .i64 c5, .int .i64 c6]
  have HF := Lib.hid (few26_any (h.keep tw))
  have HW := Lib.hid (h.keep tw)
  have HM := Lib.hid h.map
  obtain ⟨Ae, ce, rfl, _, _⟩ := h.ents.form
  obtain ⟨Aa, ca, rfl, _, _⟩ := h.accs.form
  obtain ⟨As, cs, rfl, _, _⟩ := h.stakes.form
  obtain ⟨Ar, cr, rfl, _, _⟩ := h.rates.form
  obtain ⟨Al, cl, rfl, _, _⟩ := h.locks.form
  obtain ⟨An, cn, rfl, _, _⟩ := h.ent.row.form
  clear ta tb h
  obtain ⟨fw, hfw⟩ : ∃ fw, few26 b = fw := ⟨_, rfl⟩
  rw [hfw] at HF
  go_enter Tryz.func3, Tryz.ntmps3
  go_wp2_with fail
  generalize (w.alloc (.cells #[.slice Ae b.ents.length ce, .slice Aa b.accs.length ca, .slice As b.stakes.length cs, .slice Ar b.rates.length cr, .slice Al b.locks.length cl, .slice An us.length cn] 29)).alloc (.cells #[.int .i64 c1, .int .i64 c2, .int .i64 c3, .int .i64 c4, .int .i64 c5, .int .i64 c6] 31) = W at *
  generalize w.heap.size = z at *
  refine HF.out.mono ?_
  rintro _ w1 ⟨rfl, t1⟩
  clear HF
  have tt1 := tw.trans t1
  cases fw
  · clear hfw
    go_wp2_with fail
    refine (awake32_any w1 (HTA.out w1 tt1)).mono ?_
    rintro _ w2 ⟨rfl, t2⟩
    go_wp2
    go_ret
    exact ⟨rfl, tt1.trans t2⟩
  have hfew := few26_few hfw
  have hB1 := hbB.keep t1 id
  have hC1 := hbC.keep t1 id
  have h1 := HW.out.keep t1
  clear hbB hbC HW tw t1 hfw
  have g0 : w1.cell? ⟨z, 0, none⟩ = some (.slice Ae b.ents.length ce) := hB1.cell 0
  have g1 : w1.cell? ⟨z, 1, none⟩ = some (.slice Aa b.accs.length ca) := hB1.cell 1
  have g2 : w1.cell? ⟨z, 2, none⟩ = some (.slice As b.stakes.length cs) := hB1.cell 2
  have g3 : w1.cell? ⟨z, 3, none⟩ = some (.slice Ar b.rates.length cr) := hB1.cell 3
  have g4 : w1.cell? ⟨z, 4, none⟩ = some (.slice Al b.locks.length cl) := hB1.cell 4
  have g5 : w1.cell? ⟨z, 5, none⟩ = some (.slice An us.length cn) := hB1.cell 5
  go_wp2_with fail
  refine (see_any h1 hfew h64).mono ?_
  rintro _ w2 ⟨hsee, t2⟩
  have tt2 := tt1.trans t2
  rcases hsee with ⟨_, m, rfl, hm⟩ | ⟨hok, bv, bi, B, t, mr, mp, e', a', s', r', l', n', lv, fs, us', rfl, hV⟩
  · have hm2 : (m != 0) = true := by simpa using hm
    clear g0 g1 g2 g3 g4 g5 hm
    go_wp2_with fail
    refine (awake32_any w2 (HTA.out w2 tt2)).mono ?_
    rintro _ w3 ⟨rfl, t3⟩
    go_wp2
    go_ret
    exact ⟨rfl, tt2.trans t3⟩
  have hB2 := hB1.keep t2 id
  have hC2 := hC1.keep t2 id
  have h2 := h1.keep t2
  clear g0 g1 g2 g3 g4 g5 hB1 hC1 h1 tt1 t2
  have hn := leaves_few hfew
  have hrl : b.rates.length ≤ 1000000 := by have := hfew.rates; omega
  have haccs : b.accs.length ≤ 100000 := by have := hfew.accs; omega
  clear hfew h64 hok
  have q0 : w2.cell? ⟨z + 1, 0, none⟩ = some (.int .i64 c1) := hC2.cell 0
  have q1 : w2.cell? ⟨z + 1, 1, none⟩ = some (.int .i64 c2) := hC2.cell 1
  have q2 : w2.cell? ⟨z + 1, 2, none⟩ = some (.int .i64 c3) := hC2.cell 2
  have q3 : w2.cell? ⟨z + 1, 3, none⟩ = some (.int .i64 c4) := hC2.cell 3
  have q4 : w2.cell? ⟨z + 1, 4, none⟩ = some (.int .i64 c5) := hC2.cell 4
  have q5 : w2.cell? ⟨z + 1, 5, none⟩ = some (.int .i64 c6) := hC2.cell 5
  go_wp2_with fail
  refine (transrec_any hV hn hrl (HTA.out w2 tt2) c1 c2 c3 c4 c5 c6).mono ?_
  rintro _ w3 ⟨v1, rfl, hr1, t3⟩
  have HR := Lib.hid (fun (w' : World) (h : BksAt w' (.slice Ae b.ents.length ce) (.slice Aa b.accs.length ca) (.slice As b.stakes.length cs) (.slice Ar b.rates.length cr) (.slice Al b.locks.length cl) (.slice An us.length cn) b us) => reftrans_any h haccs hrl c1 c2 c3 c4 c5 c6)
  unfold TransOk at HR
  generalize transOf b (c1, c2, c3, c4, c5, c6) = lo at *
  obtain ⟨R, er⟩ := lo
  simp only at hr1 HR
  obtain ⟨p1, m1, rfl, hp1, hm1⟩ := hr1
  obtain ⟨P1, k1, rfl, _, _⟩ := hp1.form
  obtain ⟨M1, d1, rfl, _, _⟩ := hm1.form
  have tc := Tch.alloc (fun _ => False) w3 (.cells #[.int .i64 R.base.1, .int .i64 R.base.2, .slice P1 R.plus.length k1, .slice M1 R.minus.length d1, .int .i64 R.scaled.1, .int .i64 R.scaled.2.1, .int .i64 R.scaled.2.2.1, .int .i64 R.scaled.2.2.2.1, .int .i64 R.scaled.2.2.2.2.1, .int .i64 R.scaled.2.2.2.2.2, .bool R.rated, .int .i64 R.ratio.1, .int .i64 R.ratio.2, .bool R.has] 46)
  have x3 := Blk.new w3 46 #[.int .i64 R.base.1, .int .i64 R.base.2, .slice P1 R.plus.length k1, .slice M1 R.minus.length d1, .int .i64 R.scaled.1, .int .i64 R.scaled.2.1, .int .i64 R.scaled.2.2.1, .int .i64 R.scaled.2.2.2.1, .int .i64 R.scaled.2.2.2.2.1, .int .i64 R.scaled.2.2.2.2.2, .bool R.rated, .int .i64 R.ratio.1, .int .i64 R.ratio.2, .bool R.has]
  have hp3 := hp1.keep tc
  have hm3 := hm1.keep tc
  have t4 := t3.trans tc
  have hB3 := hB2.keep t4 id
  have hC3 := hC2.keep t4 id
  have h3 := h2.keep t4
  have tt3 := tt2.trans t4
  clear hV hn hrl haccs q0 q1 q2 q3 q4 q5 hB2 hC2 h2 tt2 t3 t4 tc hp1 hm1
  have g0 : (w3.alloc (.cells #[.int .i64 R.base.1, .int .i64 R.base.2, .slice P1 R.plus.length k1, .slice M1 R.minus.length d1, .int .i64 R.scaled.1, .int .i64 R.scaled.2.1, .int .i64 R.scaled.2.2.1, .int .i64 R.scaled.2.2.2.1, .int .i64 R.scaled.2.2.2.2.1, .int .i64 R.scaled.2.2.2.2.2, .bool R.rated, .int .i64 R.ratio.1, .int .i64 R.ratio.2, .bool R.has] 46)).cell? ⟨z, 0, none⟩ = some (.slice Ae b.ents.length ce) := hB3.cell 0
  have g1 : (w3.alloc (.cells #[.int .i64 R.base.1, .int .i64 R.base.2, .slice P1 R.plus.length k1, .slice M1 R.minus.length d1, .int .i64 R.scaled.1, .int .i64 R.scaled.2.1, .int .i64 R.scaled.2.2.1, .int .i64 R.scaled.2.2.2.1, .int .i64 R.scaled.2.2.2.2.1, .int .i64 R.scaled.2.2.2.2.2, .bool R.rated, .int .i64 R.ratio.1, .int .i64 R.ratio.2, .bool R.has] 46)).cell? ⟨z, 1, none⟩ = some (.slice Aa b.accs.length ca) := hB3.cell 1
  have g2 : (w3.alloc (.cells #[.int .i64 R.base.1, .int .i64 R.base.2, .slice P1 R.plus.length k1, .slice M1 R.minus.length d1, .int .i64 R.scaled.1, .int .i64 R.scaled.2.1, .int .i64 R.scaled.2.2.1, .int .i64 R.scaled.2.2.2.1, .int .i64 R.scaled.2.2.2.2.1, .int .i64 R.scaled.2.2.2.2.2, .bool R.rated, .int .i64 R.ratio.1, .int .i64 R.ratio.2, .bool R.has] 46)).cell? ⟨z, 2, none⟩ = some (.slice As b.stakes.length cs) := hB3.cell 2
  have g3 : (w3.alloc (.cells #[.int .i64 R.base.1, .int .i64 R.base.2, .slice P1 R.plus.length k1, .slice M1 R.minus.length d1, .int .i64 R.scaled.1, .int .i64 R.scaled.2.1, .int .i64 R.scaled.2.2.1, .int .i64 R.scaled.2.2.2.1, .int .i64 R.scaled.2.2.2.2.1, .int .i64 R.scaled.2.2.2.2.2, .bool R.rated, .int .i64 R.ratio.1, .int .i64 R.ratio.2, .bool R.has] 46)).cell? ⟨z, 3, none⟩ = some (.slice Ar b.rates.length cr) := hB3.cell 3
  have g4 : (w3.alloc (.cells #[.int .i64 R.base.1, .int .i64 R.base.2, .slice P1 R.plus.length k1, .slice M1 R.minus.length d1, .int .i64 R.scaled.1, .int .i64 R.scaled.2.1, .int .i64 R.scaled.2.2.1, .int .i64 R.scaled.2.2.2.1, .int .i64 R.scaled.2.2.2.2.1, .int .i64 R.scaled.2.2.2.2.2, .bool R.rated, .int .i64 R.ratio.1, .int .i64 R.ratio.2, .bool R.has] 46)).cell? ⟨z, 4, none⟩ = some (.slice Al b.locks.length cl) := hB3.cell 4
  have g5 : (w3.alloc (.cells #[.int .i64 R.base.1, .int .i64 R.base.2, .slice P1 R.plus.length k1, .slice M1 R.minus.length d1, .int .i64 R.scaled.1, .int .i64 R.scaled.2.1, .int .i64 R.scaled.2.2.1, .int .i64 R.scaled.2.2.2.1, .int .i64 R.scaled.2.2.2.2.1, .int .i64 R.scaled.2.2.2.2.2, .bool R.rated, .int .i64 R.ratio.1, .int .i64 R.ratio.2, .bool R.has] 46)).cell? ⟨z, 5, none⟩ = some (.slice An us.length cn) := hB3.cell 5
  have q0 : (w3.alloc (.cells #[.int .i64 R.base.1, .int .i64 R.base.2, .slice P1 R.plus.length k1, .slice M1 R.minus.length d1, .int .i64 R.scaled.1, .int .i64 R.scaled.2.1, .int .i64 R.scaled.2.2.1, .int .i64 R.scaled.2.2.2.1, .int .i64 R.scaled.2.2.2.2.1, .int .i64 R.scaled.2.2.2.2.2, .bool R.rated, .int .i64 R.ratio.1, .int .i64 R.ratio.2, .bool R.has] 46)).cell? ⟨z + 1, 0, none⟩ = some (.int .i64 c1) := hC3.cell 0
  have q1 : (w3.alloc (.cells #[.int .i64 R.base.1, .int .i64 R.base.2, .slice P1 R.plus.length k1, .slice M1 R.minus.length d1, .int .i64 R.scaled.1, .int .i64 R.scaled.2.1, .int .i64 R.scaled.2.2.1, .int .i64 R.scaled.2.2.2.1, .int .i64 R.scaled.2.2.2.2.1, .int .i64 R.scaled.2.2.2.2.2, .bool R.rated, .int .i64 R.ratio.1, .int .i64 R.ratio.2, .bool R.has] 46)).cell? ⟨z + 1, 1, none⟩ = some (.int .i64 c2) := hC3.cell 1
  have q2 : (w3.alloc (.cells #[.int .i64 R.base.1, .int .i64 R.base.2, .slice P1 R.plus.length k1, .slice M1 R.minus.length d1, .int .i64 R.scaled.1, .int .i64 R.scaled.2.1, .int .i64 R.scaled.2.2.1, .int .i64 R.scaled.2.2.2.1, .int .i64 R.scaled.2.2.2.2.1, .int .i64 R.scaled.2.2.2.2.2, .bool R.rated, .int .i64 R.ratio.1, .int .i64 R.ratio.2, .bool R.has] 46)).cell? ⟨z + 1, 2, none⟩ = some (.int .i64 c3) := hC3.cell 2
  have q3 : (w3.alloc (.cells #[.int .i64 R.base.1, .int .i64 R.base.2, .slice P1 R.plus.length k1, .slice M1 R.minus.length d1, .int .i64 R.scaled.1, .int .i64 R.scaled.2.1, .int .i64 R.scaled.2.2.1, .int .i64 R.scaled.2.2.2.1, .int .i64 R.scaled.2.2.2.2.1, .int .i64 R.scaled.2.2.2.2.2, .bool R.rated, .int .i64 R.ratio.1, .int .i64 R.ratio.2, .bool R.has] 46)).cell? ⟨z + 1, 3, none⟩ = some (.int .i64 c4) := hC3.cell 3
  have q4 : (w3.alloc (.cells #[.int .i64 R.base.1, .int .i64 R.base.2, .slice P1 R.plus.length k1, .slice M1 R.minus.length d1, .int .i64 R.scaled.1, .int .i64 R.scaled.2.1, .int .i64 R.scaled.2.2.1, .int .i64 R.scaled.2.2.2.1, .int .i64 R.scaled.2.2.2.2.1, .int .i64 R.scaled.2.2.2.2.2, .bool R.rated, .int .i64 R.ratio.1, .int .i64 R.ratio.2, .bool R.has] 46)).cell? ⟨z + 1, 4, none⟩ = some (.int .i64 c5) := hC3.cell 4
  have q5 : (w3.alloc (.cells #[.int .i64 R.base.1, .int .i64 R.base.2, .slice P1 R.plus.length k1, .slice M1 R.minus.length d1, .int .i64 R.scaled.1, .int .i64 R.scaled.2.1, .int .i64 R.scaled.2.2.1, .int .i64 R.scaled.2.2.2.1, .int .i64 R.scaled.2.2.2.2.1, .int .i64 R.scaled.2.2.2.2.2, .bool R.rated, .int .i64 R.ratio.1, .int .i64 R.ratio.2, .bool R.has] 46)).cell? ⟨z + 1, 5, none⟩ = some (.int .i64 c6) := hC3.cell 5
  unfold rcpV
  go_wp2_with fail
  generalize w3.alloc _ = W3 at *
  generalize w3.heap.size = y1 at *
  refine (HR.out W3 h3).mono ?_
  rintro _ w4 ⟨v2, rfl, hr2, t5⟩
  clear HR h3 hB3 hC3 g0 g1 g2 g3 g4 g5 q0 q1 q2 q3 q4 q5
  obtain ⟨p2, m2, rfl, hp2, hm2⟩ := hr2
  obtain ⟨P2, k2, rfl, _, _⟩ := hp2.form
  obtain ⟨M2, d2, rfl, _, _⟩ := hm2.form
  have td := Tch.alloc (fun _ => False) w4 (.cells #[.int .i64 R.base.1, .int .i64 R.base.2, .slice P2 R.plus.length k2, .slice M2 R.minus.length d2, .int .i64 R.scaled.1, .int .i64 R.scaled.2.1, .int .i64 R.scaled.2.2.1, .int .i64 R.scaled.2.2.2.1, .int .i64 R.scaled.2.2.2.2.1, .int .i64 R.scaled.2.2.2.2.2, .bool R.rated, .int .i64 R.ratio.1, .int .i64 R.ratio.2, .bool R.has] 50)
  have y4 := Blk.new w4 50 #[.int .i64 R.base.1, .int .i64 R.base.2, .slice P2 R.plus.length k2, .slice M2 R.minus.length d2, .int .i64 R.scaled.1, .int .i64 R.scaled.2.1, .int .i64 R.scaled.2.2.1, .int .i64 R.scaled.2.2.2.1, .int .i64 R.scaled.2.2.2.2.1, .int .i64 R.scaled.2.2.2.2.2, .bool R.rated, .int .i64 R.ratio.1, .int .i64 R.ratio.2, .bool R.has]
  have t6 := t5.trans td
  have x4 := x3.keep t6 id
  have tt4 := tt3.trans t6
  have HB := Lib.hid (fun (w' : World) (t : Tch (fun _ => False) (w4.alloc (.cells #[.int .i64 R.base.1, .int .i64 R.base.2, .slice P2 R.plus.length k2, .slice M2 R.minus.length d2, .int .i64 R.scaled.1, .int .i64 R.scaled.2.1, .int .i64 R.scaled.2.2.1, .int .i64 R.scaled.2.2.2.1, .int .i64 R.scaled.2.2.2.2.1, .int .i64 R.scaled.2.2.2.2.2, .bool R.rated, .int .i64 R.ratio.1, .int .i64 R.ratio.2, .bool R.has] 50)) w') => back_any (r := R) (show RcpIs w' (.agg #[.int .i64 R.base.1, .int .i64 R.base.2, .slice P1 R.plus.length k1, .slice M1 R.minus.length d1, .int .i64 R.scaled.1, .int .i64 R.scaled.2.1, .int .i64 R.scaled.2.2.1, .int .i64 R.scaled.2.2.2.1, .int .i64 R.scaled.2.2.2.2.1, .int .i64 R.scaled.2.2.2.2.2, .bool R.rated, .int .i64 R.ratio.1, .int .i64 R.ratio.2, .bool R.has]) R from ⟨_, _, rfl, (hp3.keep t6).keep t, (hm3.keep t6).keep t⟩))
  have HS := Lib.hid (fun (w' : World) (u : Value) (t : Tch (fun _ => False) (w4.alloc (.cells #[.int .i64 R.base.1, .int .i64 R.base.2, .slice P2 R.plus.length k2, .slice M2 R.minus.length d2, .int .i64 R.scaled.1, .int .i64 R.scaled.2.1, .int .i64 R.scaled.2.2.1, .int .i64 R.scaled.2.2.2.1, .int .i64 R.scaled.2.2.2.2.1, .int .i64 R.scaled.2.2.2.2.2, .bool R.rated, .int .i64 R.ratio.1, .int .i64 R.ratio.2, .bool R.has] 50)) w') (hu : RcpIs w' u R) => refsame29_any hu (show RcpIs w' (.agg #[.int .i64 R.base.1, .int .i64 R.base.2, .slice P2 R.plus.length k2, .slice M2 R.minus.length d2, .int .i64 R.scaled.1, .int .i64 R.scaled.2.1, .int .i64 R.scaled.2.2.1, .int .i64 R.scaled.2.2.2.1, .int .i64 R.scaled.2.2.2.2.1, .int .i64 R.scaled.2.2.2.2.2, .bool R.rated, .int .i64 R.ratio.1, .int .i64 R.ratio.2, .bool R.has]) R from ⟨_, _, rfl, (hp2.keep td).keep t, (hm2.keep td).keep t⟩))
  clear hp3 hm3 hp2 hm2 x3 tt3 t5 td t6
  unfold rcpV
  go_wp2_with fail
  generalize w4.alloc _ = W4 at *
  generalize w4.heap.size = y2 at *
  have X0 := within_cell (F := fun _ => False) (show W4.cell? ⟨y1, 0, none⟩ = some (.int .i64 R.base.1) from x4.cell 0) id
  have Y0 := within_cell (F := fun _ => False) (show W4.cell? ⟨y2, 0, none⟩ = some (.int .i64 R.base.1) from y4.cell 0) id
  have X1 := within_cell (F := fun _ => False) (show W4.cell? ⟨y1, 1, none⟩ = some (.int .i64 R.base.2) from x4.cell 1) id
  have Y1 := within_cell (F := fun _ => False) (show W4.cell? ⟨y2, 1, none⟩ = some (.int .i64 R.base.2) from y4.cell 1) id
  have X2 := within_cell (F := fun _ => False) (show W4.cell? ⟨y1, 2, none⟩ = some (.slice P1 R.plus.length k1) from x4.cell 2) id
  have Y2 := within_cell (F := fun _ => False) (show W4.cell? ⟨y2, 2, none⟩ = some (.slice P2 R.plus.length k2) from y4.cell 2) id
  have X3 := within_cell (F := fun _ => False) (show W4.cell? ⟨y1, 3, none⟩ = some (.slice M1 R.minus.length d1) from x4.cell 3) id
  have Y3 := within_cell (F := fun _ => False) (show W4.cell? ⟨y2, 3, none⟩ = some (.slice M2 R.minus.length d2) from y4.cell 3) id
  have X4 := within_cell (F := fun _ => False) (show W4.cell? ⟨y1, 4, none⟩ = some (.int .i64 R.scaled.1) from x4.cell 4) id
  have Y4 := within_cell (F := fun _ => False) (show W4.cell? ⟨y2, 4, none⟩ = some (.int .i64 R.scaled.1) from y4.cell 4) id
  have X5 := within_cell (F := fun _ => False) (show W4.cell? ⟨y1, 5, none⟩ = some (.int .i64 R.scaled.2.1) from x4.cell 5) id
  have Y5 := within_cell (F := fun _ => False) (show W4.cell? ⟨y2, 5, none⟩ = some (.int .i64 R.scaled.2.1) from y4.cell 5) id
  have X6 := within_cell (F := fun _ => False) (show W4.cell? ⟨y1, 6, none⟩ = some (.int .i64 R.scaled.2.2.1) from x4.cell 6) id
  have Y6 := within_cell (F := fun _ => False) (show W4.cell? ⟨y2, 6, none⟩ = some (.int .i64 R.scaled.2.2.1) from y4.cell 6) id
  have X7 := within_cell (F := fun _ => False) (show W4.cell? ⟨y1, 7, none⟩ = some (.int .i64 R.scaled.2.2.2.1) from x4.cell 7) id
  have Y7 := within_cell (F := fun _ => False) (show W4.cell? ⟨y2, 7, none⟩ = some (.int .i64 R.scaled.2.2.2.1) from y4.cell 7) id
  have X8 := within_cell (F := fun _ => False) (show W4.cell? ⟨y1, 8, none⟩ = some (.int .i64 R.scaled.2.2.2.2.1) from x4.cell 8) id
  have Y8 := within_cell (F := fun _ => False) (show W4.cell? ⟨y2, 8, none⟩ = some (.int .i64 R.scaled.2.2.2.2.1) from y4.cell 8) id
  have X9 := within_cell (F := fun _ => False) (show W4.cell? ⟨y1, 9, none⟩ = some (.int .i64 R.scaled.2.2.2.2.2) from x4.cell 9) id
  have Y9 := within_cell (F := fun _ => False) (show W4.cell? ⟨y2, 9, none⟩ = some (.int .i64 R.scaled.2.2.2.2.2) from y4.cell 9) id
  have X10 := within_cell (F := fun _ => False) (show W4.cell? ⟨y1, 10, none⟩ = some (.bool R.rated) from x4.cell 10) id
  have Y10 := within_cell (F := fun _ => False) (show W4.cell? ⟨y2, 10, none⟩ = some (.bool R.rated) from y4.cell 10) id
  have X11 := within_cell (F := fun _ => False) (show W4.cell? ⟨y1, 11, none⟩ = some (.int .i64 R.ratio.1) from x4.cell 11) id
  have Y11 := within_cell (F := fun _ => False) (show W4.cell? ⟨y2, 11, none⟩ = some (.int .i64 R.ratio.1) from y4.cell 11) id
  have X12 := within_cell (F := fun _ => False) (show W4.cell? ⟨y1, 12, none⟩ = some (.int .i64 R.ratio.2) from x4.cell 12) id
  have Y12 := within_cell (F := fun _ => False) (show W4.cell? ⟨y2, 12, none⟩ = some (.int .i64 R.ratio.2) from y4.cell 12) id
  have X13 := within_cell (F := fun _ => False) (show W4.cell? ⟨y1, 13, none⟩ = some (.bool R.has) from x4.cell 13) id
  have Y13 := within_cell (F := fun _ => False) (show W4.cell? ⟨y2, 13, none⟩ = some (.bool R.has) from y4.cell 13) id
  clear x4 y4
  refine wp_region_touch (fun _ => False) [] 7 [(1, .inr fun u w' => RcpIs w' u R), (3, .inl (.bool true))] [] (by kernel_rfl) rfl (by kernel_rfl) rfl (fun d _ _ _ _ h => by cases d <;> exact h) ?_ ?_
  · exact ⟨fun u a b hr h => h.keep hr, trivial⟩
  intro bef ops hbef hops
  have hb1 : (bef.getD 3 0).testBit 1 = true := by rw [hbef]; kernel_rfl
  clear hbef
  subst hops
  simp only [List.take_succ_cons, List.take_zero, List.drop_succ_cons, List.drop_zero]
  iterate 1 (refine t_det (by rfl) (by rfl) (by rfl) (by rfl) (fun K hK => ?_); go_big_quiet_op; (first | refine hK _ ?_ | refine ⟨_, fun _ => rfl, hK _ ?_⟩); clear hK K; (try simp only [Act.put, List.setIfInBounds_toArray, List.set_cons_succ, List.set_cons_zero]))
  refine t_loose (by rfl) (by rfl) (fun w5 hr hf => ?_) (fun d => ?_)
  · refine yields_of_wp (d := 40) rfl (by simp) (fun K hK => ?_)
    go_step
    refine (HB.out w5 ((Tch.drew _ W4).trans hr)).mono ?_
    rintro _ w6 ⟨v', rfl, ho, t2⟩
    exact hK _ _ ⟨⟨ho, t2⟩, newAt_no⟩
  simp only [Act.put, List.setIfInBounds_toArray, List.set_cons_succ, List.set_cons_zero]
  iterate 1 (refine t_det (by rfl) (by rfl) (by rfl) (by rfl) (fun K hK => ?_); go_big_quiet_op; (first | refine hK _ ?_ | refine ⟨_, fun _ => rfl, hK _ ?_⟩); clear hK K; (try simp only [Act.put, List.setIfInBounds_toArray, List.set_cons_succ, List.set_cons_zero]))
  refine t_fix (.bool true) (by rfl) (by rfl) (fun w5 hr hf => ?_) ?_
  · have hv := hf (1, fun w' => RcpIs w' d R) (List.mem_singleton.2 rfl) hb1
    refine yields_of_wp (d := 42) rfl (by simp) (fun K hK => ?_)
    go_step
    refine (HS.out w5 d ((Tch.drew _ W4).trans hr) hv).mono ?_
    rintro _ w6 ⟨rfl, t2⟩
    exact hK _ _ ⟨⟨rfl, t2⟩, newAt_no⟩
  simp only [Act.put, List.setIfInBounds_toArray, List.set_cons_succ, List.set_cons_zero]
  iterate 3 (refine t_det (by rfl) (by rfl) (by rfl) (by rfl) (fun K hK => ?_); go_big_quiet_op; (first | refine hK _ ?_ | refine ⟨_, fun _ => rfl, hK _ ?_⟩); clear hK K; (try simp only [Act.put, List.setIfInBounds_toArray, List.set_cons_succ, List.set_cons_zero]))
  refine t_nil ?_
  intro w5 hr hp hap
  have tt5 := tt4.trans ((Tch.drew _ W4).trans hr)
  clear hap hp hr hb1 HB HS tt4 X0 Y0 X1 Y1 X2 Y2 X3 Y3 X4 Y4 X5 Y5 X6 Y6 X7 Y7 X8 Y8 X9 Y9 X10 Y10 X11 Y11 X12 Y12 X13 Y13
  go_wp2_with fail
  refine (awake32_any w5 (HTA.out w5 tt5)).mono ?_
  rintro _ w6 ⟨rfl, t6⟩
  go_wp2
  go_ret
  exact ⟨rfl, tt5.trans t6⟩

theorem transtells_row {w : World} {u v : Value} (hT : Tab64 1 w) (hu : ∃ b, BooksIs (fun _ => True) w u b ∧ Bks64 b) (hv : ∃ c : Rt6, v = cellV c ∧ (I64 c.1 ∧ I64 c.2.1 ∧ I64 c.2.2.1 ∧ I64 c.2.2.2.1 ∧ I64 c.2.2.2.2.1 ∧ I64 c.2.2.2.2.2)) :
    Calls Tryz.prog 3 #[u, v] w fun x w' => x = .returned (.bool true) ∧ Tch (fun _ => False) w w' := by
  obtain ⟨b, hb, h64⟩ := hu
  obtain ⟨⟨c1, c2, c3, c4, c5, c6⟩, rfl, _⟩ := hv
  obtain ⟨e, a, s, r, l, n, us, rfl, h⟩ := hb.at
  exact transtells_any h h64 hT c1 c2 c3 c4 c5 c6
end Go.Proofs.YtblenmelciaigaaGreatDoor
