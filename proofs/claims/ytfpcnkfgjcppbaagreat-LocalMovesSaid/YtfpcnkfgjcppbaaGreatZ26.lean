/-
  LocalMoves: the walk.
-/
import Derived.Test.YtfpcnkfgjcppbaaGreatZ22
import Derived.Test.YtfpcnkfgjcppbaaGreatZ24
namespace Go.Proofs.YtfpcnkfgjcppbaaGreat
open Go.RowKit Go.Gk

theorem BigIs.form {B : Nat → Prop} {w : World} {v : Value} {x : Int} (h : BigIs B w v x) : ∃ sg D n c, v = .agg #[.bool sg, .slice D n c] := by
  obtain ⟨dv, rfl, hd⟩ := h
  obtain ⟨D, c, rfl, _, _⟩ := hd.form
  exact ⟨_, D, _, c, rfl⟩
theorem BigIs.aside {w w' : World} {v : Value} {x : Int} {y : Nat} (h : BigIs (fun g => g ≠ y) w v x) (t : Tch (fun g => g = y) w w') : BigIs (fun g => g ≠ y) w' v x :=
  let ⟨dv, e, hd⟩ := h; ⟨dv, e, hd.keepTo t fun _ _ hg => ⟨hg, hg⟩⟩
/-- A sum in a box of its own. -/
def SumAt (T : TypeId) (y : Nat) (w : World) (x : Int) : Prop := ∃ sg D n c, Blk w y T #[.bool sg, .slice D n c] ∧ BigIs (fun g => g ≠ y) w (.agg #[.bool sg, .slice D n c]) x
theorem SumAt.keep {T : TypeId} {y : Nat} {w w' : World} {x : Int} (h : SumAt T y w x) (t : Tch (fun _ => False) w w') : SumAt T y w' x :=
  let ⟨sg, D, n, c, h1, h2⟩ := h; ⟨sg, D, n, c, h1.keep t id, h2.keep t⟩
theorem SumAt.zero {T : TypeId} {y : Nat} {w : World} (h : Blk w y T #[.bool false, .slice none 0 0]) : SumAt T y w 0 :=
  ⟨false, none, 0, 0, h, ⟨.slice none 0 0, rfl, by rw [show dg (0 : Int).natAbs = [] by simp [dg_zero]]; exact Row.nil _ _ _⟩⟩

set_option maxRecDepth 100000 in
set_option maxHeartbeats 25600000 in
theorem localmoves_any {w : World} {e a s r l n : Value} {b : Bks} {us : List (Ent × Value)} (h : BksAt w e a s r l n b us) (h64 : Bks64 b) (c1 c2 c3 c4 c5 c6 : Int) :
    Calls Tryz.prog 6 #[.agg #[e, a, s, r, l, n], .agg #[.int .i64 c1, .int .i64 c2, .int .i64 c3, .int .i64 c4, .int .i64 c5, .int .i64 c6]] w fun x w' => x = .returned (.bool true) ∧ Tch (fun _ => False) w w' := by
  have ta := Tch.alloc (fun _ => False) w (.cells #[e, a, s, r, l, n] 29)
  have tb := Tch.alloc (fun _ => False) (w.alloc (.cells #[e, a, s, r, l, n] 29)) (.cells #[.int .i64 c1, .int .i64 c2, .int .i64 c3, .int .i64 c4, .int .i64 c5, .int .i64 c6] 31)
  have tw := ta.trans tb
  have hbB := (Blk.new w 29 #[e, a, s, r, l, n]).keep tb id
  have hbC := Blk.new2 w (.cells #[e, a, s, r, l, n] 29) 31 #[.int .i64 c1, .int .i64 c2, .int .i64 c3, .int .i64 c4, .int .i64 c5, .int .i64 c6]
  have HF := Lib.hid (few26_any (h.keep tw))
  have HW := Lib.hid (h.keep tw)
  have HM := Lib.hid h.map
  have hsz : ((w.alloc (.cells #[e, a, s, r, l, n] 29)).alloc (.cells #[.int .i64 c1, .int .i64 c2, .int .i64 c3, .int .i64 c4, .int .i64 c5, .int .i64 c6] 31)).heap.size = w.heap.size + 2 := by simp
  have H0 := Lib.hid h
  obtain ⟨Ae, ce, rfl, _, _⟩ := h.ents.form
  obtain ⟨Aa, ca, rfl, _, _⟩ := h.accs.form
  obtain ⟨As, cs, rfl, _, _⟩ := h.stakes.form
  obtain ⟨Ar, cr, rfl, _, _⟩ := h.rates.form
  obtain ⟨Al, cl, rfl, _, _⟩ := h.locks.form
  obtain ⟨An, cn, rfl, _, _⟩ := h.ent.row.form
  clear ta tb h
  obtain ⟨fw, hfw⟩ : ∃ fw, few26 b = fw := ⟨_, rfl⟩
  rw [hfw] at HF
  go_enter Tryz.func6, Tryz.ntmps6
  go_wp2_with fail
  generalize (w.alloc (.cells #[.slice Ae b.ents.length ce, .slice Aa b.accs.length ca, .slice As b.stakes.length cs, .slice Ar b.rates.length cr, .slice Al b.locks.length cl, .slice An us.length cn] 29)).alloc (.cells #[.int .i64 c1, .int .i64 c2, .int .i64 c3, .int .i64 c4, .int .i64 c5, .int .i64 c6] 31) = W at *
  generalize hzw : w.heap.size = z at *
  have HZW := Lib.hid hzw
  clear hzw
  refine HF.out.mono ?_
  rintro _ w1 ⟨rfl, t1⟩
  clear HF
  have tt1 := tw.trans t1
  cases fw
  · clear hfw
    go_wp2_with fail
    refine (awake_any w1).mono ?_
    rintro _ w2 ⟨rfl, t2⟩
    go_wp2
    go_ret
    exact ⟨rfl, tt1.trans t2⟩
  have hfew := few26_few hfw
  have hB1 := hbB.keep t1 id
  have hC1 := hbC.keep t1 id
  have h1 := HW.out.keep t1
  have hk1 : z + 2 ≤ w1.heap.size := by have := t1.size; omega
  clear hbB hbC HW tw t1 hfw hsz
  have g0 : w1.cell? ⟨z, 0, none⟩ = some (.slice Ae b.ents.length ce) := hB1.cell 0
  have g1 : w1.cell? ⟨z, 1, none⟩ = some (.slice Aa b.accs.length ca) := hB1.cell 1
  have g2 : w1.cell? ⟨z, 2, none⟩ = some (.slice As b.stakes.length cs) := hB1.cell 2
  have g3 : w1.cell? ⟨z, 3, none⟩ = some (.slice Ar b.rates.length cr) := hB1.cell 3
  have g4 : w1.cell? ⟨z, 4, none⟩ = some (.slice Al b.locks.length cl) := hB1.cell 4
  have g5 : w1.cell? ⟨z, 5, none⟩ = some (.slice An us.length cn) := hB1.cell 5
  go_wp2_with fail
  refine (see_far h1 hfew h64).mono ?_
  rintro _ w2 ⟨hsee, t2⟩
  have tt2 := tt1.trans t2
  rcases hsee with ⟨_, m, rfl, hm⟩ | ⟨hok, bv, bi, B, t, mr, mp, e', a', s', r', l', n', lv, fs, us', rfl, hV, hFar⟩
  · have hm2 : (m != 0) = true := by simpa using hm
    clear g0 g1 g2 g3 g4 g5 hm
    go_wp2_with fail
    refine (awake_any w2).mono ?_
    rintro _ w3 ⟨rfl, t3⟩
    go_wp2
    go_ret
    exact ⟨rfl, tt2.trans t3⟩
  have hB2 := hB1.keep t2 id
  have hk5 : z + 2 ≤ w2.heap.size := Nat.le_trans hk1 t2.size
  have hC2 := hC1.keep t2 id
  have HOK := Lib.hid hok
  clear g0 g1 g2 g3 g4 g5 hB1 hC1 h1 tt1 t2 hok
  have hn := leaves_few hfew
  have hp := posts_few hfew
  have hq := posts_64 h64
  have hul : us.length ≤ 60 := by have := hfew.entries; rw [← HM.out, List.length_map] at this; omega
  have hll : ∀ p ∈ us, p.1.lines.length ≤ 100 := fun p hp => by have := hfew.lines p.1 (by rw [← HM.out]; exact List.mem_map_of_mem hp); omega
  clear hfew h64
  -- the key becomes that of a movement with all partners
  go_wp2_with (refine wpList_store_cell rfl _ _ _ rfl (z + 1) 0 (.int .i64 1) (by rfl) (by rfl) rfl (by rfl) hC2 (by simp) ?_; refine Hid.out ?_)
  refine Lib.hid ?_
  intro w3 hC3 ts3
  (try simp only [List.setIfInBounds_toArray, List.set_cons_succ, List.set_cons_zero] at hC3)
  go_wp2_with (refine wpList_store_cell rfl _ _ _ rfl (z + 1) 4 (.int .i64 0) (by rfl) (by rfl) rfl (by rfl) hC3 (by simp) ?_; refine Hid.out ?_)
  refine Lib.hid ?_
  intro w4 hC4 ts4
  (try simp only [List.setIfInBounds_toArray, List.set_cons_succ, List.set_cons_zero] at hC4)
  go_wp2_with (refine wpList_store_cell rfl _ _ _ rfl (z + 1) 5 (.int .i64 0) (by rfl) (by rfl) rfl (by rfl) hC4 (by simp) ?_; refine Hid.out ?_)
  refine Lib.hid ?_
  intro w5 hC5 ts5
  (try simp only [List.setIfInBounds_toArray, List.set_cons_succ, List.set_cons_zero] at hC5)
  have tS := (ts3.trans ts4).trans ts5
  have hB5 := hB2.keep tS (by omega)
  have hz5 : z + 2 ≤ w5.heap.size := by have := tS.size; have := tt2.size; have := hk5; omega
  have tt5 := tt2.trans' tS (fun i hi => .inr (by have hi : i = z + 1 := hi; have := HZW.out; omega))
  obtain ⟨us5, hV5⟩ := hFar.view hV tS (fun g hg => by have hg : g = z + 1 := hg; omega)
  have H5 := Lib.hid (H0.out.keep tt5)
  clear hC2 hC3 hC4 ts3 ts4 ts5 tS hB2 tt2 hV hFar H0
  have q0 : w5.cell? ⟨z + 1, 0, none⟩ = some (.int .i64 1) := hC5.cell 0
  have q1 : w5.cell? ⟨z + 1, 1, none⟩ = some (.int .i64 c2) := hC5.cell 1
  have q2 : w5.cell? ⟨z + 1, 2, none⟩ = some (.int .i64 c3) := hC5.cell 2
  have q3 : w5.cell? ⟨z + 1, 3, none⟩ = some (.int .i64 c4) := hC5.cell 3
  have q4 : w5.cell? ⟨z + 1, 4, none⟩ = some (.int .i64 0) := hC5.cell 4
  have q5 : w5.cell? ⟨z + 1, 5, none⟩ = some (.int .i64 0) := hC5.cell 5
  go_wp2_with fail
  refine (localrec_any hV5 hn hp hq 1 c2 c3 c4 0 0).mono ?_
  rintro _ w6 ⟨v1, rfl, hr1, t6⟩
  have tt6 := tt5.trans t6
  have hB6 := hB5.keep t6 id
  have hC6 := hC5.keep t6 id
  have hV6 := hV5.keep t6
  have HT56 := Lib.hid t6
  have HLO := Lib.hid (show localOf b (1, c2, c3, c4, 0, 0) = if mayOf b (1, c2, c3, c4, 0, 0) 1 2 = 0 then ({ Rcp.none with base := localBase b (1, c2, c3, c4, 0, 0) }, 0) else (Rcp.none, mayOf b (1, c2, c3, c4, 0, 0) 1 2) by unfold localOf; simp)
  have HPM := Lib.hid (fun q (h0 : mayOf b (1, c2, c3, c4, 0, 0) 1 2 = 0) hq => may_partner HOK.out (q := q) h0 hq)
  generalize mayOf b (1, c2, c3, c4, 0, 0) 1 2 = m at *
  rw [HLO.out] at hr1 ⊢
  clear q0 q1 q2 q3 q4 q5 hB5 hC5 hV5 tt5 t6 HLO HOK
  by_cases hm : m = 0
  rotate_left
  · rw [if_neg hm] at hr1 ⊢
    have hm2 : (m != 0) = true := by simpa using hm
    simp only at hr1 ⊢
    obtain ⟨p1, m1, rfl, hp1, hm1⟩ := hr1
    obtain ⟨P1, k1, rfl, _, _⟩ := hp1.form
    obtain ⟨M1, d1, rfl, _, _⟩ := hm1.form
    unfold rcpV
    clear hp1 hm1 hm HPM
    have tE := tt6.trans (Tch.alloc (fun _ => False) w6 (.cells #[.int .i64 Rcp.none.base.1, .int .i64 Rcp.none.base.2, .slice P1 Rcp.none.plus.length k1, .slice M1 Rcp.none.minus.length d1, .int .i64 Rcp.none.scaled.1, .int .i64 Rcp.none.scaled.2.1, .int .i64 Rcp.none.scaled.2.2.1, .int .i64 Rcp.none.scaled.2.2.2.1, .int .i64 Rcp.none.scaled.2.2.2.2.1, .int .i64 Rcp.none.scaled.2.2.2.2.2, .bool Rcp.none.rated, .int .i64 Rcp.none.ratio.1, .int .i64 Rcp.none.ratio.2, .bool Rcp.none.has] 46))
    have hl0 : Rcp.none.plus.length = 0 := rfl
    rw [hl0] at tE ⊢
    go_wp2_with fail
    refine (awake_any _).mono ?_
    rintro _ w7 ⟨rfl, t7⟩
    go_wp2
    go_ret
    exact ⟨rfl, tE.trans t7⟩
  rw [if_pos hm] at hr1 ⊢
  have HPM2 := Lib.hid (fun q => HPM.out q hm)
  clear HPM
  have HPM := HPM2
  clear HPM2
  subst hm
  simp only at hr1 ⊢
  -- all lines' amounts
  have HBS := Lib.hid (fun q => show localBase b (1, c2, c3, c4, 0, q) = told2 (amtsAt (posts b.entries) (c2, c3, c4) q).sum from rfl)
  rw [HBS.out] at hr1
  have HRO := Lib.hid (amts_rows (posts b.entries) (c2, c3, c4) 0)
  have HIV := Lib.hid (fun w' (t : Tch (fun _ => False) w6 w') => vwids_any (hV6.keep t) hp c2 c3 c4 0)
  have HPA := Lib.hid (fun w' (t : Tch (fun _ => False) w6 w') => vwpart_any (hV6.keep t) hp c2 c3 c4)
  have HPS := Lib.hid (fun q h => ptn_some (ps := posts b.entries) (e := c2) (a := c3) (p := c4) (q := q) h)
  have HPX := Lib.hid (fun (x : Pst) hx hs h0 => ptn_all (ps := posts b.entries) (e := c2) (a := c3) (p := c4) (x := x) hx hs h0)
  have HAM := Lib.hid (fun q => show I64s (amtsAt (posts b.entries) (c2, c3, c4) q) from fun x hx => by
    unfold amtsAt at hx
    obtain ⟨y, hy, rfl⟩ := List.mem_map.1 hx
    exact hq y (List.mem_filter.1 hy).1)
  generalize hrw : (rowsAt (posts b.entries) (c2, c3, c4)).filter (fun r => (0 : Int) == 0 || r.2.1 == 0) = rows at *
  clear hrw
  have HSUM := Lib.hid (fun zs (hnd : zs.Nodup) (hz0 : (0 : Int) ∉ zs) hall => parts_sum (c2, c3, c4) hnd hz0 (posts b.entries) hall)
  obtain ⟨f, hf⟩ : ∃ f : Int → Int, (fun q => (amtsAt (posts b.entries) (c2, c3, c4) q).sum) = f := ⟨_, rfl⟩
  have HFE := Lib.hid (fun q => show (amtsAt (posts b.entries) (c2, c3, c4) q).sum = f q by rw [← hf])
  rw [HFE.out] at hr1
  obtain ⟨p1, m1, rfl, hp1, hm1⟩ := hr1
  obtain ⟨P1, k1, rfl, _, _⟩ := hp1.form
  obtain ⟨M1, d1, rfl, _, _⟩ := hm1.form
  unfold rcpV Rcp.none
  simp only [List.length_nil]
  have HX := Lib.hid (fun w' (t : Tch (fun _ => False) w6 w') => show RcpIs w' (.agg #[.int .i64 (told2 (f 0)).1, .int .i64 (told2 (f 0)).2, .slice P1 0 k1, .slice M1 0 d1, .int .i64 0, .int .i64 0, .int .i64 0, .int .i64 0, .int .i64 0, .int .i64 0, .bool false, .int .i64 0, .int .i64 0, .bool false]) { Rcp.none with base := told2 (f 0) } from ⟨_, _, rfl, hp1.keep t, hm1.keep t⟩)
  obtain ⟨R, hR⟩ : ∃ R, told2 (f 0) = R := ⟨_, rfl⟩
  rw [hR] at HX ⊢
  have HTR := Lib.hid hR
  have tA := Tch.alloc (fun _ => False) w6 (.cells #[.int .i64 R.1, .int .i64 R.2, .slice P1 0 k1, .slice M1 0 d1, .int .i64 0, .int .i64 0, .int .i64 0, .int .i64 0, .int .i64 0, .int .i64 0, .bool false, .int .i64 0, .int .i64 0, .bool false] 46)
  have bX := Blk.new w6 46 #[.int .i64 R.1, .int .i64 R.2, .slice P1 0 k1, .slice M1 0 d1, .int .i64 0, .int .i64 0, .int .i64 0, .int .i64 0, .int .i64 0, .int .i64 0, .bool false, .int .i64 0, .int .i64 0, .bool false]
  have hC7 := hC6.keep tA id
  have hB7 := hB6.keep tA id
  have hsz6 : w5.heap.size ≤ w6.heap.size := HT56.out.size
  have hszA : (w6.alloc (.cells #[.int .i64 R.1, .int .i64 R.2, .slice P1 0 k1, .slice M1 0 d1, .int .i64 0, .int .i64 0, .int .i64 0, .int .i64 0, .int .i64 0, .int .i64 0, .bool false, .int .i64 0, .int .i64 0, .bool false] 46)).heap.size = w6.heap.size + 1 := by simp
  have q1 : (w6.alloc (.cells #[.int .i64 R.1, .int .i64 R.2, .slice P1 0 k1, .slice M1 0 d1, .int .i64 0, .int .i64 0, .int .i64 0, .int .i64 0, .int .i64 0, .int .i64 0, .bool false, .int .i64 0, .int .i64 0, .bool false] 46)).cell? ⟨z + 1, 1, none⟩ = some (.int .i64 c2) := hC7.cell 1
  have q2 : (w6.alloc (.cells #[.int .i64 R.1, .int .i64 R.2, .slice P1 0 k1, .slice M1 0 d1, .int .i64 0, .int .i64 0, .int .i64 0, .int .i64 0, .int .i64 0, .int .i64 0, .bool false, .int .i64 0, .int .i64 0, .bool false] 46)).cell? ⟨z + 1, 2, none⟩ = some (.int .i64 c3) := hC7.cell 2
  have q3 : (w6.alloc (.cells #[.int .i64 R.1, .int .i64 R.2, .slice P1 0 k1, .slice M1 0 d1, .int .i64 0, .int .i64 0, .int .i64 0, .int .i64 0, .int .i64 0, .int .i64 0, .bool false, .int .i64 0, .int .i64 0, .bool false] 46)).cell? ⟨z + 1, 3, none⟩ = some (.int .i64 c4) := hC7.cell 3
  have HI := Lib.hid (HIV.out _ tA)
  clear hR HIV hp1 hm1 hC6 hB6 hf HBS
  go_wp2_with fail
  generalize w6.alloc _ = W6 at *
  generalize hy1e : w6.heap.size = y1 at *
  have HY1 := Lib.hid hy1e
  clear hy1e
  refine HI.out.mono ?_
  rintro _ w7 ⟨u, rfl, hO⟩
  obtain ⟨I, ki, rfl, _, _⟩ := hO.form
  have t67 := tA.trans hO.tch
  have bX7 := bX.keep hO.tch id
  have hC8 := hC7.keep hO.tch id
  have hB8 := hB7.keep hO.tch id
  have hs7 := hO.tch.size
  clear HI hO bX hC7 hB7 q1 q2 q3 tA
  rw [List.length_map]
  have tB := Tch.alloc (fun _ => False) w7 (.cells #[.bool false, .slice none 0 0] 70)
  have bS := Blk.new w7 70 #[.bool false, .slice none 0 0]
  have hszB : (w7.alloc (.cells #[.bool false, .slice none 0 0] 70)).heap.size = w7.heap.size + 1 := by simp
  have hC9 := hC8.keep tB id
  have HP := Lib.hid (HPA.out _ (t67.trans tB))
  have q1 : (w7.alloc (.cells #[.bool false, .slice none 0 0] 70)).cell? ⟨z + 1, 1, none⟩ = some (.int .i64 c2) := hC9.cell 1
  have q2 : (w7.alloc (.cells #[.bool false, .slice none 0 0] 70)).cell? ⟨z + 1, 2, none⟩ = some (.int .i64 c3) := hC9.cell 2
  have q3 : (w7.alloc (.cells #[.bool false, .slice none 0 0] 70)).cell? ⟨z + 1, 3, none⟩ = some (.int .i64 c4) := hC9.cell 3
  go_wp2_with fail
  generalize w7.alloc _ = W7 at *
  generalize hy2e : w7.heap.size = y2 at *
  have HY2 := Lib.hid hy2e
  clear hy2e
  refine HP.out.mono ?_
  rintro _ w8 ⟨u, zs, rfl, hz, hnd, hmem, hzl, t8⟩
  obtain ⟨U, ku, rfl, _, _⟩ := hz.form
  have t78 := tB.trans t8
  have bX8 := bX7.keep t78 id
  have hC10 := hC9.keep t8 id
  have hB10 := hB8.keep t78 id
  have hS0 := SumAt.zero (bS.keep t8 id)
  have t58 := HT56.out.trans (t67.trans t78)
  have t68 := t67.trans t78
  have tt8 := tt6.trans t68
  have hW7 := t8.size
  have hz0 : (0 : Int) ∉ zs := fun h => (HPS.out 0 ((hmem 0).1 h)).1 rfl
  have HTW := Lib.hid (HSUM.out zs hnd hz0 (fun x hx hs h0 => (hmem _).2 (HPX.out x hx hs h0)))
  have HMAY := Lib.hid (fun q (hq9 : q ∈ zs) => show localOf b (1, c2, c3, c4, 0, q) = ({ Rcp.none with base := told2 (f q) }, 0) by
    have h9 := HPM.out q (HPS.out q ((hmem q).1 hq9)).2
    unfold localOf
    rw [if_pos h9, if_pos rfl]
    show ({ Rcp.none with base := told2 (amtsAt (posts b.entries) (c2, c3, c4) q).sum }, (0 : Int)) = _
    rw [HFE.out])
  have HT5 := Lib.hid (fun wq (t : Tch (fun g => g = y2) w8 wq) => t58.trans' (F' := fun g => g = y2) t (fun i hi => .inr (by have hi : i = y2 := hi; omega)))
  have HT6 := Lib.hid (fun wq (t : Tch (fun g => g = y2) w8 wq) => t68.trans' (F' := fun g => g = y2) t (fun i hi => .inr (by have hi : i = y2 := hi; have := HY1.out; omega)))
  have HTT := Lib.hid (fun wq (t : Tch (fun g => g = y2) w8 wq) => tt8.trans' (F' := fun g => g = y2) t (fun i hi => .inr (by have hi : i = y2 := hi; have := tt6.size; have := HY1.out; omega)))
  have HV := Lib.hid hV6
  have HZ := Lib.hid hz
  have HXX := Lib.hid bX8
  have HCC := Lib.hid hC10
  have HBB := Lib.hid hB10
  have hy2 : y2 < w8.heap.size := by omega
  have hzy : z + 1 < y2 ∧ y1 < y2 := by omega
  clear HP HSUM HPX HPM HPS HPA hmem hz0 hnd hz bX7 hC8 hC9 hB8 bX8 hC10 hB10 bS tB t8 t78 t67 t68 t58 tt6 tt8 hV6 q1 q2 q3
  go_wp2_with fail
  go_loopw [12] (fun i wr => ∃ j : Nat, j ≤ zs.length ∧ i = .int .i64 j ∧ I64s ((zs.take j).map f) ∧ SumAt 70 y2 wr ((zs.take j).map f).sum ∧ Tch (fun g => g = y2) w8 wr) (fun i _ => zs.length - (intOf i).toNat)
  case atStart => exact ⟨0, Nat.zero_le _, rfl, (fun x hx => absurd hx (by simp)), hS0, Tch.refl _ _⟩
  case round =>
    clear hS0
    obtain ⟨j, hj, rfl, hI, hS, ht⟩ := hrel
    by_cases hlt : j < zs.length
    · have hlt' : (j : Int) < (zs.length : Int) := by omega
      have hj0 : (0 : Int) ≤ (j : Int) := Int.natCast_nonneg _
      obtain ⟨g, o, rfl⟩ := HZ.out.head (by omega)
      have c0 : wr.cell? ⟨g, o + j, none⟩ = some (.int .i64 zs[j]) := by
        have := Row.elem int1_len (HZ.out.keepTo (P' := fun _ => True) ht (fun k _ hk => ⟨fun e => by have e : k = y2 := e; omega, trivial⟩)) hlt (j := 0) (by decide) (u := .int .i64 zs[j]) rfl
        simpa using this
      have HST := Lib.hid (show ((zs.take (j + 1)).map f).sum = ((zs.take j).map f).sum + f zs[j] by rw [List.take_succ_eq_append_getElem hlt, List.map_append, List.sum_append]; simp)
      have HIN := Lib.hid (fun (h9 : -9223372036854775808 ≤ f zs[j] ∧ f zs[j] ≤ 9223372036854775807) => show I64s ((zs.take (j + 1)).map f) from fun x hx => by
        rw [List.take_succ_eq_append_getElem hlt, List.map_append] at hx
        rcases List.mem_append.1 hx with h1 | h1
        · exact hI x h1
        · simp at h1; rw [h1]; exact h9)
      have HLO := Lib.hid (HMAY.out zs[j] (List.getElem_mem _))
      have hb9 := sum_small hI
      rw [List.length_map, List.length_take, Nat.min_eq_left hj] at hb9
      generalize zs[j] = q at *
      have hC := HCC.out.keep ht (by omega)
      have td := Tch.alloc (fun _ => False) wr (.cells #[.int .i64 1, .int .i64 c2, .int .i64 c3, .int .i64 c4, .int .i64 0, .int .i64 q] 31)
      have hVr := (HV.out.keep (HT6.out wr ht)).keep td
      have HREC := Lib.hid (localrec_any hVr hn hp hq 1 c2 c3 c4 0 q)
      have c0 : (wr.alloc (.cells #[.int .i64 1, .int .i64 c2, .int .i64 c3, .int .i64 c4, .int .i64 0, .int .i64 0] 31)).cell? ⟨g, o + j, none⟩ = some (.int .i64 q) := (Tch.alloc (fun _ => False) wr _).cell_some c0 id
      have q0 : wr.cell? ⟨z + 1, 0, none⟩ = some (.int .i64 1) := hC.cell 0
      have q1 : wr.cell? ⟨z + 1, 1, none⟩ = some (.int .i64 c2) := hC.cell 1
      have q2 : wr.cell? ⟨z + 1, 2, none⟩ = some (.int .i64 c3) := hC.cell 2
      have q3 : wr.cell? ⟨z + 1, 3, none⟩ = some (.int .i64 c4) := hC.cell 3
      have q4 : wr.cell? ⟨z + 1, 4, none⟩ = some (.int .i64 0) := hC.cell 4
      have q5 : wr.cell? ⟨z + 1, 5, none⟩ = some (.int .i64 0) := hC.cell 5
      clear hVr hI hC
      go_wp2_with fail
      refine HREC.out.mono ?_
      rintro _ w9 ⟨v2, rfl, hr2, t9⟩
      rw [HLO.out] at hr2 ⊢
      simp only at hr2 ⊢
      obtain ⟨p2, m2, rfl, hp2, hm2⟩ := hr2
      obtain ⟨P2, k2, rfl, _, _⟩ := hp2.form
      obtain ⟨M2, d2, rfl, _, _⟩ := hm2.form
      unfold rcpV Rcp.none
      simp only [List.length_nil]
      clear hp2 hm2 HREC HLO HMAY c0 q0 q1 q2 q3 q4 q5
      have tr9 := td.trans t9
      by_cases he : (told2 (f q)).2 = 0
      rotate_left
      · have he2 : ((told2 (f q)).2 != 0) = true := by simpa using he
        have tE := ((HTT.out wr ht).trans tr9).trans (Tch.alloc (fun _ => False) w9 (.cells #[.int .i64 (told2 (f q)).1, .int .i64 (told2 (f q)).2, .slice P2 0 k2, .slice M2 0 d2, .int .i64 0, .int .i64 0, .int .i64 0, .int .i64 0, .int .i64 0, .int .i64 0, .bool false, .int .i64 0, .int .i64 0, .bool false] 46))
        clear he
        go_wp2_with fail
        refine (awake_any _).mono ?_
        rintro _ w10 ⟨rfl, t10⟩
        go_wp2
        go_ret
        exact ⟨rfl, tE.trans t10⟩
      obtain ⟨e1, e2, e3⟩ := told2_in he
      rw [e3]
      simp only
      have HIN2 := Lib.hid (HIN.out ⟨e1, e2⟩)
      clear HIN he e3
      have tY := Tch.alloc (fun _ => False) w9 (.cells #[.int .i64 (f q), .int .i64 0, .slice P2 0 k2, .slice M2 0 d2, .int .i64 0, .int .i64 0, .int .i64 0, .int .i64 0, .int .i64 0, .int .i64 0, .bool false, .int .i64 0, .int .i64 0, .bool false] 46)
      have bY := Blk.new w9 46 #[.int .i64 (f q), .int .i64 0, .slice P2 0 k2, .slice M2 0 d2, .int .i64 0, .int .i64 0, .int .i64 0, .int .i64 0, .int .i64 0, .int .i64 0, .bool false, .int .i64 0, .int .i64 0, .bool false]
      have hS := (hS.keep tr9).keep tY
      have tr10 := tr9.trans tY
      have hy9 : y2 < (w9.alloc (.cells #[.int .i64 (f q), .int .i64 0, .slice P2 0 k2, .slice M2 0 d2, .int .i64 0, .int .i64 0, .int .i64 0, .int .i64 0, .int .i64 0, .int .i64 0, .bool false, .int .i64 0, .int .i64 0, .bool false] 46)).heap.size := by have := tr10.size; have := ht.size; omega
      generalize hfq : f q = am at *
      have hAM : -9223372036854775808 ≤ am ∧ am ≤ 9223372036854775807 := ⟨e1, e2⟩
      generalize hsm : ((zs.take j).map f).sum = sm at *
      have HSM := Lib.hid hsm
      have hsmall : sm.natAbs ≤ 10000000000 * 9223372036854775808 := bd_mono hb9 (by omega)
      clear hsm hb9 hfq
      go_wp2_with fail
      generalize w9.alloc _ = W9 at *
      generalize w9.heap.size = y3 at *
      have HO := Lib.hid (fun (w' : World) (h : W9.heap.size ≤ w'.heap.size) => of_any (w := w') (B := fun g => g ≠ y2) (x := am) hAM.1 hAM.2 (fun g hg => by omega))
      obtain ⟨sg, D, nd, kd, hs1, hs2⟩ := hS
      have HPL := Lib.hid (fun (w' : World) (u : Value) (h : BigIs (fun g => g ≠ y2) w' u (am)) (t : Tch (fun _ => False) W9 w') => plus_any (hs2.keep t) h (dg_small hsmall) (dg_small (by have := hAM; omega)) (fun g hg => by have := t.size; omega))
      obtain ⟨V, hV⟩ : ∃ V : Value → World → Prop, V = fun d w' => BigIs (fun g => g ≠ y2) w' d (am) := ⟨_, rfl⟩
      have HV := Lib.hid hV
      clear hV
      have s0 := within_cell (F := fun _ => False) (show W9.cell? ⟨y2, 0, none⟩ = some (.bool sg) from hs1.cell 0) id
      have s1 := within_cell (F := fun _ => False) (show W9.cell? ⟨y2, 1, none⟩ = some (.slice D nd kd) from hs1.cell 1) id
      have s2 := within_cell (F := fun _ => False) (show W9.cell? ⟨y3, 0, none⟩ = some (.int .i64 am) from bY.cell 0) id
      refine wp_region_touch (fun _ => False) [] 5 [(4, .inr V)] [] (by kernel_rfl) rfl (by kernel_rfl) rfl (fun d _ _ _ _ h => by cases d <;> exact h) ?_ ?_
      · rw [HV.out]
        exact ⟨fun u a b hr h => h.keep hr, trivial⟩
      (intro bef ops hbef hops; clear hbef; subst hops; simp only [List.take_succ_cons, List.take_zero, List.drop_succ_cons, List.drop_zero])
      iterate 4 (refine t_det (by rfl) (by rfl) (by rfl) (by rfl) (fun K hK => ?_); go_big_quiet_op; (first | refine hK _ ?_ | refine ⟨_, fun _ => rfl, hK _ ?_⟩); clear hK K; (try simp only [Act.put, List.setIfInBounds_toArray, List.set_cons_succ, List.set_cons_zero]))
      refine t_loose (by rfl) (by rfl) (fun w1 hr hf => ?_) (fun d => ?_)
      · refine yields_of_wp (d := 100) rfl (by simp) (fun K hK => ?_)
        go_step
        refine (HO.out w1 hr.size).mono ?_
        rintro _ w2 ⟨v', rfl, ho, t2⟩
        refine hK _ _ ⟨⟨?_, t2⟩, newAt_no⟩
        rw [HV.out]
        exact ho
      simp only [Act.put, List.setIfInBounds_toArray, List.set_cons_succ, List.set_cons_zero]
      refine t_nil ?_
      intro w1 hr hp9 hap
      have hv := hp9 _ (List.mem_singleton.2 rfl)
      dsimp only at hv
      rw [HV.out] at hv
      have t1 : Tch (fun _ => False) W9 w1 := (Tch.drew _ W9).trans hr
      have hPl := HPL.out w1 d hv t1
      have b1 := hs1.keep t1 id
      obtain ⟨_, _, _, _, rfl⟩ := hv.form
      clear hap HV hp9 s0 s1 s2 hr HO HPL hv
      go_wp2_with fail
      refine hPl.mono ?_
      rintro _ w2 ⟨v', rfl, hR, t2⟩
      have b2 := b1.keep t2 id
      obtain ⟨sr, E, ne, ke, rfl⟩ := hR.form
      have t12 := t1.trans t2
      clear hPl b1 hs1 hs2 t1 t2
      go_wp2_with (refine wpList_store_two rfl _ _ _ rfl y2 0 (.bool sr) (.slice E ne ke) (by rfl) (by rfl) rfl rfl (by rfl) b2 (by simp) ?_; refine Hid.out ?_)
      refine Lib.hid ?_
      intro w10 n9 ts9
      (try simp only [List.setIfInBounds_toArray, List.set_cons_succ, List.set_cons_zero] at n9)
      have hS9 : SumAt 70 y2 w10 (sm + am) := ⟨sr, E, ne, ke, n9, hR.aside ts9⟩
      clear hR n9 b2
      go_wp2_with fail
      go_roundw
      case rel =>
        refine ⟨j + 1, by omega, by go_num, HIN2.out, ?_, ?_⟩
        · rw [HST.out]
          exact hS9
        · exact ((ht.trans (Exn.touch tr10)).trans (Exn.touch t12)).trans ts9
      case measure => simp [intOf]; omega
    · obtain rfl : zs.length = j := by omega
      rw [List.take_length] at hI hS
      have HS1 := Lib.hid hS
      have hb9 := sum_small hI
      rw [List.length_map] at hb9
      have HT2 := Lib.hid (show (zs.map f).sum + ((posts b.entries).map (zeroAmt (c2, c3, c4))).sum = f 0 by
        have h9 := HTW.out
        rw [HFE.out 0, List.map_congr_left (g := f) (fun q _ => HFE.out q)] at h9
        exact h9)
      have hS := HS1.out
      generalize hsm : (zs.map f).sum = S1 at *
      have hsmall : S1.natAbs ≤ 1000000000 * 9223372036854775808 := bd_mono hb9 hzl
      clear hI hb9 hsm HTW HS1 HMAY
      have HE := Lib.hid (fun wq (t : Tch (fun g => g = y2) w8 wq) => H5.out.ent.keep (HT5.out wq t))
      go_wp2_with fail
      go_loopw [16] (fun i wr => ∃ (j : Nat) (S : Int), j ≤ us.length ∧ i = .int .i64 j ∧ S1 + ((posts ((us.map (·.1)).take j)).map (zeroAmt (c2, c3, c4))).sum = S ∧ S.natAbs ≤ (1000000000 + j * 100) * 9223372036854775808 ∧ SumAt 70 y2 wr S ∧ Tch (fun g => g = y2) w8 wr) (fun i _ => us.length - (intOf i).toNat)
      case atStart => exact ⟨0, S1, Nat.zero_le _, rfl, by simp [posts], hsmall, hS, ht⟩
      case round =>
        clear hS ht hsmall
        obtain ⟨j, S, hj, rfl, hSE, hbd, hS, ht⟩ := hrel
        have HSE := Lib.hid hSE
        clear hSE
        have g5 := show wr.cell? ⟨z, 5, none⟩ = some (.slice An us.length cn) from (HBB.out.keep ht (by omega)).cell 5
        by_cases hlt : j < us.length
        · have hlt' : (j : Int) < (us.length : Int) := by omega
          have hj0 : (0 : Int) ≤ (j : Int) := Int.natCast_nonneg _
          obtain ⟨g, o, rfl⟩ := (HE.out wr ht).row.head (by omega)
          have HQ := Lib.hid (fun wq (t : Tch (fun g => g = y2) w8 wq) => Row.three ((HE.out wq t).row) entC_len hlt rfl)
          have HL := Lib.hid (fun wq (t : Tch (fun g => g = y2) w8 wq) => (HE.out wq t).lines us[j] (List.getElem_mem _))
          have hlen := hll us[j] (List.getElem_mem _)
          have HNX := Lib.hid (zero_next (c2, c3, c4) us hlt HSE.out)
          have H64 := Lib.hid (fun m hm => hq _ (post_mem HM.out hlt (m := m) hm))
          generalize us[j] = x at *
          obtain ⟨⟨yp, yr, yl⟩, yv⟩ := x
          simp only at HQ HL hlen HNX H64
          obtain ⟨A', c', rfl, _, _⟩ := (HL.out wr ht).form
          obtain ⟨q0, q1, q2⟩ := HQ.out wr ht
          clear HSE
          go_wp2_with fail
          go_loopw [17] (fun k wr => ∃ (m : Nat) (T : Int), m ≤ yl.length ∧ k = .int .i64 m ∧ S + ((yl.take m).map fun n => zeroAmt (c2, c3, c4) (yp, n)).sum = T ∧ T.natAbs ≤ (1000000000 + j * 100 + m) * 9223372036854775808 ∧ SumAt 70 y2 wr T ∧ Tch (fun g => g = y2) w8 wr) (fun k _ => yl.length - (intOf k).toNat)
          case atStart => exact ⟨0, S, Nat.zero_le _, rfl, by simp, hbd, hS, ht⟩
          case round =>
            clear hS ht hbd q0 q1 q2 g5
            obtain ⟨m, T, hm, rfl, hTE, hbd, hS, ht⟩ := hrel
            have HTE := Lib.hid hTE
            clear hTE
            obtain ⟨q0, q1, q2⟩ := HQ.out wr ht
            have g5 := show wr.cell? ⟨z, 5, none⟩ = some (.slice (some ⟨g, o, none⟩) us.length cn) from (HBB.out.keep ht (by omega)).cell 5
            by_cases hml : m < yl.length
            · have hml' : (m : Int) < (yl.length : Int) := by omega
              have hm0 : (0 : Int) ≤ (m : Int) := Int.natCast_nonneg _
              obtain ⟨g2, o2, rfl⟩ := (HL.out wr ht).head (by omega)
              have HP := Lib.hid (fun wq (t : Tch (fun g => g = y2) w8 wq) => Row.four (HL.out wq t) int4_len hml rfl)
              have HS9 := Lib.hid (zero_line (c2, c3, c4) yp yl hml HTE.out)
              have hAM := H64.out m hml
              unfold I64 at hAM
              generalize yl[m] = x at *
              obtain ⟨x1, x2, x3, x4⟩ := x
              simp only at HP HS9 hAM
              have td := Tch.alloc (fun _ => False) wr (.cells #[.int .i64 x1, .int .i64 x2, .int .i64 x3, .int .i64 x4] 78)
              have bL := Blk.new wr 78 #[.int .i64 x1, .int .i64 x2, .int .i64 x3, .int .i64 x4]
              have hC := (HCC.out.keep ht (by omega)).keep td id
              have hB9 := (HBB.out.keep ht (by omega)).keep td id
              have ht9 := ht.trans (Exn.touch td)
              have hS := hS.keep td
              obtain ⟨p0, p1, p2, p3⟩ := HP.out wr ht
              obtain ⟨p0, p1, p2, p3⟩ := HP.out _ ht9
              obtain ⟨r0, r1, r2⟩ := HQ.out _ ht9
              have k1 : (wr.alloc (.cells #[.int .i64 x1, .int .i64 x2, .int .i64 x3, .int .i64 x4] 78)).cell? ⟨z + 1, 1, none⟩ = some (.int .i64 c2) := hC.cell 1
              have k2 : (wr.alloc (.cells #[.int .i64 x1, .int .i64 x2, .int .i64 x3, .int .i64 x4] 78)).cell? ⟨z + 1, 2, none⟩ = some (.int .i64 c3) := hC.cell 2
              have k3 : (wr.alloc (.cells #[.int .i64 x1, .int .i64 x2, .int .i64 x3, .int .i64 x4] 78)).cell? ⟨z + 1, 3, none⟩ = some (.int .i64 c4) := hC.cell 3
              have k5 : (wr.alloc (.cells #[.int .i64 x1, .int .i64 x2, .int .i64 x3, .int .i64 x4] 78)).cell? ⟨z, 5, none⟩ = some (.slice (some ⟨g, o, none⟩) us.length cn) := hB9.cell 5
              have l0 : (wr.alloc (.cells #[.int .i64 x1, .int .i64 x2, .int .i64 x3, .int .i64 x4] 78)).cell? ⟨wr.heap.size, 0, none⟩ = some (.int .i64 x1) := bL.cell 0
              have l1 : (wr.alloc (.cells #[.int .i64 x1, .int .i64 x2, .int .i64 x3, .int .i64 x4] 78)).cell? ⟨wr.heap.size, 1, none⟩ = some (.int .i64 x2) := bL.cell 1
              have l2 : (wr.alloc (.cells #[.int .i64 x1, .int .i64 x2, .int .i64 x3, .int .i64 x4] 78)).cell? ⟨wr.heap.size, 2, none⟩ = some (.int .i64 x3) := bL.cell 2
              have l3 : (wr.alloc (.cells #[.int .i64 x1, .int .i64 x2, .int .i64 x3, .int .i64 x4] 78)).cell? ⟨wr.heap.size, 3, none⟩ = some (.int .i64 x4) := bL.cell 3
              obtain ⟨p0, p1, p2, p3⟩ := HP.out wr ht
              have hysz : y2 < (wr.alloc (.cells #[.int .i64 x1, .int .i64 x2, .int .i64 x3, .int .i64 x4] 78)).heap.size := by have := td.size; have := ht.size; omega
              clear hC hB9
              by_cases h1 : yp = c4
              rotate_left
              · have HS := Lib.hid (show S + ((yl.take (m + 1)).map fun n => zeroAmt (c2, c3, c4) (yp, n)).sum = T by rw [HS9.out]; simp [zeroAmt, pstSpot, h1])
                have hbool : (yp == c4) = false := by simpa using h1
                clear HS9 HTE HNX HQ HL HP
                go_wp2_with fail
                generalize wr.alloc _ = W9 at *
                generalize wr.heap.size = y3 at *
                have Y0 := within_cell (F := fun _ => False) k5 id
                have Y1 := within_cell (F := fun _ => False) r0 id
                have Y2 := within_cell (F := fun _ => False) k3 id
                have Y3 := within_cell (F := fun _ => False) l0 id
                have Y4 := within_cell (F := fun _ => False) k1 id
                have Y5 := within_cell (F := fun _ => False) l1 id
                have Y6 := within_cell (F := fun _ => False) k2 id
                refine wp_region_touch (fun _ => False) [] 21 [] [] (by kernel_rfl) rfl (by kernel_rfl) rfl (fun d _ _ _ _ h => by cases d <;> exact h) ?_ ?_
                · exact trivial
                (intro bef ops hbef hops; clear hbef; subst hops; simp only [List.take_succ_cons, List.take_zero, List.drop_succ_cons, List.drop_zero])
                iterate 10 (refine t_det (by rfl) (by rfl) (by rfl) (by rfl) (fun K hK => ?_); go_big_quiet_op; (first | refine hK _ ?_ | refine ⟨_, fun _ => rfl, hK _ ?_⟩); clear hK K; (try simp only [Act.put, List.setIfInBounds_toArray, List.set_cons_succ, List.set_cons_zero]))
                iterate 5 (refine t_skip (by rfl) ?_; (try simp only [Act.put, List.setIfInBounds_toArray, List.set_cons_succ, List.set_cons_zero]))
                iterate 2 (refine t_det (by rfl) (by rfl) (by rfl) (by rfl) (fun K hK => ?_); go_big_quiet_op; (first | refine hK _ ?_ | refine ⟨_, fun _ => rfl, hK _ ?_⟩); clear hK K; (try simp only [Act.put, List.setIfInBounds_toArray, List.set_cons_succ, List.set_cons_zero]))
                iterate 4 (refine t_skip (by rfl) ?_; (try simp only [Act.put, List.setIfInBounds_toArray, List.set_cons_succ, List.set_cons_zero]))
                refine t_nil ?_
                intro w11 hr hp1 hap
                have t11 := (Tch.drew (fun _ => False) W9).trans hr
                have m2 := t11.cell_some l2 id
                clear hap hp1 hr Y0 Y1 Y2 Y3 Y4 Y5 Y6 k5 r0 r1 r2 k1 k2 k3 l0 l1 l2 p0 p1 p2 p3
                go_wp2
                go_roundw
                case rel => exact ⟨m + 1, T, by omega, by go_num, HS.out, bd_mono hbd (by omega), hS.keep t11, ht9.trans (Exn.touch t11)⟩
                case measure => simp [intOf]; omega
              subst h1
              by_cases h2 : x1 = c2
              rotate_left
              · have HS := Lib.hid (show S + ((yl.take (m + 1)).map fun n => zeroAmt (c2, c3, yp) (yp, n)).sum = T by rw [HS9.out]; simp [zeroAmt, pstSpot, h2])
                have hbool : (x1 == c2) = false := by simpa using h2
                clear HS9 HTE HNX HQ HL HP
                go_wp2_with fail
                generalize wr.alloc _ = W9 at *
                generalize wr.heap.size = y3 at *
                have Y0 := within_cell (F := fun _ => False) k5 id
                have Y1 := within_cell (F := fun _ => False) r0 id
                have Y2 := within_cell (F := fun _ => False) k3 id
                have Y3 := within_cell (F := fun _ => False) l0 id
                have Y4 := within_cell (F := fun _ => False) k1 id
                have Y5 := within_cell (F := fun _ => False) l1 id
                have Y6 := within_cell (F := fun _ => False) k2 id
                refine wp_region_touch (fun _ => False) [] 21 [] [] (by kernel_rfl) rfl (by kernel_rfl) rfl (fun d _ _ _ _ h => by cases d <;> exact h) ?_ ?_
                · exact trivial
                (intro bef ops hbef hops; clear hbef; subst hops; simp only [List.take_succ_cons, List.take_zero, List.drop_succ_cons, List.drop_zero])
                iterate 17 (refine t_det (by rfl) (by rfl) (by rfl) (by rfl) (fun K hK => ?_); go_big_quiet_op; (first | refine hK _ ?_ | refine ⟨_, fun _ => rfl, hK _ ?_⟩); clear hK K; (try simp only [Act.put, List.setIfInBounds_toArray, List.set_cons_succ, List.set_cons_zero]))
                iterate 4 (refine t_skip (by rfl) ?_; (try simp only [Act.put, List.setIfInBounds_toArray, List.set_cons_succ, List.set_cons_zero]))
                refine t_nil ?_
                intro w11 hr hp1 hap
                have t11 := (Tch.drew (fun _ => False) W9).trans hr
                have m2 := t11.cell_some l2 id
                clear hap hp1 hr Y0 Y1 Y2 Y3 Y4 Y5 Y6 k5 r0 r1 r2 k1 k2 k3 l0 l1 l2 p0 p1 p2 p3
                go_wp2
                go_roundw
                case rel => exact ⟨m + 1, T, by omega, by go_num, HS.out, bd_mono hbd (by omega), hS.keep t11, ht9.trans (Exn.touch t11)⟩
                case measure => simp [intOf]; omega
              subst h2
              by_cases h3 : x2 = c3
              rotate_left
              · have HS := Lib.hid (show S + ((yl.take (m + 1)).map fun n => zeroAmt (x1, c3, yp) (yp, n)).sum = T by rw [HS9.out]; simp [zeroAmt, pstSpot, h3])
                have hbool : (x2 == c3) = false := by simpa using h3
                clear HS9 HTE HNX HQ HL HP
                go_wp2_with fail
                generalize wr.alloc _ = W9 at *
                generalize wr.heap.size = y3 at *
                have Y0 := within_cell (F := fun _ => False) k5 id
                have Y1 := within_cell (F := fun _ => False) r0 id
                have Y2 := within_cell (F := fun _ => False) k3 id
                have Y3 := within_cell (F := fun _ => False) l0 id
                have Y4 := within_cell (F := fun _ => False) k1 id
                have Y5 := within_cell (F := fun _ => False) l1 id
                have Y6 := within_cell (F := fun _ => False) k2 id
                refine wp_region_touch (fun _ => False) [] 21 [] [] (by kernel_rfl) rfl (by kernel_rfl) rfl (fun d _ _ _ _ h => by cases d <;> exact h) ?_ ?_
                · exact trivial
                (intro bef ops hbef hops; clear hbef; subst hops; simp only [List.take_succ_cons, List.take_zero, List.drop_succ_cons, List.drop_zero])
                iterate 21 (refine t_det (by rfl) (by rfl) (by rfl) (by rfl) (fun K hK => ?_); go_big_quiet_op; (first | refine hK _ ?_ | refine ⟨_, fun _ => rfl, hK _ ?_⟩); clear hK K; (try simp only [Act.put, List.setIfInBounds_toArray, List.set_cons_succ, List.set_cons_zero]))
                refine t_nil ?_
                intro w11 hr hp1 hap
                have t11 := (Tch.drew (fun _ => False) W9).trans hr
                have m2 := t11.cell_some l2 id
                clear hap hp1 hr Y0 Y1 Y2 Y3 Y4 Y5 Y6 k5 r0 r1 r2 k1 k2 k3 l0 l1 l2 p0 p1 p2 p3
                go_wp2
                go_roundw
                case rel => exact ⟨m + 1, T, by omega, by go_num, HS.out, bd_mono hbd (by omega), hS.keep t11, ht9.trans (Exn.touch t11)⟩
                case measure => simp [intOf]; omega
              subst h3
              by_cases h4 : x3 = 0
              rotate_left
              · have HS := Lib.hid (show S + ((yl.take (m + 1)).map fun n => zeroAmt (x1, x2, yp) (yp, n)).sum = T by rw [HS9.out]; simp [zeroAmt, pstSpot, h4])
                have hbool : (x3 == 0) = false := by simpa using h4
                clear HS9 HTE HNX HQ HL HP
                go_wp2_with fail
                generalize wr.alloc _ = W9 at *
                generalize wr.heap.size = y3 at *
                have Y0 := within_cell (F := fun _ => False) k5 id
                have Y1 := within_cell (F := fun _ => False) r0 id
                have Y2 := within_cell (F := fun _ => False) k3 id
                have Y3 := within_cell (F := fun _ => False) l0 id
                have Y4 := within_cell (F := fun _ => False) k1 id
                have Y5 := within_cell (F := fun _ => False) l1 id
                have Y6 := within_cell (F := fun _ => False) k2 id
                refine wp_region_touch (fun _ => False) [] 21 [] [] (by kernel_rfl) rfl (by kernel_rfl) rfl (fun d _ _ _ _ h => by cases d <;> exact h) ?_ ?_
                · exact trivial
                (intro bef ops hbef hops; clear hbef; subst hops; simp only [List.take_succ_cons, List.take_zero, List.drop_succ_cons, List.drop_zero])
                iterate 21 (refine t_det (by rfl) (by rfl) (by rfl) (by rfl) (fun K hK => ?_); go_big_quiet_op; (first | refine hK _ ?_ | refine ⟨_, fun _ => rfl, hK _ ?_⟩); clear hK K; (try simp only [Act.put, List.setIfInBounds_toArray, List.set_cons_succ, List.set_cons_zero]))
                refine t_nil ?_
                intro w11 hr hp1 hap
                have t11 := (Tch.drew (fun _ => False) W9).trans hr
                have m2 := t11.cell_some l2 id
                clear hap hp1 hr Y0 Y1 Y2 Y3 Y4 Y5 Y6 k5 r0 r1 r2 k1 k2 k3 l0 l1 l2 p0 p1 p2 p3
                go_wp2
                go_roundw
                case rel => exact ⟨m + 1, T, by omega, by go_num, HS.out, bd_mono hbd (by omega), hS.keep t11, ht9.trans (Exn.touch t11)⟩
                case measure => simp [intOf]; omega
              subst h4
              have HS := Lib.hid (show S + ((yl.take (m + 1)).map fun n => zeroAmt (x1, x2, yp) (yp, n)).sum = T + x4 by rw [HS9.out]; simp [zeroAmt, pstSpot])
              have hsmall : T.natAbs ≤ 10000000000 * 9223372036854775808 := bd_mono hbd (by omega)
              clear HS9 HTE
              go_wp2_with fail
              generalize wr.alloc _ = W9 at *
              generalize wr.heap.size = y3 at *
              have Y0 := within_cell (F := fun _ => False) k5 id
              have Y1 := within_cell (F := fun _ => False) r0 id
              have Y2 := within_cell (F := fun _ => False) k3 id
              have Y3 := within_cell (F := fun _ => False) l0 id
              have Y4 := within_cell (F := fun _ => False) k1 id
              have Y5 := within_cell (F := fun _ => False) l1 id
              have Y6 := within_cell (F := fun _ => False) k2 id
              refine wp_region_touch (fun _ => False) [] 21 [] [] (by kernel_rfl) rfl (by kernel_rfl) rfl (fun d _ _ _ _ h => by cases d <;> exact h) ?_ ?_
              · exact trivial
              (intro bef ops hbef hops; clear hbef; subst hops; simp only [List.take_succ_cons, List.take_zero, List.drop_succ_cons, List.drop_zero])
              iterate 21 (refine t_det (by rfl) (by rfl) (by rfl) (by rfl) (fun K hK => ?_); go_big_quiet_op; (first | refine hK _ ?_ | refine ⟨_, fun _ => rfl, hK _ ?_⟩); clear hK K; (try simp only [Act.put, List.setIfInBounds_toArray, List.set_cons_succ, List.set_cons_zero]))
              refine t_nil ?_
              intro w11 hr hp1 hap
              have t11 := (Tch.drew (fun _ => False) W9).trans hr
              have m2 := t11.cell_some l2 id
              clear hap hp1 hr Y0 Y1 Y2 Y3 Y4 Y5 Y6 k5 r0 r1 r2 k1 k2 k3 l0 l1 l2 p0 p1 p2 p3
              have hS := hS.keep t11
              have hysz2 : y2 < w11.heap.size := by have := t11.size; omega
              have ht11 := ht9.trans (Exn.touch t11)
              have hL3 := t11.cell_some l3 id
              clear l3
              go_wp2_with fail
              have HO := Lib.hid (fun (w' : World) (h : w11.heap.size ≤ w'.heap.size) => of_any (w := w') (B := fun g => g ≠ y2) (x := x4) hAM.1 hAM.2 (fun g hg => by omega))
              obtain ⟨sg, D, nd, kd, hs1, hs2⟩ := hS
              have HPL := Lib.hid (fun (w' : World) (u : Value) (h : BigIs (fun g => g ≠ y2) w' u (x4)) (t : Tch (fun _ => False) w11 w') => plus_any (hs2.keep t) h (dg_small hsmall) (dg_small (by have := hAM; omega)) (fun g hg => by have := t.size; omega))
              obtain ⟨V, hV⟩ : ∃ V : Value → World → Prop, V = fun d w' => BigIs (fun g => g ≠ y2) w' d (x4) := ⟨_, rfl⟩
              have HV := Lib.hid hV
              clear hV
              have s0 := within_cell (F := fun _ => False) (show w11.cell? ⟨y2, 0, none⟩ = some (.bool sg) from hs1.cell 0) id
              have s1 := within_cell (F := fun _ => False) (show w11.cell? ⟨y2, 1, none⟩ = some (.slice D nd kd) from hs1.cell 1) id
              have s2 := within_cell (F := fun _ => False) (hL3) id
              refine wp_region_touch (fun _ => False) [] 4 [(3, .inr V)] [] (by kernel_rfl) rfl (by kernel_rfl) rfl (fun d _ _ _ _ h => by cases d <;> exact h) ?_ ?_
              · rw [HV.out]
                exact ⟨fun u a b hr h => h.keep hr, trivial⟩
              (intro bef ops hbef hops; clear hbef; subst hops; simp only [List.take_succ_cons, List.take_zero, List.drop_succ_cons, List.drop_zero])
              iterate 3 (refine t_det (by rfl) (by rfl) (by rfl) (by rfl) (fun K hK => ?_); go_big_quiet_op; (first | refine hK _ ?_ | refine ⟨_, fun _ => rfl, hK _ ?_⟩); clear hK K; (try simp only [Act.put, List.setIfInBounds_toArray, List.set_cons_succ, List.set_cons_zero]))
              refine t_loose (by rfl) (by rfl) (fun w1 hr hf => ?_) (fun d => ?_)
              · refine yields_of_wp (d := 160) rfl (by simp) (fun K hK => ?_)
                go_step
                refine (HO.out w1 hr.size).mono ?_
                rintro _ w2 ⟨v', rfl, ho, t2⟩
                refine hK _ _ ⟨⟨?_, t2⟩, newAt_no⟩
                rw [HV.out]
                exact ho
              simp only [Act.put, List.setIfInBounds_toArray, List.set_cons_succ, List.set_cons_zero]
              refine t_nil ?_
              intro w1 hr hp9 hap
              have hv := hp9 _ (List.mem_singleton.2 rfl)
              dsimp only at hv
              rw [HV.out] at hv
              have t1 : Tch (fun _ => False) w11 w1 := (Tch.drew _ w11).trans hr
              have hPl := HPL.out w1 d hv t1
              have b1 := hs1.keep t1 id
              obtain ⟨_, _, _, _, rfl⟩ := hv.form
              clear hap HV hp9 s0 s1 s2 hr HO HPL hv
              go_wp2_with fail
              refine hPl.mono ?_
              rintro _ w2 ⟨v', rfl, hR, t2⟩
              have b2 := b1.keep t2 id
              obtain ⟨sr, E, ne, ke, rfl⟩ := hR.form
              have t12 := t1.trans t2
              clear hPl b1 hs1 hs2 t1 t2
              go_wp2_with (refine wpList_store_two rfl _ _ _ rfl y2 0 (.bool sr) (.slice E ne ke) (by rfl) (by rfl) rfl rfl (by rfl) b2 (by simp) ?_; refine Hid.out ?_)
              refine Lib.hid ?_
              intro w10 n9 ts9
              (try simp only [List.setIfInBounds_toArray, List.set_cons_succ, List.set_cons_zero] at n9)
              have hS9 : SumAt 70 y2 w10 (T + x4) := ⟨sr, E, ne, ke, n9, hR.aside ts9⟩
              clear hR n9 b2
              go_wp2_with fail
              go_roundw
              case rel => exact ⟨m + 1, T + x4, by omega, by go_num, HS.out, bd_step hbd hAM, hS9, (ht11.trans (Exn.touch t12)).trans ts9⟩
              case measure => simp [intOf]; omega
            · obtain rfl : m = yl.length := by omega
              have HX := Lib.hid (show S1 + ((posts ((us.map (·.1)).take (j + 1))).map (zeroAmt (c2, c3, c4))).sum = T by have h9 := HTE.out; rw [List.take_length] at h9; exact HNX.out.trans h9)
              clear HTE HNX HQ HL
              go_wp2
              go_roundw
              case rel => exact ⟨j + 1, T, by omega, by go_num, HX.out, bd_mono hbd (by omega), hS, ht⟩
              case measure => simp [intOf]; omega
        · obtain rfl : us.length = j := by omega
          have hf0 : S = f 0 := by
            have h9 := HSE.out
            rw [List.take_of_length_le (by simp), HM.out] at h9
            rw [← h9]; exact HT2.out
          have hsmall : S.natAbs ≤ 10000000000 * 9223372036854775808 := bd_mono hbd (by omega)
          have HR0 := Lib.hid (show rows = [] → S = 0 from fun h9 => by
            rw [hf0, ← HFE.out]
            have := HRO.out
            rw [h9] at this
            rw [← this]; rfl)
          have HTS := Lib.hid (show told2 S = R by rw [hf0]; exact HTR.out)
          clear hf0 HRO HTR HT2 HSE
          obtain ⟨sg, D, nd, kd, hs1, hs2⟩ := hS
          have s0 := show wr.cell? ⟨y2, 0, none⟩ = some (.bool sg) from hs1.cell 0
          have s1 := show wr.cell? ⟨y2, 1, none⟩ = some (.slice D nd kd) from hs1.cell 1
          have HI := Lib.hid (int_any hs2 (dg_small hsmall) (fun g hg => by have := ht.size; omega))
          have hXw := HXX.out.keep ht (by omega)
          have HXR := Lib.hid (fun w' t => HX.out w' t)
          clear hs1 hs2
          go_wp2_with fail
          refine HI.out.mono ?_
          rintro _ w9 ⟨rfl, t9⟩
          have hX9 := hXw.keep t9 id
          have HTE9 := Lib.hid ((HTT.out wr ht).trans t9)
          have HT69 := Lib.hid ((HT6.out wr ht).trans t9)
          clear HI hXw s0 s1 g5
          unfold asInt
          by_cases hin : -9223372036854775808 ≤ S ∧ S ≤ 9223372036854775807
          rotate_left
          · rw [if_neg hin]
            have e9 := HTS.out
            rw [told2_out hin] at e9
            subst e9
            have x1 : w9.cell? ⟨y1, 1, none⟩ = some (.int .i64 10) := hX9.cell 1
            go_wp2_with fail
            refine (awake_any _).mono ?_
            rintro _ w10 ⟨rfl, t10⟩
            go_wp2
            go_ret
            exact ⟨rfl, HTE9.out.trans t10⟩
          rw [if_pos hin]
          have e9 := HTS.out
          rw [told2_fit hin] at e9
          subst e9
          have hcmp : ∀ w' : World, (binOp .eql 39 (.agg #[.int .i64 S, .int .i64 0]) (.agg #[.int .i64 S, .int .i64 0])).run Tryz.prog w' = .ok (.bool true) w' := fun w' => by rw [run_eq_Val]; simp
          have HRD := Lib.hid (reads_none (HXR.out w9 HT69.out) rfl rfl rfl)
          have x0 : w9.cell? ⟨y1, 0, none⟩ = some (.int .i64 S) := hX9.cell 0
          have x1 : w9.cell? ⟨y1, 1, none⟩ = some (.int .i64 0) := hX9.cell 1
          have x2 : w9.cell? ⟨y1, 2, none⟩ = some (.slice P1 0 k1) := hX9.cell 2
          have x3 : w9.cell? ⟨y1, 3, none⟩ = some (.slice M1 0 d1) := hX9.cell 3
          have x4 : w9.cell? ⟨y1, 4, none⟩ = some (.int .i64 0) := hX9.cell 4
          have x5 : w9.cell? ⟨y1, 5, none⟩ = some (.int .i64 0) := hX9.cell 5
          have x6 : w9.cell? ⟨y1, 6, none⟩ = some (.int .i64 0) := hX9.cell 6
          have x7 : w9.cell? ⟨y1, 7, none⟩ = some (.int .i64 0) := hX9.cell 7
          have x8 : w9.cell? ⟨y1, 8, none⟩ = some (.int .i64 0) := hX9.cell 8
          have x9 : w9.cell? ⟨y1, 9, none⟩ = some (.int .i64 0) := hX9.cell 9
          have x10 : w9.cell? ⟨y1, 10, none⟩ = some (.bool false) := hX9.cell 10
          have x11 : w9.cell? ⟨y1, 11, none⟩ = some (.int .i64 0) := hX9.cell 11
          have x12 : w9.cell? ⟨y1, 12, none⟩ = some (.int .i64 0) := hX9.cell 12
          have x13 : w9.cell? ⟨y1, 13, none⟩ = some (.bool false) := hX9.cell 13
          clear HXR hX9 HX hin
          have hrows : rows.length = 0 ∨ (0 : Int) < (rows.length : Int) := by omega
          have HR1 := Lib.hid (fun (h : rows.length = 0) => HR0.out (List.eq_nil_of_length_eq_zero h))
          clear HR0
          generalize rows.length = rl at *
          go_wp2_with fail
          refine HRD.out.mono ?_
          rintro _ w10 ⟨A9, c9, rfl, t10⟩
          clear HRD x0 x1 x2 x3 x4 x5 x6 x7 x8 x9 x10 x11 x12 x13
          have tE := HTE9.out.trans t10
          rcases hrows with h9 | h9
          · have e0 := HR1.out h9
            have hS0 : (S == 0) = true := by simpa using e0
            subst h9
            clear e0 HR1
            go_wp2_with fail
            refine (awake_any _).mono ?_
            rintro _ w11 ⟨rfl, t11⟩
            go_wp2
            go_ret
            exact ⟨rfl, tE.trans t11⟩
          · clear HR1
            go_wp2_with fail
            refine (awake_any _).mono ?_
            rintro _ w11 ⟨rfl, t11⟩
            go_wp2
            go_ret
            exact ⟨rfl, tE.trans t11⟩

theorem localmoves_row {w : World} {u v : Value} (hu : ∃ b, BooksIs (fun _ => True) w u b ∧ Bks64 b) (hv : ∃ c : Rt6, v = cellV c ∧ (I64 c.1 ∧ I64 c.2.1 ∧ I64 c.2.2.1 ∧ I64 c.2.2.2.1 ∧ I64 c.2.2.2.2.1 ∧ I64 c.2.2.2.2.2)) :
    Calls Tryz.prog 6 #[u, v] w fun x w' => x = .returned (.bool true) ∧ Tch (fun _ => False) w w' := by
  obtain ⟨b, hb, h64⟩ := hu
  obtain ⟨⟨c1, c2, c3, c4, c5, c6⟩, rfl, _⟩ := hv
  obtain ⟨e, a, s, r, l, n, us, rfl, h⟩ := hb.at
  exact localmoves_any h h64 c1 c2 c3 c4 c5 c6
end Go.Proofs.YtfpcnkfgjcppbaaGreat
