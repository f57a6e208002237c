/-
  SplitWhole: the walk.
-/
import Derived.Test.YtifdnhghjgklkaaGreatZ45
import Derived.Test.YtifdnhghjgklkaaGreatZ24
import Derived.Test.YtifdnhghjgklkaaGreatZ43
namespace Go.Proofs.YtifdnhghjgklkaaGreat
open Go.RowKit Go.Gk

set_option maxRecDepth 100000 in
set_option maxHeartbeats 25600000 in
theorem splitwhole_any {w : World} {e a s r l n : Value} {b : Bks} {us : List (Ent × Value)} (h : BksAt w e a s r l n b us) (h64 : Bks64 b) (c1 c2 c3 c4 c5 c6 x : Int) (hx : I64 x) :
    Calls Tryz.prog 7 #[.agg #[e, a, s, r, l, n], .agg #[.int .i64 c1, .int .i64 c2, .int .i64 c3, .int .i64 c4, .int .i64 c5, .int .i64 c6], .int .i64 x] w fun u w' => u = .returned (.bool true) ∧ Tch (fun _ => False) w w' := by
  have ta := Tch.alloc (fun _ => False) w (.cells #[e, a, s, r, l, n] 29)
  have tb := Tch.alloc (fun _ => False) (w.alloc (.cells #[e, a, s, r, l, n] 29)) (.cells #[.int .i64 c1, .int .i64 c2, .int .i64 c3, .int .i64 c4, .int .i64 c5, .int .i64 c6] 31)
  have tw := ta.trans tb
  have hbB := (Blk.new w 29 #[e, a, s, r, l, n]).keep tb id
  have hbC := Blk.new2 w (.cells #[e, a, s, r, l, n] 29) 31 #[.int .i64 c1, .int .i64 c2, .int .i64 c3, .int .i64 c4, .int .i64 c5, .int .i64 c6]
  have HF := Lib.hid (few26_any (h.keep tw))
  have HW := Lib.hid (h.keep tw)
  have hsz : ((w.alloc (.cells #[e, a, s, r, l, n] 29)).alloc (.cells #[.int .i64 c1, .int .i64 c2, .int .i64 c3, .int .i64 c4, .int .i64 c5, .int .i64 c6] 31)).heap.size = w.heap.size + 2 := by simp
  obtain ⟨Ae, ce, rfl, _, _⟩ := h.ents.form
  obtain ⟨Aa, ca, rfl, _, _⟩ := h.accs.form
  obtain ⟨As, cs, rfl, _, _⟩ := h.stakes.form
  obtain ⟨Ar, cr, rfl, _, _⟩ := h.rates.form
  obtain ⟨Al, cl, rfl, _, _⟩ := h.locks.form
  obtain ⟨An, cn, rfl, _, _⟩ := h.ent.row.form
  clear ta tb h
  obtain ⟨fw, hfw⟩ : ∃ fw, few26 b = fw := ⟨_, rfl⟩
  rw [hfw] at HF
  go_enter Tryz.func7, Tryz.ntmps7
  go_wp2_with fail
  generalize (w.alloc (.cells #[.slice Ae b.ents.length ce, .slice Aa b.accs.length ca, .slice As b.stakes.length cs, .slice Ar b.rates.length cr, .slice Al b.locks.length cl, .slice An us.length cn] 29)).alloc (.cells #[.int .i64 c1, .int .i64 c2, .int .i64 c3, .int .i64 c4, .int .i64 c5, .int .i64 c6] 31) = W at *
  generalize hzw : w.heap.size = z at *
  have HZW := Lib.hid hzw
  clear hzw
  refine HF.out.mono ?_
  rintro _ w1 ⟨rfl, t1⟩
  clear HF
  have tt1 := tw.trans t1
  cases fw
  · clear hfw
    go_wp2_with fail
    refine (awake35_any w1).mono ?_
    rintro _ w2 ⟨rfl, t2⟩
    go_wp2
    go_ret
    exact ⟨rfl, tt1.trans t2⟩
  have hfew := few26_few hfw
  have hB1 := hbB.keep t1 id
  have hC1 := hbC.keep t1 id
  have h1 := HW.out.keep t1
  have hk1 : z + 2 ≤ w1.heap.size := by have := t1.size; omega
  clear hbB hbC HW tw t1 hfw hsz
  have g0 : w1.cell? ⟨z, 0, none⟩ = some (.slice Ae b.ents.length ce) := hB1.cell 0
  have g1 : w1.cell? ⟨z, 1, none⟩ = some (.slice Aa b.accs.length ca) := hB1.cell 1
  have g2 : w1.cell? ⟨z, 2, none⟩ = some (.slice As b.stakes.length cs) := hB1.cell 2
  have g3 : w1.cell? ⟨z, 3, none⟩ = some (.slice Ar b.rates.length cr) := hB1.cell 3
  have g4 : w1.cell? ⟨z, 4, none⟩ = some (.slice Al b.locks.length cl) := hB1.cell 4
  have g5 : w1.cell? ⟨z, 5, none⟩ = some (.slice An us.length cn) := hB1.cell 5
  go_wp2_with fail
  refine (see_far h1 hfew h64).mono ?_
  rintro _ w2 ⟨hsee, t2⟩
  have tt2 := tt1.trans t2
  rcases hsee with ⟨_, m, rfl, hm⟩ | ⟨hok, bv, bi, B, t, mr, mp, e', a', s', r', l', n', lv, fs, us', rfl, hV, hFar⟩
  · have hm2 : (m != 0) = true := by simpa using hm
    clear g0 g1 g2 g3 g4 g5 hm
    go_wp2_with fail
    refine (awake35_any w2).mono ?_
    rintro _ w3 ⟨rfl, t3⟩
    go_wp2
    go_ret
    exact ⟨rfl, tt2.trans t3⟩
  have hk5 : z + 2 ≤ w2.heap.size := Nat.le_trans hk1 t2.size
  have hC2 := hC1.keep t2 id
  clear g0 g1 g2 g3 g4 g5 hB1 hC1 h1 tt1 t2
  have hn := leaves_few hfew
  obtain ⟨h40, h400, hstk⟩ := ok_stakes hok
  clear hfew h64 hok hFar
  have q0 : w2.cell? ⟨z + 1, 0, none⟩ = some (.int .i64 c1) := hC2.cell 0
  have q1 : w2.cell? ⟨z + 1, 1, none⟩ = some (.int .i64 c2) := hC2.cell 1
  have q2 : w2.cell? ⟨z + 1, 2, none⟩ = some (.int .i64 c3) := hC2.cell 2
  have q3 : w2.cell? ⟨z + 1, 3, none⟩ = some (.int .i64 c4) := hC2.cell 3
  have q4 : w2.cell? ⟨z + 1, 4, none⟩ = some (.int .i64 c5) := hC2.cell 4
  have q5 : w2.cell? ⟨z + 1, 5, none⟩ = some (.int .i64 c6) := hC2.cell 5
  have HBO := Lib.hid (both_any hV hn h40 hstk c1 c2 c3 c4 c5 c6 x hx)
  have HPB := Lib.hid (part_bd hstk (4, c2, c3, c4, c5, 0))
  have HON := Lib.hid (fun h => both_on (b := b) (c := (c2, c3, c4, c5, 0)) (x := x) h)
  have HOF := Lib.hid (fun h => both_off (b := b) (c := (c2, c3, c4, c5, 0)) (x := x) h)
  have HSB := Lib.hid (share_bd hstk c2 c4)
  have HFA := Lib.hid (fun h => may_facts (b := b) (c := (4, c2, c3, c4, c5, 0)) (lo := 4) (hi := 5) h)
  have HSP := Lib.hid (show splitPart b (4, c2, c3, c4, c5, 0) = if accSplit b c3 then shareAt b c2 c4 else 10000 from rfl)
  clear hn h400 hstk
  go_wp2_with fail
  refine HBO.out.mono ?_
  rintro _ w3 ⟨rfl, t3⟩
  clear HBO q0 q1 q2 q3 q4 q5
  by_cases hm : mayOf b (4, c2, c3, c4, c5, 0) 4 5 = 0
  rotate_left
  · rw [HOF.out hm]
    unfold vlV
    simp only
    have tP := Tch.alloc (fun _ => False) w3 (.cells #[.int .i64 0, .int .i64 0] 39)
    have tM := Tch.alloc (fun _ => False) (w3.alloc (.cells #[.int .i64 0, .int .i64 0] 39)) (.cells #[.int .i64 0, .int .i64 0] 39)
    have bP := (Blk.new w3 39 #[.int .i64 0, .int .i64 0]).keep tM id
    have bM := Blk.new2 w3 (.cells #[.int .i64 0, .int .i64 0] 39) 39 #[.int .i64 0, .int .i64 0]
    have tPM := tP.trans tM
    have hszM : ((w3.alloc (.cells #[.int .i64 0, .int .i64 0] 39)).alloc (.cells #[.int .i64 0, .int .i64 0] 39)).heap.size = w3.heap.size + 2 := by simp
    clear tP tM
    have hk3 : z + 2 ≤ w3.heap.size := Nat.le_trans hk5 t3.size
    have hC3 := (hC2.keep t3 id).keep tPM id
    go_wp2_with (refine wpList_store_blk rfl _ _ _ rfl w3.heap.size #[.int .i64 0, .int .i64 0] (by rfl) (by rfl) bP (by kernel_rfl) rfl (by simp [Value.oneCell']) ?_; refine Hid.out ?_)
    refine Lib.hid ?_
    intro w4 bP4 ts4
    generalize (w3.alloc (.cells #[.int .i64 0, .int .i64 0] 39)).alloc _ = W3 at *
    generalize hyw : w3.heap.size = y at *
    have HYW := Lib.hid hyw
    clear hyw
    have hC4 := hC3.keep ts4 (by omega)
    have bM4 := bM.keep ts4 (by omega)
    go_wp2_with (refine wpList_store_blk rfl _ _ _ rfl (y + 1) #[.int .i64 0, .int .i64 0] (by rfl) (by rfl) bM4 (by kernel_rfl) rfl (by simp [Value.oneCell']) ?_; refine Hid.out ?_)
    refine Lib.hid ?_
    intro w5 bM5 ts5
    have bP5 := bP4.keep ts5 (by omega)
    have t35 := (tPM.trans' (F' := fun g => g = y) ts4 (fun i hi => .inr (by have hi : i = y := hi; have := HYW.out; omega))).trans' (F' := fun g => g = y + 1) ts5 (fun i hi => .inr (by have hi : i = y + 1 := hi; have := HYW.out; omega))
    have hC5 := hC4.keep ts5 (by omega)
    have hV5 := (hV.keep t3).keep t35
    have hszy : y + 2 ≤ w5.heap.size := by have := t35.size; have := bM5.lt; omega
    have tt5 := Lib.hid ((tt2.trans t3).trans t35)
    clear bP bM bM4 bP4 ts4 ts5 tPM hC3 hC4 t35 t3 hszM
    clear HON HOF HPB hm HSB HFA HSP h40 hC2 hV
    have HFO := Lib.hid (vwforest_some hV5 c4)
    have HAC := Lib.hid (vwaccount_some hV5 c3)
    have k3 : w5.cell? ⟨z + 1, 3, none⟩ = some (.int .i64 c4) := hC5.cell 3
    have k2 : w5.cell? ⟨z + 1, 2, none⟩ = some (.int .i64 c3) := hC5.cell 2
    go_wp2_with fail
    refine HFO.out.mono ?_
    rintro _ _ ⟨q, rfl, rfl, hq⟩
    clear hq
    clear HFO k3
    go_wp2_with fail
    refine HAC.out.mono ?_
    rintro _ w6 ⟨ai, aj, ap, aq, is, rfl, t6, hk⟩
    clear hk
    have tA := Tch.alloc (fun _ => False) w6 (.cells #[.int .i64 0, .int .i64 0, .bool false, .bool false] 64)
    have bA := Blk.new w6 64 #[.int .i64 0, .int .i64 0, .bool false, .bool false]
    have bP7 := (bP5.keep t6 id).keep tA id
    have bM7 := (bM5.keep t6 id).keep tA id
    have hC7 := (hC5.keep t6 id).keep tA id
    have hszA := t6.size
    have t67 := t6.trans tA
    clear HAC k2 hC5 bP5 bM5 tA
    go_wp2_with (refine wpList_store_blk rfl _ _ _ rfl w6.heap.size #[.int .i64 ai, .int .i64 aj, .bool ap, .bool aq] (by rfl) (by rfl) bA (by kernel_rfl) rfl (by simp [Value.oneCell']) ?_; refine Hid.out ?_)
    refine Lib.hid ?_
    intro w8 bA8 ts8
    generalize w6.alloc _ = W6 at *
    generalize hya : w6.heap.size = ya at *
    have t58 := t67.trans' (F' := fun g => g = ya) ts8 (fun i hi => .inr (by have hi : i = ya := hi; omega))
    have tt8 := Lib.hid (tt5.out.trans t58)
    clear bA8 ts8 t67 t58 bA bP7 bM7 hC7 hV5
    go_wp2_with fail
    refine (awake35_any _).mono ?_
    rintro _ w9 ⟨rfl, t9⟩
    go_wp2
    go_ret
    exact ⟨rfl, tt8.out.trans t9⟩
  rw [HON.out hm]
  obtain ⟨_, ⟨hp0, hp1⟩, hent, hlf⟩ := HFA.out hm
  have hp0 : 0 ≤ c4 := hp0
  have hp1 : c4 ≤ 23 := hp1
  have hent : 1 ≤ c2 ∧ c2 ≤ (b.ents.length : Int) := hent
  have hlf : accLeaf b.accs c3 = true := hlf
  have HX := Lib.hid hx
  rw [HSP.out]
  clear HON HOF hm HFA HSP HPB hx
  unfold vlV
  simp only
  generalize hspe : (if accSplit b c3 = true then shareAt b c2 c4 else 10000) = sp at *
  generalize hPe : partOf sp x = P at *
  generalize hMe : x - P = M at *
  have HSE := Lib.hid hspe
  have HPE := Lib.hid hPe
  have HME := Lib.hid hMe
  clear hspe hPe hMe
  have tP := Tch.alloc (fun _ => False) w3 (.cells #[.int .i64 0, .int .i64 0] 39)
  have tM := Tch.alloc (fun _ => False) (w3.alloc (.cells #[.int .i64 0, .int .i64 0] 39)) (.cells #[.int .i64 0, .int .i64 0] 39)
  have bP := (Blk.new w3 39 #[.int .i64 0, .int .i64 0]).keep tM id
  have bM := Blk.new2 w3 (.cells #[.int .i64 0, .int .i64 0] 39) 39 #[.int .i64 0, .int .i64 0]
  have tPM := tP.trans tM
  have hszM : ((w3.alloc (.cells #[.int .i64 0, .int .i64 0] 39)).alloc (.cells #[.int .i64 0, .int .i64 0] 39)).heap.size = w3.heap.size + 2 := by simp
  clear tP tM
  have hk3 : z + 2 ≤ w3.heap.size := Nat.le_trans hk5 t3.size
  have hC3 := (hC2.keep t3 id).keep tPM id
  go_wp2_with (refine wpList_store_blk rfl _ _ _ rfl w3.heap.size #[.int .i64 P, .int .i64 0] (by rfl) (by rfl) bP (by kernel_rfl) rfl (by simp [Value.oneCell']) ?_; refine Hid.out ?_)
  refine Lib.hid ?_
  intro w4 bP4 ts4
  generalize (w3.alloc (.cells #[.int .i64 0, .int .i64 0] 39)).alloc _ = W3 at *
  generalize hyw : w3.heap.size = y at *
  have HYW := Lib.hid hyw
  clear hyw
  have hC4 := hC3.keep ts4 (by omega)
  have bM4 := bM.keep ts4 (by omega)
  go_wp2_with (refine wpList_store_blk rfl _ _ _ rfl (y + 1) #[.int .i64 M, .int .i64 0] (by rfl) (by rfl) bM4 (by kernel_rfl) rfl (by simp [Value.oneCell']) ?_; refine Hid.out ?_)
  refine Lib.hid ?_
  intro w5 bM5 ts5
  have bP5 := bP4.keep ts5 (by omega)
  have t35 := (tPM.trans' (F' := fun g => g = y) ts4 (fun i hi => .inr (by have hi : i = y := hi; have := HYW.out; omega))).trans' (F' := fun g => g = y + 1) ts5 (fun i hi => .inr (by have hi : i = y + 1 := hi; have := HYW.out; omega))
  have hC5 := hC4.keep ts5 (by omega)
  have hV5 := (hV.keep t3).keep t35
  have hszy : y + 2 ≤ w5.heap.size := by have := t35.size; have := bM5.lt; omega
  have tt5 := Lib.hid ((tt2.trans t3).trans t35)
  clear bP bM bM4 bP4 ts4 ts5 tPM hC3 hC4 t35 t3 hszM
  clear hC2 hV
  obtain ⟨p, rfl⟩ : ∃ p : Nat, c4 = (p : Int) := ⟨c4.toNat, by omega⟩
  have hp : p < 24 := by omega
  obtain ⟨gf, hgf, hFB⟩ := hV5.forests p hp
  obtain ⟨k, hk0, hkx, hka⟩ := accIs_at hlf
  have HKX := Lib.hid hkx
  have HKA := Lib.hid hka
  have HEN := Lib.hid hent

  clear hkx hka hent hlf hp0 hp1
  have HFO := Lib.hid (vwforest_some hV5 (p : Int))
  have HAC := Lib.hid (vwaccount_some hV5 c3)
  have k3 : w5.cell? ⟨z + 1, 3, none⟩ = some (.int .i64 (p : Int)) := hC5.cell 3
  have k2 : w5.cell? ⟨z + 1, 2, none⟩ = some (.int .i64 c3) := hC5.cell 2
  go_wp2_with fail
  refine HFO.out.mono ?_
  rintro _ _ ⟨q, rfl, rfl, hq⟩
  obtain rfl := hq p gf rfl hp hgf
  clear hq hgf
  clear HFO k3
  go_wp2_with fail
  refine HAC.out.mono ?_
  rintro _ w6 ⟨ai, aj, ap, aq, is, rfl, t6, hk⟩
  obtain ⟨rfl, hacc⟩ := hk k hk0 HKX.out
  have hsa := split_at (hk := hk0) HKA.out
  rw [hacc] at hsa
  have HSA := Lib.hid (show accSplit b c3 = ap from hsa)
  clear hacc hsa
  have tA := Tch.alloc (fun _ => False) w6 (.cells #[.int .i64 0, .int .i64 0, .bool false, .bool false] 64)
  have bA := Blk.new w6 64 #[.int .i64 0, .int .i64 0, .bool false, .bool false]
  have bP7 := (bP5.keep t6 id).keep tA id
  have bM7 := (bM5.keep t6 id).keep tA id
  have hC7 := (hC5.keep t6 id).keep tA id
  have hszA := t6.size
  have t67 := t6.trans tA
  clear HAC k2 hC5 bP5 bM5 tA hk
  go_wp2_with (refine wpList_store_blk rfl _ _ _ rfl w6.heap.size #[.int .i64 ai, .int .i64 aj, .bool ap, .bool aq] (by rfl) (by rfl) bA (by kernel_rfl) rfl (by simp [Value.oneCell']) ?_; refine Hid.out ?_)
  refine Lib.hid ?_
  intro w8 bA8 ts8
  generalize w6.alloc _ = W6 at *
  generalize hya : w6.heap.size = ya at *
  have t58 := t67.trans' (F' := fun g => g = ya) ts8 (fun i hi => .inr (by have hi : i = ya := hi; omega))
  have tt8 := Lib.hid (tt5.out.trans t58)
  have hgl := hFB.lt
  have hFB8 := ((hFB.keep t67 id).keep ts8 (by omega))
  have bP8 := bP7.keep ts8 (by omega)
  have bM8 := bM7.keep ts8 (by omega)
  have hC8 := hC7.keep ts8 (by omega)
  have HPA := Lib.hid (fparent_any hFB8 h40 c2)
  have HSH := Lib.hid (fshare_any hFB8 h40 c2)
  simp only [if_pos HEN.out] at HPA HSH
  have hspe := HSE.out
  have hPe := HPE.out
  have hMe := HME.out
  have hshe : shareAt b c2 (p : Int) = stkShare b.stakes c2 (p : Int) := if_pos HEN.out
  rw [HSA.out, hshe] at hspe
  have a2 : w8.cell? ⟨ya, 2, none⟩ = some (.bool ap) := bA8.cell 2
  have e0 : w8.cell? ⟨y, 0, none⟩ = some (.int .i64 P) := bP8.cell 0
  have f0 : w8.cell? ⟨y + 1, 0, none⟩ = some (.int .i64 M) := bM8.cell 0
  have k1 : w8.cell? ⟨z + 1, 1, none⟩ = some (.int .i64 c2) := hC8.cell 1
  clear bA8 bP8 bM8 hC8 ts8 t67 t58 bA bP7 bM7 hC7 hFB8 hFB hV5 hshe HSA HSE HPE HME HKX HKA HEN
  have HSB := Lib.hid HSB.out
  generalize stkShare b.stakes c2 (p : Int) = sh at *
  generalize stkUp b.stakes c2 (p : Int) = up at *
  cases ap
  · obtain rfl : sp = 10000 := hspe.symm
    rw [part_all] at hPe
    subst hPe
    obtain rfl : M = 0 := by omega
    clear hMe HPA HSH HSB hspe
    go_wp2_with fail
    refine (awake35_any _).mono ?_
    rintro _ w9 ⟨rfl, t9⟩
    go_wp2
    go_ret
    exact ⟨rfl, tt8.out.trans t9⟩
  obtain rfl : sh = sp := hspe
  by_cases hup : up = 0
  · obtain rfl := HSB.out.2.2 hup
    rw [part_all] at hPe
    subst hPe
    subst hup
    obtain rfl : M = 0 := by omega
    clear hMe HSB
    go_wp2_with fail
    refine HPA.out.mono ?_
    rintro _ _ ⟨rfl, rfl⟩
    go_wp2_with fail
    refine HSH.out.mono ?_
    rintro _ _ ⟨rfl, rfl⟩
    go_wp2_with fail
    refine (awake35_any _).mono ?_
    rintro _ w9 ⟨rfl, t9⟩
    go_wp2
    go_ret
    exact ⟨rfl, tt8.out.trans t9⟩
  have hup' : (up == 0) = false := by simpa using hup
  clear hup
  by_cases hs1 : sh = 10000
  · subst hs1
    rw [part_all] at hPe
    subst hPe
    obtain rfl : M = 0 := by omega
    clear hMe HSB
    go_wp2_with fail
    refine HPA.out.mono ?_
    rintro _ _ ⟨rfl, rfl⟩
    go_wp2_with fail
    refine HSH.out.mono ?_
    rintro _ _ ⟨rfl, rfl⟩
    go_wp2_with fail
    refine HSH.out.mono ?_
    rintro _ _ ⟨rfl, rfl⟩
    go_wp2_with fail
    refine (awake35_any _).mono ?_
    rintro _ w9 ⟨rfl, t9⟩
    go_wp2
    go_ret
    exact ⟨rfl, tt8.out.trans t9⟩
  have hs1' : (sh == 10000) = false := by simpa using hs1
  by_cases hs0 : sh = 0
  · subst hs0
    rw [part_nil] at hPe
    subst hPe
    obtain rfl : M = x := by omega
    clear hMe HSB hs1 hs1'
    go_wp2_with fail
    refine HPA.out.mono ?_
    rintro _ _ ⟨rfl, rfl⟩
    go_wp2_with fail
    refine HSH.out.mono ?_
    rintro _ _ ⟨rfl, rfl⟩
    go_wp2_with fail
    refine HSH.out.mono ?_
    rintro _ _ ⟨rfl, rfl⟩
    go_wp2_with fail
    refine (awake35_any _).mono ?_
    rintro _ w9 ⟨rfl, t9⟩
    go_wp2
    go_ret
    exact ⟨rfl, tt8.out.trans t9⟩
  have hs0' : (sh != 0) = true := by simpa using hs0
  clear hs0 hs1 HSB
  go_wp2_with fail
  refine HPA.out.mono ?_
  rintro _ _ ⟨rfl, rfl⟩
  go_wp2_with fail
  refine HSH.out.mono ?_
  rintro _ _ ⟨rfl, rfl⟩
  go_wp2_with fail
  refine HSH.out.mono ?_
  rintro _ _ ⟨rfl, rfl⟩
  go_wp2_with fail
  refine (awake35_any _).mono ?_
  rintro _ w9 ⟨rfl, t9⟩
  go_wp2
  go_ret
  exact ⟨rfl, tt8.out.trans t9⟩
theorem splitwhole_row {w : World} {u v : Value} {x : Int} (hu : ∃ b, BooksIs (fun _ => True) w u b ∧ Bks64 b) (hv : ∃ c : Rt6, v = cellV c ∧ (I64 c.1 ∧ I64 c.2.1 ∧ I64 c.2.2.1 ∧ I64 c.2.2.2.1 ∧ I64 c.2.2.2.2.1 ∧ I64 c.2.2.2.2.2)) (hx : I64 x) :
    Calls Tryz.prog 7 #[u, v, .int .i64 x] w fun x w' => x = .returned (.bool true) ∧ Tch (fun _ => False) w w' := by
  obtain ⟨b, hb, h64⟩ := hu
  obtain ⟨⟨c1, c2, c3, c4, c5, c6⟩, rfl, _⟩ := hv
  obtain ⟨e, a, s, r, l, n, us, rfl, h⟩ := hb.at
  exact splitwhole_any h h64 c1 c2 c3 c4 c5 c6 x hx
end Go.Proofs.YtifdnhghjgklkaaGreat
