/-
  ConsOwn: the walk.
-/
import Derived.Test.YtblenmelciaigaaGreatQa
import Derived.Test.YtblenmelciaigaaGreatEm
import Derived.Test.YtblenmelciaigaaGreatZ37
import Derived.Test.YtblenmelciaigaaGreatZ35
import Derived.Test.YtblenmelciaigaaGreatZ33
import Derived.Test.YtblenmelciaigaaGreatZ24
import Derived.Test.YtblenmelciaigaaGreatZ46
namespace Go.Proofs.YtblenmelciaigaaGreat
open Go.RowKit Go.Gk Go.Gk.V33

set_option maxRecDepth 100000 in
set_option maxHeartbeats 800000 in
theorem vwforest_q {w : World} {bv bi B t mr mp : Nat} {e a s r l n lv : Value} {fs : List Value} {b : Bks} {us : List (Ent × Value)} (h : Vw w bv bi B t mr mp e a s r l n lv fs b us) (x : Int) :
    Calls Tryz.prog 9 #[.pointer (some ⟨bv, 0, none⟩), .int .i64 x] w fun y w' => ∃ q, y = .returned (.pointer q) ∧ w = w' ∧ ∀ p g : Nat, x = (p : Int) → p < 24 → fs[p]? = some (.pointer (some ⟨g, 0, none⟩)) → q = some ⟨g, 0, none⟩ := by
  by_cases hx : 0 ≤ x ∧ x < 24
  · obtain ⟨p, rfl⟩ : ∃ p : Nat, x = (p : Int) := ⟨x.toNat, by omega⟩
    obtain ⟨g, hg, _⟩ := h.forests p (by omega)
    refine (vwforest_at h (by omega) hg).mono ?_
    rintro _ _ ⟨rfl, rfl⟩
    refine ⟨_, rfl, rfl, fun p' g' hp _ hg' => ?_⟩
    obtain rfl : p = p' := by omega
    rw [hg] at hg'
    injection hg' with e1
    injection e1
  · have hM := vwmade_any h
    have hx' : ¬ (0 ≤ x ∧ x < 24) := hx
    have HX := Lib.hid hx'
    rcases (by omega : x < 0 ∨ 24 ≤ x) with h1 | h1
    · clear h hx hx'
      go_enter Tryz.func9, Tryz.ntmps9
      go_wp2_with fail
      refine hM.mono ?_
      rintro _ _ ⟨rfl, rfl⟩
      clear hM
      go_wp2
      go_ret
      exact ⟨_, rfl, rfl, fun p g hp h2 _ => absurd HX.out (by omega)⟩
    · have h2 : ¬ x < 0 := by omega
      clear h hx hx'
      go_enter Tryz.func9, Tryz.ntmps9
      go_wp2_with fail
      refine hM.mono ?_
      rintro _ _ ⟨rfl, rfl⟩
      clear hM
      go_wp2
      go_ret
      exact ⟨_, rfl, rfl, fun p g hp h2 _ => absurd HX.out (by omega)⟩

set_option maxRecDepth 100000 in
set_option maxHeartbeats 25600000 in
theorem consown_any {w : World} {e a s r l n : Value} {b : Bks} {us : List (Ent × Value)} (h : BksAt w e a s r l n b us) (h64 : Bks64 b) (c1 c2 c3 c4 c5 c6 o1 o2 : Int) (ho : I64 o1) :
    Calls Tryz.prog 3 #[.agg #[e, a, s, r, l, n], .agg #[.int .i64 c1, .int .i64 c2, .int .i64 c3, .int .i64 c4, .int .i64 c5, .int .i64 c6], .agg #[.int .i64 o1, .int .i64 o2]] w fun x w' => x = .returned (.bool true) ∧ Tch (fun _ => False) w w' := by
  have ta := Tch.alloc (fun _ => False) w (.cells #[e, a, s, r, l, n] 29)
  have tb := Tch.alloc (fun _ => False) (w.alloc (.cells #[e, a, s, r, l, n] 29)) (.cells #[.int .i64 c1, .int .i64 c2, .int .i64 c3, .int .i64 c4, .int .i64 c5, .int .i64 c6] 31)
  have tc := Tch.alloc (fun _ => False) ((w.alloc (.cells #[e, a, s, r, l, n] 29)).alloc (.cells #[.int .i64 c1, .int .i64 c2, .int .i64 c3, .int .i64 c4, .int .i64 c5, .int .i64 c6] 31)) (.cells #[.int .i64 o1, .int .i64 o2] 34)
  have tw := (ta.trans tb).trans tc
  have hbB := ((Blk.new w 29 #[e, a, s, r, l, n]).keep tb id).keep tc id
  have hbC := (Blk.new2 w (.cells #[e, a, s, r, l, n] 29) 31 #[.int .i64 c1, .int .i64 c2, .int .i64 c3, .int .i64 c4, .int .i64 c5, .int .i64 c6]).keep tc id
  have hbO := Blk.new ((w.alloc (.cells #[e, a, s, r, l, n] 29)).alloc (.cells #[.int .i64 c1, .int .i64 c2, .int .i64 c3, .int .i64 c4, .int .i64 c5, .int .i64 c6] 31)) 34 #[.int .i64 o1, .int .i64 o2]
  rw [show ((w.alloc (.cells #[e, a, s, r, l, n] 29)).alloc (.cells #[.int .i64 c1, .int .i64 c2, .int .i64 c3, .int .i64 c4, .int .i64 c5, .int .i64 c6] 31)).heap.size = w.heap.size + 2 by simp] at hbO
  have HF := Lib.hid (few26_any (h.keep tw))
  have HW := Lib.hid (h.keep tw)
  have hsz : (((w.alloc (.cells #[e, a, s, r, l, n] 29)).alloc (.cells #[.int .i64 c1, .int .i64 c2, .int .i64 c3, .int .i64 c4, .int .i64 c5, .int .i64 c6] 31)).alloc (.cells #[.int .i64 o1, .int .i64 o2] 34)).heap.size = w.heap.size + 3 := by simp
  obtain ⟨Ae, ce, rfl, _, _⟩ := h.ents.form
  obtain ⟨Aa, ca, rfl, _, _⟩ := h.accs.form
  obtain ⟨As, cs, rfl, _, _⟩ := h.stakes.form
  obtain ⟨Ar, cr, rfl, _, _⟩ := h.rates.form
  obtain ⟨Al, cl, rfl, _, _⟩ := h.locks.form
  obtain ⟨An, cn, rfl, _, _⟩ := h.ent.row.form
  clear ta tb tc h
  have HO64 := Lib.hid ho
  clear ho
  obtain ⟨fw, hfw⟩ : ∃ fw, few26 b = fw := ⟨_, rfl⟩
  rw [hfw] at HF
  go_enter Tryz.func3, Tryz.ntmps3
  go_wp2_with fail
  generalize ((w.alloc (.cells #[.slice Ae b.ents.length ce, .slice Aa b.accs.length ca, .slice As b.stakes.length cs, .slice Ar b.rates.length cr, .slice Al b.locks.length cl, .slice An us.length cn] 29)).alloc (.cells #[.int .i64 c1, .int .i64 c2, .int .i64 c3, .int .i64 c4, .int .i64 c5, .int .i64 c6] 31)).alloc (.cells #[.int .i64 o1, .int .i64 o2] 34) = W at *
  generalize hzw : w.heap.size = z at *
  have HZW := Lib.hid hzw
  clear hzw
  refine HF.out.mono ?_
  rintro _ w1 ⟨rfl, t1⟩
  clear HF
  have tt1 := tw.trans t1
  cases fw
  · clear hfw
    go_wp2_with fail
    refine (awake36_any w1).mono ?_
    rintro _ wz ⟨rfl, tz⟩
    go_wp2
    (try rw [Exit.noGoto_ret])
    go_ret
    exact ⟨rfl, tt1.trans tz⟩
  have hfew := few26_few hfw
  have hB1 := hbB.keep t1 id
  have hC1 := hbC.keep t1 id
  have hO1 := hbO.keep t1 id
  have h1 := HW.out.keep t1
  have hk1 : z + 3 ≤ w1.heap.size := by have := t1.size; omega
  clear hbB hbC hbO HW tw t1 hfw hsz
  have g0 : w1.cell? ⟨z, 0, none⟩ = some (.slice Ae b.ents.length ce) := hB1.cell 0
  have g1 : w1.cell? ⟨z, 1, none⟩ = some (.slice Aa b.accs.length ca) := hB1.cell 1
  have g2 : w1.cell? ⟨z, 2, none⟩ = some (.slice As b.stakes.length cs) := hB1.cell 2
  have g3 : w1.cell? ⟨z, 3, none⟩ = some (.slice Ar b.rates.length cr) := hB1.cell 3
  have g4 : w1.cell? ⟨z, 4, none⟩ = some (.slice Al b.locks.length cl) := hB1.cell 4
  have g5 : w1.cell? ⟨z, 5, none⟩ = some (.slice An us.length cn) := hB1.cell 5
  go_wp2_with fail
  refine (see_far h1 hfew h64).mono ?_
  rintro _ w2 ⟨hsee, t2⟩
  have tt2 := tt1.trans t2
  rcases hsee with ⟨_, m, rfl, hm⟩ | ⟨hok, bv, bi, B, t, mr, mp, e', a', s', r', l', n', lv, fs, us', rfl, hV, hFar⟩
  · have hm2 : (m != 0) = true := by simpa using hm
    clear g0 g1 g2 g3 g4 g5 hm
    go_wp2_with fail
    refine (awake36_any w2).mono ?_
    rintro _ wz ⟨rfl, tz⟩
    go_wp2
    (try rw [Exit.noGoto_ret])
    go_ret
    exact ⟨rfl, tt2.trans tz⟩
  have hk5 : z + 3 ≤ w2.heap.size := Nat.le_trans hk1 t2.size
  have hC2 := hC1.keep t2 id
  have hO2 := hO1.keep t2 id
  clear g0 g1 g2 g3 g4 g5 hB1 hC1 hO1 h1 tt1 t2
  have hn := leaves_few hfew
  have hpo := posts_few hfew
  obtain ⟨h40, h400, hstk⟩ := ok_stakes hok
  have hac : b.accs.length ≤ 1000 := by have := hfew.accs; omega
  have HOK := Lib.hid hok
  clear hfew h64 hok
  -- the key becomes that of what a node has
  go_wp2_with (refine wpList_store_cell rfl _ _ _ rfl (z + 1) 0 (.int .i64 7) (by rfl) (by rfl) rfl (by rfl) hC2 (by simp) ?_; refine Hid.out ?_)
  refine Lib.hid ?_
  intro w3 hC3 ts3
  (try simp only [List.setIfInBounds_toArray, List.set_cons_succ, List.set_cons_zero] at hC3)
  go_wp2_with (refine wpList_store_cell rfl _ _ _ rfl (z + 1) 5 (.int .i64 0) (by rfl) (by rfl) rfl (by rfl) hC3 (by simp) ?_; refine Hid.out ?_)
  refine Lib.hid ?_
  intro w5 hC5 ts4
  (try simp only [List.setIfInBounds_toArray, List.set_cons_succ, List.set_cons_zero] at hC5)
  have tS := ts3.trans ts4
  have hz5 : z + 3 ≤ w5.heap.size := by have := tS.size; have := hk5; omega
  have tt5 := tt2.trans' tS (fun i hi => .inr (by have hi : i = z + 1 := hi; have := HZW.out; omega))
  obtain ⟨us5, hV5⟩ := hFar.view hV tS (fun g hg => by have hg : g = z + 1 := hg; omega)
  have hO5 := hO2.keep tS (by omega)
  clear hC2 hC3 hO2 ts3 ts4 tt2
  have q0 : w5.cell? ⟨z + 1, 0, none⟩ = some (.int .i64 7) := hC5.cell 0
  have q1 : w5.cell? ⟨z + 1, 1, none⟩ = some (.int .i64 c2) := hC5.cell 1
  have q2 : w5.cell? ⟨z + 1, 2, none⟩ = some (.int .i64 c3) := hC5.cell 2
  have q3 : w5.cell? ⟨z + 1, 3, none⟩ = some (.int .i64 c4) := hC5.cell 3
  have q4 : w5.cell? ⟨z + 1, 4, none⟩ = some (.int .i64 c5) := hC5.cell 4
  have q5 : w5.cell? ⟨z + 1, 5, none⟩ = some (.int .i64 0) := hC5.cell 5
  go_wp2_with fail
  refine (consrec_any hV5 hn h40 hac 7 c2 c3 c4 c5 0).mono ?_
  rintro _ w6 ⟨v1, rfl, hr1, t6⟩
  have tt6 := tt5.trans t6
  have hC6 := hC5.keep t6 id
  have hO6 := hO5.keep t6 id
  have tS6 := tS.trans (t6.mono fun i _ h => h.elim)
  have hz6 : z + 3 ≤ w6.heap.size := Nat.le_trans hz5 t6.size
  have HLO := Lib.hid (show consOf b (7, c2, c3, c4, c5, 0) = if mayOf b (7, c2, c3, c4, c5, 0) 7 7 = 0 then ({ Rcp.none with plus := consPlus (7, c2, c3, c4, c5, 0) (kidsOf b c2 c4) (splitsOf b) }, 0) else (Rcp.none, mayOf b (7, c2, c3, c4, c5, 0) 7 7) from rfl)
  have HFA := Lib.hid (fun h => may_facts (b := b) (c := (7, c2, c3, c4, c5, 0)) (lo := 7) (hi := 7) h)
  have HM67 := Lib.hid (may_67 (b := b) c2 c3 c4 c5)
  generalize mayOf b (7, c2, c3, c4, c5, 0) 7 7 = m at *
  rw [HLO.out] at hr1 ⊢
  clear q0 q1 q2 q3 q4 q5 hC5 hO5 hV5 tt5 t6 HLO tS
  by_cases hm : m = 0
  rotate_left
  · rw [if_neg hm] at hr1 ⊢
    have hm2 : (m != 0) = true := by simpa using hm
    have hm3 : (m == 0) = false := by simpa using hm
    simp only at hr1 ⊢
    obtain ⟨p1, m1, rfl, hp1, hm1⟩ := hr1
    obtain ⟨P1, k1, rfl, _, _⟩ := hp1.form
    obtain ⟨M1, d1, rfl, _, _⟩ := hm1.form
    unfold rcpV Rcp.none
    simp only [List.length_nil]
    clear hp1 hm1 hm hO6
    have tA := Tch.alloc (fun _ => False) w6 (.cells #[.int .i64 0, .int .i64 0, .slice P1 0 k1, .slice M1 0 d1, .int .i64 0, .int .i64 0, .int .i64 0, .int .i64 0, .int .i64 0, .int .i64 0, .bool false, .int .i64 0, .int .i64 0, .bool false] 46)
    have tA6 := tS6.trans (tA.mono fun i _ h => h.elim)
    have ttA := tt6.trans tA
    have hCA := hC6.keep tA id
    clear hC6 tS6 tt6 tA
    go_wp2_with (refine wpList_store_cell rfl _ _ _ rfl (z + 1) 0 (.int .i64 6) (by rfl) (by rfl) rfl (by rfl) hCA (by simp) ?_; refine Hid.out ?_)
    refine Lib.hid ?_
    intro w7 hC7 ts7
    (try simp only [List.setIfInBounds_toArray, List.set_cons_succ, List.set_cons_zero] at hC7)
    have tt7 := ttA.trans' ts7 (fun i hi => .inr (by have hi : i = z + 1 := hi; have := HZW.out; omega))
    obtain ⟨us7, hV7⟩ := hFar.view hV (tA6.trans ts7) (fun g hg => by have hg : g = z + 1 := hg; omega)
    have q0 : w7.cell? ⟨z + 1, 0, none⟩ = some (.int .i64 6) := hC7.cell 0
    have q1 : w7.cell? ⟨z + 1, 1, none⟩ = some (.int .i64 c2) := hC7.cell 1
    have q2 : w7.cell? ⟨z + 1, 2, none⟩ = some (.int .i64 c3) := hC7.cell 2
    have q3 : w7.cell? ⟨z + 1, 3, none⟩ = some (.int .i64 c4) := hC7.cell 3
    have q4 : w7.cell? ⟨z + 1, 4, none⟩ = some (.int .i64 c5) := hC7.cell 4
    have q5 : w7.cell? ⟨z + 1, 5, none⟩ = some (.int .i64 0) := hC7.cell 5
    have HEL := Lib.hid (elimrec_any hV7 hn hpo HOK.out 6 c2 c3 c4 c5 0)
    rw [HM67.out] at HEL
    clear hV hFar hCA ttA tA6 ts7 HFA HM67 HOK
    go_wp2_with fail
    refine HEL.out.mono ?_
    rintro _ w8 ⟨v2, R2, rfl, hr2, t8, _⟩
    obtain ⟨p2, m2, rfl, hp2, hm2'⟩ := hr2
    obtain ⟨P2, k2, rfl, _, _⟩ := hp2.form
    obtain ⟨M2, d2, rfl, _, _⟩ := hm2'.form
    have hC8 := hC7.keep t8 id
    have hV8 := hV7.keep t8
    have tt8 := tt7.trans t8
    obtain ⟨⟨rb1, rb2⟩, pl2, mi2, ⟨s1, s2, s3, s4, s5, s6⟩, rt, ⟨r1, r2⟩, hs⟩ := R2
    unfold rcpV
    simp only
    have tB := Tch.alloc (fun _ => False) w8 (.cells #[.int .i64 rb1, .int .i64 rb2, .slice P2 pl2.length k2, .slice M2 mi2.length d2, .int .i64 s1, .int .i64 s2, .int .i64 s3, .int .i64 s4, .int .i64 s5, .int .i64 s6, .bool rt, .int .i64 r1, .int .i64 r2, .bool hs] 46)
    have HFO := Lib.hid (vwforest_q (hV8.keep tB) c4)
    have x3 : (w8.alloc (.cells #[.int .i64 rb1, .int .i64 rb2, .slice P2 pl2.length k2, .slice M2 mi2.length d2, .int .i64 s1, .int .i64 s2, .int .i64 s3, .int .i64 s4, .int .i64 s5, .int .i64 s6, .bool rt, .int .i64 r1, .int .i64 r2, .bool hs] 46)).cell? ⟨z + 1, 3, none⟩ = some (.int .i64 c4) := (hC8.keep tB id).cell 3
    have ttB := tt8.trans tB
    clear hp2 hm2' hC8 hC7 hV8 hV7 HEL tt7 tt8 t8 tB q0 q1 q2 q3 q4 q5
    go_wp2_with fail
    generalize w8.alloc _ = W8 at *
    refine HFO.out.mono ?_
    rintro _ _ ⟨q, rfl, rfl, _⟩
    go_wp2_with fail
    refine (awake36_any _).mono ?_
    rintro _ wz ⟨rfl, tz⟩
    go_wp2
    (try rw [Exit.noGoto_ret])
    go_ret
    exact ⟨rfl, ttB.trans tz⟩
  rw [if_pos hm] at hr1 ⊢
  obtain ⟨_, ⟨hp0, hp1⟩, hent, _⟩ := HFA.out hm
  clear HFA
  subst hm
  simp only at hr1 hp0 hp1 hent ⊢
  obtain ⟨p, rfl⟩ : ∃ p : Nat, c4 = (p : Int) := ⟨c4.toNat, by omega⟩
  have hp : p < 24 := by omega
  have hkl := kids_len b c2 p
  have hsl := splits_len b
  have hkl2 : (kidsOf b c2 p).length ≤ 40 := by omega
  have hpl2 := plus_two (7, c2, c3, (p : Int), c5, 0) (kidsOf b c2 p) (splitsOf b)
  obtain ⟨p1, m1, rfl, hp1', hm1⟩ := hr1
  have hp1 := hp1'.apart hC6 (row_apart hpl2 rfl)
  obtain ⟨P1, k1, rfl, _, _⟩ := hp1.form
  obtain ⟨M1, d1, rfl, _, _⟩ := hm1.form
  have HPE : Hid (kidsOf b c2 p = [] → consPlus (7, c2, c3, (p : Int), c5, 0) (kidsOf b c2 p) (splitsOf b) = [ofC (7, c2, c3, (p : Int), c5, 0) 3 c2 c3, ofC (7, c2, c3, (p : Int), c5, 0) 6 c2 c3]) := Lib.hid fun e => by rw [e]; exact plus_lone _ _
  have HLN := Lib.hid (kids_lone (b := b) (c2 := c2) (p := p) hent)
  have HKD := Lib.hid (show kidsOf b c2 p = (if 1 ≤ c2 ∧ c2 ≤ (b.ents.length : Int) then (accIds b.ents.length).filter (fun i => stkUp b.stakes i p == c2) else []) from rfl)
  generalize hkids : kidsOf b c2 p = kids at *
  generalize consPlus (7, c2, c3, (p : Int), c5, 0) kids (splitsOf b) = pl at *
  unfold rcpV Rcp.none
  simp only [List.length_nil]
  have hm1' := hm1.none (P' := fun g => g ≠ z + 1)
  have tA := Tch.alloc (fun _ => False) w6 (.cells #[.int .i64 0, .int .i64 0, .slice P1 pl.length k1, .slice M1 0 d1, .int .i64 0, .int .i64 0, .int .i64 0, .int .i64 0, .int .i64 0, .int .i64 0, .bool false, .int .i64 0, .int .i64 0, .bool false] 46)
  have bX := Blk.new w6 46 #[.int .i64 0, .int .i64 0, .slice P1 pl.length k1, .slice M1 0 d1, .int .i64 0, .int .i64 0, .int .i64 0, .int .i64 0, .int .i64 0, .int .i64 0, .bool false, .int .i64 0, .int .i64 0, .bool false]
  have tA6 := tS6.trans (tA.mono fun i _ h => h.elim)
  have ttA := tt6.trans tA
  have hCA := hC6.keep tA id
  have hOA := hO6.keep tA id
  have hpA := hp1.keep tA
  have hmA := hm1'.keep tA
  have hszA : (w6.alloc (.cells #[.int .i64 0, .int .i64 0, .slice P1 pl.length k1, .slice M1 0 d1, .int .i64 0, .int .i64 0, .int .i64 0, .int .i64 0, .int .i64 0, .int .i64 0, .bool false, .int .i64 0, .int .i64 0, .bool false] 46)).heap.size = w6.heap.size + 1 := by simp
  clear hp1' hp1 hm1 hm1' hC6 hO6 tS6 tt6 tA hkids
  go_wp2_with (refine wpList_store_cell rfl _ _ _ rfl (z + 1) 0 (.int .i64 6) (by rfl) (by rfl) rfl (by rfl) hCA (by simp) ?_; refine Hid.out ?_)
  refine Lib.hid ?_
  intro w7 hC7 ts7
  (try simp only [List.setIfInBounds_toArray, List.set_cons_succ, List.set_cons_zero] at hC7)
  generalize w6.alloc _ = W6 at *
  generalize hy1e : w6.heap.size = y1 at *
  have HY1 := Lib.hid hy1e
  clear hy1e
  have hp7 := Row.keepTo (P' := fun _ => True) hpA ts7 (fun g _ hg => ⟨hg, trivial⟩)
  have hm7 := Row.keepTo (P' := fun _ => True) hmA ts7 (fun g _ hg => ⟨hg, trivial⟩)
  have bX7 := bX.keep ts7 (by omega)
  have hO7 := hOA.keep ts7 (by omega)
  have tt7 := ttA.trans' ts7 (fun i hi => .inr (by have hi : i = z + 1 := hi; have := HZW.out; omega))
  obtain ⟨us7, hV7⟩ := hFar.view hV (tA6.trans ts7) (fun g hg => by have hg : g = z + 1 := hg; omega)
  have q0 : w7.cell? ⟨z + 1, 0, none⟩ = some (.int .i64 6) := hC7.cell 0
  have q1 : w7.cell? ⟨z + 1, 1, none⟩ = some (.int .i64 c2) := hC7.cell 1
  have q2 : w7.cell? ⟨z + 1, 2, none⟩ = some (.int .i64 c3) := hC7.cell 2
  have q3 : w7.cell? ⟨z + 1, 3, none⟩ = some (.int .i64 (p : Int)) := hC7.cell 3
  have q4 : w7.cell? ⟨z + 1, 4, none⟩ = some (.int .i64 c5) := hC7.cell 4
  have q5 : w7.cell? ⟨z + 1, 5, none⟩ = some (.int .i64 0) := hC7.cell 5
  have HEL := Lib.hid (elimrec_any hV7 hn hpo HOK.out 6 c2 c3 (p : Int) c5 0)
  rw [HM67.out] at HEL
  clear hV hFar hCA hOA hpA hmA bX ttA tA6 ts7 HM67 HOK
  go_wp2_with fail
  refine HEL.out.mono ?_
  rintro _ w8 ⟨v2, R2, rfl, hr2, t8, hlone⟩
  have HLO := Lib.hid (hlone p rfl)
  obtain ⟨p2, m2, rfl, hp2, hm2⟩ := hr2
  obtain ⟨P2, k2, rfl, _, _⟩ := hp2.form
  obtain ⟨M2, d2, rfl, _, _⟩ := hm2.form
  obtain ⟨⟨rb1, rb2⟩, pl2, mi2, ⟨s1, s2, s3, s4, s5, s6⟩, rt, ⟨r1, r2⟩, hs⟩ := R2
  unfold rcpV
  simp only at HLO ⊢
  have tB := Tch.alloc (fun _ => False) w8 (.cells #[.int .i64 rb1, .int .i64 rb2, .slice P2 pl2.length k2, .slice M2 mi2.length d2, .int .i64 s1, .int .i64 s2, .int .i64 s3, .int .i64 s4, .int .i64 s5, .int .i64 s6, .bool rt, .int .i64 r1, .int .i64 r2, .bool hs] 46)
  have bY := Blk.new w8 46 #[.int .i64 rb1, .int .i64 rb2, .slice P2 pl2.length k2, .slice M2 mi2.length d2, .int .i64 s1, .int .i64 s2, .int .i64 s3, .int .i64 s4, .int .i64 s5, .int .i64 s6, .bool rt, .int .i64 r1, .int .i64 r2, .bool hs]
  have t8B := t8.trans tB
  have ttB := tt7.trans t8B
  have hCB := hC7.keep t8B id
  have hOB := hO7.keep t8B id
  have bXB := bX7.keep t8B id
  have hpB := hp7.keep t8B
  have hmB := hm7.keep t8B
  have hVB := hV7.keep t8B
  have hp2B := hp2.keep tB
  have hm2B := hm2.keep tB
  obtain ⟨gf, hgf, hFB⟩ := hVB.forests p hp
  have HFO := Lib.hid (vwforest_q hVB (p : Int))
  have HCH := Lib.hid (fchildren_any hFB h40 c2)
  rw [← HKD.out] at HCH
  have x3 : (w8.alloc (.cells #[.int .i64 rb1, .int .i64 rb2, .slice P2 pl2.length k2, .slice M2 mi2.length d2, .int .i64 s1, .int .i64 s2, .int .i64 s3, .int .i64 s4, .int .i64 s5, .int .i64 s6, .bool rt, .int .i64 r1, .int .i64 r2, .bool hs] 46)).cell? ⟨z + 1, 3, none⟩ = some (.int .i64 (p : Int)) := hCB.cell 3
  have x1 : (w8.alloc (.cells #[.int .i64 rb1, .int .i64 rb2, .slice P2 pl2.length k2, .slice M2 mi2.length d2, .int .i64 s1, .int .i64 s2, .int .i64 s3, .int .i64 s4, .int .i64 s5, .int .i64 s6, .bool rt, .int .i64 r1, .int .i64 r2, .bool hs] 46)).cell? ⟨z + 1, 1, none⟩ = some (.int .i64 c2) := hCB.cell 1
  have hszB : w8.heap.size < (w8.alloc (.cells #[.int .i64 rb1, .int .i64 rb2, .slice P2 pl2.length k2, .slice M2 mi2.length d2, .int .i64 s1, .int .i64 s2, .int .i64 s3, .int .i64 s4, .int .i64 s5, .int .i64 s6, .bool rt, .int .i64 r1, .int .i64 r2, .bool hs] 46)).heap.size := by simp
  clear hp2 hm2 hp7 hm7 bX7 hO7 hC7 hCB hV7 hVB HEL tt7 t8 tB t8B hlone q0 q1 q2 q3 q4 q5 HKD
  go_wp2_with fail
  generalize w8.alloc _ = W8 at *
  generalize hy2e : w8.heap.size = y2 at *
  have HY2 := Lib.hid hy2e
  clear hy2e
  refine HFO.out.mono ?_
  rintro _ _ ⟨q, rfl, rfl, hq⟩
  obtain rfl := hq p gf rfl hp hgf
  clear HFO hq hgf x3
  go_wp2_with fail
  refine HCH.out.mono ?_
  rintro _ w9 ⟨u9, rfl, hO9⟩
  obtain ⟨U9, cu9, rfl, _, _⟩ := hO9.form
  have t9 := hO9.tch
  have tt9 := ttB.trans t9
  have hkl9 : (kids.length : Int) ≤ 40 := by omega
  have hOb := hOB.keep t9 id
  have bX9 := bXB.keep t9 id
  have bY9 := bY.keep t9 id
  have hp9 := hpB.keep t9
  have hm9 := hmB.keep t9
  have hp29 := hp2B.keep t9
  have hm29 := hm2B.keep t9
  have hs9 : y2 < w9.heap.size := Nat.lt_of_lt_of_le hszB t9.size
  clear HCH hO9 hOB bXB bY hpB hmB hp2B hm2B ttB t9 x1 hFB hszB
  by_cases hk0 : kids.length = 0
  rotate_left
  · have hk0' : (0 : Int) < (kids.length : Int) := by omega
    clear hk0 hOb bX9 bY9 hp9 hm9 hp29 hm29 HLO HPE HLN
    go_wp2_with fail
    refine (awake36_any _).mono ?_
    rintro _ wz ⟨rfl, tz⟩
    go_wp2
    (try rw [Exit.noGoto_ret])
    go_ret
    exact ⟨rfl, tt9.trans tz⟩
  obtain rfl : kids = [] := List.eq_nil_of_length_eq_zero hk0
  have hR2 := HLO.out (HLN.out rfl)
  have hpe := HPE.out rfl
  injection hR2 with h1 h2 h3 h4 h5 h6 h7
  injection h1 with h1 h1'
  injection h6 with h6 h6'
  injection h4 with h4 h8
  injection h8 with h8 h9
  injection h9 with h9 h10
  injection h10 with h10 h11
  injection h11 with h11 h12
  subst h1 h1' h2 h3 h4 h8 h9 h10 h11 h12 h5 h6 h6' h7 hpe
  simp only [List.length_nil, List.length_cons, Nat.zero_add, Nat.reduceAdd] at hp9 hm9 hp29 hm29 bX9 bY9 ⊢
  clear HLO HPE HLN hk0 hpl2 hkl hsl hkl2
  have xx0 : w9.cell? ⟨y1, 0, none⟩ = some (.int .i64 0) := bX9.cell 0
  have xx1 : w9.cell? ⟨y1, 1, none⟩ = some (.int .i64 0) := bX9.cell 1
  have xx2 : w9.cell? ⟨y1, 2, none⟩ = some (.slice P1 2 k1) := bX9.cell 2
  have xx3 : w9.cell? ⟨y1, 3, none⟩ = some (.slice M1 0 d1) := bX9.cell 3
  have xx4 : w9.cell? ⟨y1, 4, none⟩ = some (.int .i64 0) := bX9.cell 4
  have xx5 : w9.cell? ⟨y1, 5, none⟩ = some (.int .i64 0) := bX9.cell 5
  have xx6 : w9.cell? ⟨y1, 6, none⟩ = some (.int .i64 0) := bX9.cell 6
  have xx7 : w9.cell? ⟨y1, 7, none⟩ = some (.int .i64 0) := bX9.cell 7
  have xx8 : w9.cell? ⟨y1, 8, none⟩ = some (.int .i64 0) := bX9.cell 8
  have xx9 : w9.cell? ⟨y1, 9, none⟩ = some (.int .i64 0) := bX9.cell 9
  have xx10 : w9.cell? ⟨y1, 10, none⟩ = some (.bool false) := bX9.cell 10
  have xx11 : w9.cell? ⟨y1, 11, none⟩ = some (.int .i64 0) := bX9.cell 11
  have xx12 : w9.cell? ⟨y1, 12, none⟩ = some (.int .i64 0) := bX9.cell 12
  have xx13 : w9.cell? ⟨y1, 13, none⟩ = some (.bool false) := bX9.cell 13
  have yy0 : w9.cell? ⟨y2, 0, none⟩ = some (.int .i64 0) := bY9.cell 0
  have yy1 : w9.cell? ⟨y2, 1, none⟩ = some (.int .i64 0) := bY9.cell 1
  have yy2 : w9.cell? ⟨y2, 2, none⟩ = some (.slice P2 0 k2) := bY9.cell 2
  have yy3 : w9.cell? ⟨y2, 3, none⟩ = some (.slice M2 0 d2) := bY9.cell 3
  have yy4 : w9.cell? ⟨y2, 4, none⟩ = some (.int .i64 0) := bY9.cell 4
  have yy5 : w9.cell? ⟨y2, 5, none⟩ = some (.int .i64 0) := bY9.cell 5
  have yy6 : w9.cell? ⟨y2, 6, none⟩ = some (.int .i64 0) := bY9.cell 6
  have yy7 : w9.cell? ⟨y2, 7, none⟩ = some (.int .i64 0) := bY9.cell 7
  have yy8 : w9.cell? ⟨y2, 8, none⟩ = some (.int .i64 0) := bY9.cell 8
  have yy9 : w9.cell? ⟨y2, 9, none⟩ = some (.int .i64 0) := bY9.cell 9
  have yy10 : w9.cell? ⟨y2, 10, none⟩ = some (.bool false) := bY9.cell 10
  have yy11 : w9.cell? ⟨y2, 11, none⟩ = some (.int .i64 0) := bY9.cell 11
  have yy12 : w9.cell? ⟨y2, 12, none⟩ = some (.int .i64 0) := bY9.cell 12
  have yy13 : w9.cell? ⟨y2, 13, none⟩ = some (.bool false) := bY9.cell 13
  have hRX : RcpIs w9 (.agg #[.int .i64 0, .int .i64 0, .slice P1 2 k1, .slice M1 0 d1, .int .i64 0, .int .i64 0, .int .i64 0, .int .i64 0, .int .i64 0, .int .i64 0, .bool false, .int .i64 0, .int .i64 0, .bool false]) { Rcp.none with plus := [ofC (7, c2, c3, (p : Int), c5, 0) 3 c2 c3, ofC (7, c2, c3, (p : Int), c5, 0) 6 c2 c3] } := ⟨_, _, rfl, hp9, hm9⟩
  have hRY : RcpIs w9 (.agg #[.int .i64 0, .int .i64 0, .slice P2 0 k2, .slice M2 0 d2, .int .i64 0, .int .i64 0, .int .i64 0, .int .i64 0, .int .i64 0, .int .i64 0, .bool false, .int .i64 0, .int .i64 0, .bool false]) Rcp.none := ⟨_, _, rfl, hp29, hm29⟩
  have HRY := Lib.hid (reads_any hRY (by simp [Rcp.none]))
  rw [reads_none] at HRY
  clear hp9 hm9 hp29 hm29
  go_wp2_with fail
  refine HRY.out.mono ?_
  rintro _ w10 ⟨u10, rfl, hr10, t10⟩
  obtain ⟨U10, cu10, rfl, _, _⟩ := hr10.form
  simp only [List.length_nil]
  have hRX10 := hRX.keep t10
  have HRX := Lib.hid (reads_any hRX10 (by simp [Rcp.none]))
  rw [reads_two] at HRX
  have bX10 := bX9.keep t10 id
  clear xx0 xx1 xx2 xx3 xx4 xx5 xx6 xx7 xx8 xx9 xx10 xx11 xx12 xx13 hr10 HRY
  have xx0 : w10.cell? ⟨y1, 0, none⟩ = some (.int .i64 0) := bX10.cell 0
  have xx1 : w10.cell? ⟨y1, 1, none⟩ = some (.int .i64 0) := bX10.cell 1
  have xx2 : w10.cell? ⟨y1, 2, none⟩ = some (.slice P1 2 k1) := bX10.cell 2
  have xx3 : w10.cell? ⟨y1, 3, none⟩ = some (.slice M1 0 d1) := bX10.cell 3
  have xx4 : w10.cell? ⟨y1, 4, none⟩ = some (.int .i64 0) := bX10.cell 4
  have xx5 : w10.cell? ⟨y1, 5, none⟩ = some (.int .i64 0) := bX10.cell 5
  have xx6 : w10.cell? ⟨y1, 6, none⟩ = some (.int .i64 0) := bX10.cell 6
  have xx7 : w10.cell? ⟨y1, 7, none⟩ = some (.int .i64 0) := bX10.cell 7
  have xx8 : w10.cell? ⟨y1, 8, none⟩ = some (.int .i64 0) := bX10.cell 8
  have xx9 : w10.cell? ⟨y1, 9, none⟩ = some (.int .i64 0) := bX10.cell 9
  have xx10 : w10.cell? ⟨y1, 10, none⟩ = some (.bool false) := bX10.cell 10
  have xx11 : w10.cell? ⟨y1, 11, none⟩ = some (.int .i64 0) := bX10.cell 11
  have xx12 : w10.cell? ⟨y1, 12, none⟩ = some (.int .i64 0) := bX10.cell 12
  have xx13 : w10.cell? ⟨y1, 13, none⟩ = some (.bool false) := bX10.cell 13
  go_wp2_with fail
  refine HRX.out.mono ?_
  rintro _ w11 ⟨u11, rfl, hr11, t11⟩
  obtain ⟨U11, cu11, rfl, _, _⟩ := hr11.form
  simp only [List.length_nil, List.length_cons, Nat.zero_add, Nat.reduceAdd]
  have t12 := t10.trans t11
  have bX11 := bX10.keep t11 id
  have bY11 := bY9.keep t12 id
  have hO11 := hOb.keep t12 id
  have hRX11 := hRX10.keep t11
  have hRY11 := hRY.keep t12
  have tt11 := tt9.trans t12
  have hs11 : y2 < w11.heap.size := Nat.lt_of_lt_of_le hs9 t12.size
  clear xx0 xx1 xx2 xx3 xx4 xx5 xx6 xx7 xx8 xx9 xx10 xx11 xx12 xx13 yy0 yy1 yy2 yy3 yy4 yy5 yy6 yy7 yy8 yy9 yy10 yy11 yy12 yy13 hr11 HRX bX10 bX9 bY9 hOb hRX hRX10 hRY t10 t11 t12 hs9 tt9
  have oo0 : w11.cell? ⟨z + 2, 0, none⟩ = some (.int .i64 o1) := hO11.cell 0
  have oo1 : w11.cell? ⟨z + 2, 1, none⟩ = some (.int .i64 o2) := hO11.cell 1
  have tC := Tch.alloc (fun _ => False) w11 (.cells #[.int .i64 0, .int .i64 0] 34)
  have bV := Blk.new w11 34 #[.int .i64 0, .int .i64 0]
  have bX12 := bX11.keep tC id
  have bY12 := bY11.keep tC id
  have hO12 := hO11.keep tC id
  have hRX12 := hRX11.keep tC
  have hRY12 := hRY11.keep tC
  have ttC := tt11.trans tC
  have hlX := bX11.lt
  have hlY := bY11.lt
  have hlO := hO11.lt
  have HP2 := Lib.hid (eval_two (7, c2, c3, (p : Int), c5, 0) c2 c3 (o := (o1, o2)) HO64.out)
  have HI0 : Hid (Vl64 (o1, o2)) := Lib.hid HO64.out
  by_cases ho2 : o2 = 0
  · subst ho2
    have hp0e : plainV (o1, 0) = (o1, 0) := rfl
    rw [hp0e] at HP2
    clear hp0e
    have bVr := Blk.new w11 34 #[.int .i64 o1, .int .i64 0]
    have tD := Tch.alloc (fun _ => False) w11 (.cells #[.int .i64 o1, .int .i64 0] 34)
    have bXr := bX11.keep tD id
    have bYr := bY11.keep tD id
    have hOr := hO11.keep tD id
    have hRXr := hRX11.keep tD
    have hRYr := hRY11.keep tD
    have ttr := tt11.trans tD
    have pp1 : (w11.alloc (.cells #[.int .i64 o1, .int .i64 0] 34)).cell? ⟨z + 2, 1, none⟩ = some (.int .i64 0) := hOr.cell 1
    generalize hgv : w11.heap.size = gv at *
    clear bX11 bY11 hO11 hRX11 hRY11 tD tt11 bV bX12 bY12 hO12 hRX12 hRY12 ttC tC
    have XX0 := within_cell (F := fun _ => False) (show (w11.alloc (.cells #[.int .i64 o1, .int .i64 0] 34)).cell? ⟨y1, 0, none⟩ = some (.int .i64 0) from bXr.cell 0) id
    have XX1 := within_cell (F := fun _ => False) (show (w11.alloc (.cells #[.int .i64 o1, .int .i64 0] 34)).cell? ⟨y1, 1, none⟩ = some (.int .i64 0) from bXr.cell 1) id
    have XX2 := within_cell (F := fun _ => False) (show (w11.alloc (.cells #[.int .i64 o1, .int .i64 0] 34)).cell? ⟨y1, 2, none⟩ = some (.slice P1 2 k1) from bXr.cell 2) id
    have XX3 := within_cell (F := fun _ => False) (show (w11.alloc (.cells #[.int .i64 o1, .int .i64 0] 34)).cell? ⟨y1, 3, none⟩ = some (.slice M1 0 d1) from bXr.cell 3) id
    have XX4 := within_cell (F := fun _ => False) (show (w11.alloc (.cells #[.int .i64 o1, .int .i64 0] 34)).cell? ⟨y1, 4, none⟩ = some (.int .i64 0) from bXr.cell 4) id
    have XX5 := within_cell (F := fun _ => False) (show (w11.alloc (.cells #[.int .i64 o1, .int .i64 0] 34)).cell? ⟨y1, 5, none⟩ = some (.int .i64 0) from bXr.cell 5) id
    have XX6 := within_cell (F := fun _ => False) (show (w11.alloc (.cells #[.int .i64 o1, .int .i64 0] 34)).cell? ⟨y1, 6, none⟩ = some (.int .i64 0) from bXr.cell 6) id
    have XX7 := within_cell (F := fun _ => False) (show (w11.alloc (.cells #[.int .i64 o1, .int .i64 0] 34)).cell? ⟨y1, 7, none⟩ = some (.int .i64 0) from bXr.cell 7) id
    have XX8 := within_cell (F := fun _ => False) (show (w11.alloc (.cells #[.int .i64 o1, .int .i64 0] 34)).cell? ⟨y1, 8, none⟩ = some (.int .i64 0) from bXr.cell 8) id
    have XX9 := within_cell (F := fun _ => False) (show (w11.alloc (.cells #[.int .i64 o1, .int .i64 0] 34)).cell? ⟨y1, 9, none⟩ = some (.int .i64 0) from bXr.cell 9) id
    have XX10 := within_cell (F := fun _ => False) (show (w11.alloc (.cells #[.int .i64 o1, .int .i64 0] 34)).cell? ⟨y1, 10, none⟩ = some (.bool false) from bXr.cell 10) id
    have XX11 := within_cell (F := fun _ => False) (show (w11.alloc (.cells #[.int .i64 o1, .int .i64 0] 34)).cell? ⟨y1, 11, none⟩ = some (.int .i64 0) from bXr.cell 11) id
    have XX12 := within_cell (F := fun _ => False) (show (w11.alloc (.cells #[.int .i64 o1, .int .i64 0] 34)).cell? ⟨y1, 12, none⟩ = some (.int .i64 0) from bXr.cell 12) id
    have XX13 := within_cell (F := fun _ => False) (show (w11.alloc (.cells #[.int .i64 o1, .int .i64 0] 34)).cell? ⟨y1, 13, none⟩ = some (.bool false) from bXr.cell 13) id
    have YY0 := within_cell (F := fun _ => False) (show (w11.alloc (.cells #[.int .i64 o1, .int .i64 0] 34)).cell? ⟨y2, 0, none⟩ = some (.int .i64 0) from bYr.cell 0) id
    have YY1 := within_cell (F := fun _ => False) (show (w11.alloc (.cells #[.int .i64 o1, .int .i64 0] 34)).cell? ⟨y2, 1, none⟩ = some (.int .i64 0) from bYr.cell 1) id
    have YY2 := within_cell (F := fun _ => False) (show (w11.alloc (.cells #[.int .i64 o1, .int .i64 0] 34)).cell? ⟨y2, 2, none⟩ = some (.slice P2 0 k2) from bYr.cell 2) id
    have YY3 := within_cell (F := fun _ => False) (show (w11.alloc (.cells #[.int .i64 o1, .int .i64 0] 34)).cell? ⟨y2, 3, none⟩ = some (.slice M2 0 d2) from bYr.cell 3) id
    have YY4 := within_cell (F := fun _ => False) (show (w11.alloc (.cells #[.int .i64 o1, .int .i64 0] 34)).cell? ⟨y2, 4, none⟩ = some (.int .i64 0) from bYr.cell 4) id
    have YY5 := within_cell (F := fun _ => False) (show (w11.alloc (.cells #[.int .i64 o1, .int .i64 0] 34)).cell? ⟨y2, 5, none⟩ = some (.int .i64 0) from bYr.cell 5) id
    have YY6 := within_cell (F := fun _ => False) (show (w11.alloc (.cells #[.int .i64 o1, .int .i64 0] 34)).cell? ⟨y2, 6, none⟩ = some (.int .i64 0) from bYr.cell 6) id
    have YY7 := within_cell (F := fun _ => False) (show (w11.alloc (.cells #[.int .i64 o1, .int .i64 0] 34)).cell? ⟨y2, 7, none⟩ = some (.int .i64 0) from bYr.cell 7) id
    have YY8 := within_cell (F := fun _ => False) (show (w11.alloc (.cells #[.int .i64 o1, .int .i64 0] 34)).cell? ⟨y2, 8, none⟩ = some (.int .i64 0) from bYr.cell 8) id
    have YY9 := within_cell (F := fun _ => False) (show (w11.alloc (.cells #[.int .i64 o1, .int .i64 0] 34)).cell? ⟨y2, 9, none⟩ = some (.int .i64 0) from bYr.cell 9) id
    have YY10 := within_cell (F := fun _ => False) (show (w11.alloc (.cells #[.int .i64 o1, .int .i64 0] 34)).cell? ⟨y2, 10, none⟩ = some (.bool false) from bYr.cell 10) id
    have YY11 := within_cell (F := fun _ => False) (show (w11.alloc (.cells #[.int .i64 o1, .int .i64 0] 34)).cell? ⟨y2, 11, none⟩ = some (.int .i64 0) from bYr.cell 11) id
    have YY12 := within_cell (F := fun _ => False) (show (w11.alloc (.cells #[.int .i64 o1, .int .i64 0] 34)).cell? ⟨y2, 12, none⟩ = some (.int .i64 0) from bYr.cell 12) id
    have YY13 := within_cell (F := fun _ => False) (show (w11.alloc (.cells #[.int .i64 o1, .int .i64 0] 34)).cell? ⟨y2, 13, none⟩ = some (.bool false) from bYr.cell 13) id
    have OO0 := within_cell (F := fun _ => False) (show (w11.alloc (.cells #[.int .i64 o1, .int .i64 0] 34)).cell? ⟨z + 2, 0, none⟩ = some (.int .i64 o1) from hOr.cell 0) id
    have OO1 := within_cell (F := fun _ => False) (show (w11.alloc (.cells #[.int .i64 o1, .int .i64 0] 34)).cell? ⟨z + 2, 1, none⟩ = some (.int .i64 0) from hOr.cell 1) id
    have PP0 := within_cell (F := fun _ => False) (show (w11.alloc (.cells #[.int .i64 o1, .int .i64 0] 34)).cell? ⟨gv, 0, none⟩ = some (.int .i64 o1) from bVr.cell 0) id
    have PP1 := within_cell (F := fun _ => False) (show (w11.alloc (.cells #[.int .i64 o1, .int .i64 0] 34)).cell? ⟨gv, 1, none⟩ = some (.int .i64 0) from bVr.cell 1) id
    have HEY := Lib.hid (fun (w' : World) (t : Tch (fun _ => False) (w11.alloc (.cells #[.int .i64 o1, .int .i64 0] 34)) w') => eval_any (hRYr.keep t) (u := .slice none 0 0) (ins := []) (Row.nil _ _ _) (fun x hx => by cases hx) (by simp [Rcp.none, Vl64, I64]) (by simp [Rcp.none]) (by simp) (by simp [Rcp.none]))
    rw [eval_none] at HEY
    have HEX := Lib.hid (fun (w' : World) (t : Tch (fun _ => False) (w11.alloc (.cells #[.int .i64 o1, .int .i64 0] 34)) w') (u : Value) (hu : RowsOf val2 2 (fun _ => True) w' u [(o1, 0), (0, 0)]) => eval_any (hRXr.keep t) hu (fun x hx => by
      rcases List.mem_cons.1 hx with rfl | hx
      · exact HI0.out
      · obtain rfl := List.mem_singleton.1 hx
        simp [Vl64, I64]) (by simp [Rcp.none, Vl64, I64]) (by simp [Rcp.none]) (by simp) (by simp [Rcp.none]))
    rw [HP2.out] at HEX
    unfold vlV at HEX HEY
    simp only at HEX HEY
    obtain ⟨V1, hV1⟩ : ∃ V : Value → World → Prop, V = fun u w' => RowsOf val2 2 (fun _ => True) w' u [(o1, 0), (0, 0)] := ⟨_, rfl⟩
    have HV1 := Lib.hid hV1
    clear hV1 HI0 HO64 HP2 hRXr hRYr bXr bYr hOr bVr
    go_wp2_with fail
    refine wp_region_touch (fun _ => False) [] 7 [(3, .inl (.agg #[.int .i64 0, .int .i64 0])), (4, .inr V1), (5, .inl (.agg #[.int .i64 o1, .int .i64 0]))] [] (by kernel_rfl) rfl (by kernel_rfl) rfl (fun d _ _ _ _ h => by cases d <;> exact h) ?_ ?_
    · rw [HV1.out]
      exact ⟨fun u a b hr h => h.keep hr, trivial⟩
    intro bef ops hbef hops
    have hb1 : (bef.getD 5 0).testBit 4 = true := by rw [hbef]; kernel_rfl
    clear hbef
    subst hops
    simp only [List.take_succ_cons, List.take_zero, List.drop_succ_cons, List.drop_zero]
    iterate 3 (refine t_det (by rfl) (by rfl) (by rfl) (by rfl) (fun K hK => ?_); go_big_quiet_op; (first | refine hK _ ?_ | refine ⟨_, fun _ => rfl, hK _ ?_⟩); clear hK K; (try simp only [Act.put, List.setIfInBounds_toArray, List.set_cons_succ, List.set_cons_zero]))
    refine t_fix (.agg #[.int .i64 0, .int .i64 0]) (by rfl) (by rfl) (fun wa hr hf => ?_) ?_
    · refine yields_of_wp (d := 95) rfl (by simp) (fun K hK => ?_)
      go_step
      refine (HEY.out wa ((Tch.drew _ (w11.alloc (.cells #[.int .i64 o1, .int .i64 0] 34))).trans hr)).mono ?_
      rintro _ wb ⟨rfl, t2⟩
      exact hK _ _ ⟨⟨rfl, t2⟩, newAt_no⟩
    simp only [Act.put, List.setIfInBounds_toArray, List.set_cons_succ, List.set_cons_zero]
    refine t_loose (by rfl) (by rfl) (fun wa hr hf => ?_) (fun d1 => ?_)
    · refine yields_of_wp (d := 96) rfl (by simp) (fun K hK => ?_)
      go_step
      refine hK _ _ ⟨⟨?_, Tch.alloc _ _ _⟩, newAt_no⟩
      rw [HV1.out]
      exact Row.blk (Blk.new _ _ _) trivial rfl (by decide)
    simp only [Act.put, List.setIfInBounds_toArray, List.set_cons_succ, List.set_cons_zero]
    refine t_fix (.agg #[.int .i64 o1, .int .i64 0]) (by rfl) (by rfl) (fun wa hr hf => ?_) ?_
    · have hv1 := hf (4, fun w' => V1 d1 w') (by simp) hb1
      simp only at hv1
      rw [HV1.out] at hv1
      refine yields_of_wp (d := 97) rfl (by simp) (fun K hK => ?_)
      go_step
      refine (HEX.out wa ((Tch.drew _ (w11.alloc (.cells #[.int .i64 o1, .int .i64 0] 34))).trans hr) _ hv1).mono ?_
      rintro _ wb ⟨rfl, t2⟩
      exact hK _ _ ⟨⟨rfl, t2⟩, newAt_no⟩
    simp only [Act.put, List.setIfInBounds_toArray, List.set_cons_succ, List.set_cons_zero]
    iterate 1 (refine t_det (by rfl) (by rfl) (by rfl) (by rfl) (fun K hK => ?_); go_big_quiet_op; (first | refine hK _ ?_ | refine ⟨_, fun _ => rfl, hK _ ?_⟩); clear hK K; (try simp only [Act.put, List.setIfInBounds_toArray, List.set_cons_succ, List.set_cons_zero]))
    refine t_nil ?_
    intro wa hr hp9 hap
    have t6 := (Tch.drew (fun _ => False) (w11.alloc (.cells #[.int .i64 o1, .int .i64 0] 34))).trans hr
    have tt6 := ttr.trans t6
    clear hap hp9 hr t6 hb1 HV1 HEX HEY XX0 XX1 XX2 XX3 XX4 XX5 XX6 XX7 XX8 XX9 XX10 XX11 XX12 XX13 YY0 YY1 YY2 YY3 YY4 YY5 YY6 YY7 YY8 YY9 YY10 YY11 YY12 YY13 OO0 OO1 PP0 PP1
    go_wp2_with fail
    refine (awake36_any _).mono ?_
    rintro _ wz ⟨rfl, tz⟩
    go_wp2
    (try rw [Exit.noGoto_ret])
    go_ret
    exact ⟨rfl, tt6.trans tz⟩
  have ho2' : (o2 != 0) = true := by simpa using ho2
  have hp0e : plainV (o1, o2) = (0, o2) := if_neg ho2
  rw [hp0e] at HP2
  clear hp0e ho2
  have bV0 := Blk.new w11 34 #[.int .i64 o1, .int .i64 o2]
  have tD := Tch.alloc (fun _ => False) w11 (.cells #[.int .i64 o1, .int .i64 o2] 34)
  have hOs := hO11.keep tD id
  have pp1 : (w11.alloc (.cells #[.int .i64 o1, .int .i64 o2] 34)).cell? ⟨z + 2, 1, none⟩ = some (.int .i64 o2) := hOs.cell 1
  clear bV bX12 bY12 hO12 hRX12 hRY12 ttC tC hOs
  go_wp2_with (refine wpList_store_blk rfl _ _ _ rfl w11.heap.size #[.int .i64 0, .int .i64 o2] (by rfl) (by rfl) bV0 (by kernel_rfl) rfl (by simp [Value.oneCell']) ?_; refine Hid.out ?_)
  refine Lib.hid ?_
  intro w12 bVr tE
  have hXlt := bX11.lt
  have tF := (tD.mono (F' := fun g => g = w11.heap.size) fun i _ h => h.elim).trans tE
  have hRXr := hRX11.far tF (fun g hg e => by have e : g = w11.heap.size := e; omega)
  have hRYr := hRY11.far tF (fun g hg e => by have e : g = w11.heap.size := e; omega)
  have bXr := bX11.keep tF (by omega)
  have bYr := bY11.keep tF (by omega)
  have hOr := hO11.keep tF (by omega)
  have ttr := tt11.trans' tF (fun i hi => .inr (by have hi : i = w11.heap.size := hi; have := HZW.out; omega))
  generalize hgv : w11.heap.size = gv at *
  clear bX11 bY11 hO11 hRX11 hRY11 tD tt11 tE tF bV0 pp1
  have XX0 := within_cell (F := fun _ => False) (show w12.cell? ⟨y1, 0, none⟩ = some (.int .i64 0) from bXr.cell 0) id
  have XX1 := within_cell (F := fun _ => False) (show w12.cell? ⟨y1, 1, none⟩ = some (.int .i64 0) from bXr.cell 1) id
  have XX2 := within_cell (F := fun _ => False) (show w12.cell? ⟨y1, 2, none⟩ = some (.slice P1 2 k1) from bXr.cell 2) id
  have XX3 := within_cell (F := fun _ => False) (show w12.cell? ⟨y1, 3, none⟩ = some (.slice M1 0 d1) from bXr.cell 3) id
  have XX4 := within_cell (F := fun _ => False) (show w12.cell? ⟨y1, 4, none⟩ = some (.int .i64 0) from bXr.cell 4) id
  have XX5 := within_cell (F := fun _ => False) (show w12.cell? ⟨y1, 5, none⟩ = some (.int .i64 0) from bXr.cell 5) id
  have XX6 := within_cell (F := fun _ => False) (show w12.cell? ⟨y1, 6, none⟩ = some (.int .i64 0) from bXr.cell 6) id
  have XX7 := within_cell (F := fun _ => False) (show w12.cell? ⟨y1, 7, none⟩ = some (.int .i64 0) from bXr.cell 7) id
  have XX8 := within_cell (F := fun _ => False) (show w12.cell? ⟨y1, 8, none⟩ = some (.int .i64 0) from bXr.cell 8) id
  have XX9 := within_cell (F := fun _ => False) (show w12.cell? ⟨y1, 9, none⟩ = some (.int .i64 0) from bXr.cell 9) id
  have XX10 := within_cell (F := fun _ => False) (show w12.cell? ⟨y1, 10, none⟩ = some (.bool false) from bXr.cell 10) id
  have XX11 := within_cell (F := fun _ => False) (show w12.cell? ⟨y1, 11, none⟩ = some (.int .i64 0) from bXr.cell 11) id
  have XX12 := within_cell (F := fun _ => False) (show w12.cell? ⟨y1, 12, none⟩ = some (.int .i64 0) from bXr.cell 12) id
  have XX13 := within_cell (F := fun _ => False) (show w12.cell? ⟨y1, 13, none⟩ = some (.bool false) from bXr.cell 13) id
  have YY0 := within_cell (F := fun _ => False) (show w12.cell? ⟨y2, 0, none⟩ = some (.int .i64 0) from bYr.cell 0) id
  have YY1 := within_cell (F := fun _ => False) (show w12.cell? ⟨y2, 1, none⟩ = some (.int .i64 0) from bYr.cell 1) id
  have YY2 := within_cell (F := fun _ => False) (show w12.cell? ⟨y2, 2, none⟩ = some (.slice P2 0 k2) from bYr.cell 2) id
  have YY3 := within_cell (F := fun _ => False) (show w12.cell? ⟨y2, 3, none⟩ = some (.slice M2 0 d2) from bYr.cell 3) id
  have YY4 := within_cell (F := fun _ => False) (show w12.cell? ⟨y2, 4, none⟩ = some (.int .i64 0) from bYr.cell 4) id
  have YY5 := within_cell (F := fun _ => False) (show w12.cell? ⟨y2, 5, none⟩ = some (.int .i64 0) from bYr.cell 5) id
  have YY6 := within_cell (F := fun _ => False) (show w12.cell? ⟨y2, 6, none⟩ = some (.int .i64 0) from bYr.cell 6) id
  have YY7 := within_cell (F := fun _ => False) (show w12.cell? ⟨y2, 7, none⟩ = some (.int .i64 0) from bYr.cell 7) id
  have YY8 := within_cell (F := fun _ => False) (show w12.cell? ⟨y2, 8, none⟩ = some (.int .i64 0) from bYr.cell 8) id
  have YY9 := within_cell (F := fun _ => False) (show w12.cell? ⟨y2, 9, none⟩ = some (.int .i64 0) from bYr.cell 9) id
  have YY10 := within_cell (F := fun _ => False) (show w12.cell? ⟨y2, 10, none⟩ = some (.bool false) from bYr.cell 10) id
  have YY11 := within_cell (F := fun _ => False) (show w12.cell? ⟨y2, 11, none⟩ = some (.int .i64 0) from bYr.cell 11) id
  have YY12 := within_cell (F := fun _ => False) (show w12.cell? ⟨y2, 12, none⟩ = some (.int .i64 0) from bYr.cell 12) id
  have YY13 := within_cell (F := fun _ => False) (show w12.cell? ⟨y2, 13, none⟩ = some (.bool false) from bYr.cell 13) id
  have OO0 := within_cell (F := fun _ => False) (show w12.cell? ⟨z + 2, 0, none⟩ = some (.int .i64 o1) from hOr.cell 0) id
  have OO1 := within_cell (F := fun _ => False) (show w12.cell? ⟨z + 2, 1, none⟩ = some (.int .i64 o2) from hOr.cell 1) id
  have PP0 := within_cell (F := fun _ => False) (show w12.cell? ⟨gv, 0, none⟩ = some (.int .i64 0) from bVr.cell 0) id
  have PP1 := within_cell (F := fun _ => False) (show w12.cell? ⟨gv, 1, none⟩ = some (.int .i64 o2) from bVr.cell 1) id
  have HEY := Lib.hid (fun (w' : World) (t : Tch (fun _ => False) w12 w') => eval_any (hRYr.keep t) (u := .slice none 0 0) (ins := []) (Row.nil _ _ _) (fun x hx => by cases hx) (by simp [Rcp.none, Vl64, I64]) (by simp [Rcp.none]) (by simp) (by simp [Rcp.none]))
  rw [eval_none] at HEY
  have HEX := Lib.hid (fun (w' : World) (t : Tch (fun _ => False) w12 w') (u : Value) (hu : RowsOf val2 2 (fun _ => True) w' u [(o1, o2), (0, 0)]) => eval_any (hRXr.keep t) hu (fun x hx => by
    rcases List.mem_cons.1 hx with rfl | hx
    · exact HI0.out
    · obtain rfl := List.mem_singleton.1 hx
      simp [Vl64, I64]) (by simp [Rcp.none, Vl64, I64]) (by simp [Rcp.none]) (by simp) (by simp [Rcp.none]))
  rw [HP2.out] at HEX
  unfold vlV at HEX HEY
  simp only at HEX HEY
  obtain ⟨V1, hV1⟩ : ∃ V : Value → World → Prop, V = fun u w' => RowsOf val2 2 (fun _ => True) w' u [(o1, o2), (0, 0)] := ⟨_, rfl⟩
  have HV1 := Lib.hid hV1
  clear hV1 HI0 HO64 HP2 hRXr hRYr bXr bYr hOr bVr
  go_wp2_with fail
  refine wp_region_touch (fun _ => False) [] 7 [(3, .inl (.agg #[.int .i64 0, .int .i64 0])), (4, .inr V1), (5, .inl (.agg #[.int .i64 0, .int .i64 o2]))] [] (by kernel_rfl) rfl (by kernel_rfl) rfl (fun d _ _ _ _ h => by cases d <;> exact h) ?_ ?_
  · rw [HV1.out]
    exact ⟨fun u a b hr h => h.keep hr, trivial⟩
  intro bef ops hbef hops
  have hb1 : (bef.getD 5 0).testBit 4 = true := by rw [hbef]; kernel_rfl
  clear hbef
  subst hops
  simp only [List.take_succ_cons, List.take_zero, List.drop_succ_cons, List.drop_zero]
  iterate 3 (refine t_det (by rfl) (by rfl) (by rfl) (by rfl) (fun K hK => ?_); go_big_quiet_op; (first | refine hK _ ?_ | refine ⟨_, fun _ => rfl, hK _ ?_⟩); clear hK K; (try simp only [Act.put, List.setIfInBounds_toArray, List.set_cons_succ, List.set_cons_zero]))
  refine t_fix (.agg #[.int .i64 0, .int .i64 0]) (by rfl) (by rfl) (fun wa hr hf => ?_) ?_
  · refine yields_of_wp (d := 95) rfl (by simp) (fun K hK => ?_)
    go_step
    refine (HEY.out wa ((Tch.drew _ w12).trans hr)).mono ?_
    rintro _ wb ⟨rfl, t2⟩
    exact hK _ _ ⟨⟨rfl, t2⟩, newAt_no⟩
  simp only [Act.put, List.setIfInBounds_toArray, List.set_cons_succ, List.set_cons_zero]
  refine t_loose (by rfl) (by rfl) (fun wa hr hf => ?_) (fun d1 => ?_)
  · refine yields_of_wp (d := 96) rfl (by simp) (fun K hK => ?_)
    go_step
    refine hK _ _ ⟨⟨?_, Tch.alloc _ _ _⟩, newAt_no⟩
    rw [HV1.out]
    exact Row.blk (Blk.new _ _ _) trivial rfl (by decide)
  simp only [Act.put, List.setIfInBounds_toArray, List.set_cons_succ, List.set_cons_zero]
  refine t_fix (.agg #[.int .i64 0, .int .i64 o2]) (by rfl) (by rfl) (fun wa hr hf => ?_) ?_
  · have hv1 := hf (4, fun w' => V1 d1 w') (by simp) hb1
    simp only at hv1
    rw [HV1.out] at hv1
    refine yields_of_wp (d := 97) rfl (by simp) (fun K hK => ?_)
    go_step
    refine (HEX.out wa ((Tch.drew _ w12).trans hr) _ hv1).mono ?_
    rintro _ wb ⟨rfl, t2⟩
    exact hK _ _ ⟨⟨rfl, t2⟩, newAt_no⟩
  simp only [Act.put, List.setIfInBounds_toArray, List.set_cons_succ, List.set_cons_zero]
  iterate 1 (refine t_det (by rfl) (by rfl) (by rfl) (by rfl) (fun K hK => ?_); go_big_quiet_op; (first | refine hK _ ?_ | refine ⟨_, fun _ => rfl, hK _ ?_⟩); clear hK K; (try simp only [Act.put, List.setIfInBounds_toArray, List.set_cons_succ, List.set_cons_zero]))
  refine t_nil ?_
  intro wa hr hp9 hap
  have t6 := (Tch.drew (fun _ => False) w12).trans hr
  have tt6 := ttr.trans t6
  clear hap hp9 hr t6 hb1 HV1 HEX HEY XX0 XX1 XX2 XX3 XX4 XX5 XX6 XX7 XX8 XX9 XX10 XX11 XX12 XX13 YY0 YY1 YY2 YY3 YY4 YY5 YY6 YY7 YY8 YY9 YY10 YY11 YY12 YY13 OO0 OO1 PP0 PP1
  go_wp2_with fail
  refine (awake36_any _).mono ?_
  rintro _ wz ⟨rfl, tz⟩
  go_wp2
  (try rw [Exit.noGoto_ret])
  go_ret
  exact ⟨rfl, tt6.trans tz⟩
theorem consown_row {w : World} {u v x : Value} (hu : ∃ b, BooksIs (fun _ => True) w u b ∧ Bks64 b) (hv : ∃ c : Rt6, v = cellV c ∧ (I64 c.1 ∧ I64 c.2.1 ∧ I64 c.2.2.1 ∧ I64 c.2.2.2.1 ∧ I64 c.2.2.2.2.1 ∧ I64 c.2.2.2.2.2)) (hx : ∃ o : Vl, x = vlV o ∧ I64 o.1 ∧ I64 o.2) :
    Calls Tryz.prog 3 #[u, v, x] w fun x w' => x = .returned (.bool true) ∧ Tch (fun _ => False) w w' := by
  obtain ⟨b, hb, h64⟩ := hu
  obtain ⟨⟨c1, c2, c3, c4, c5, c6⟩, rfl, _⟩ := hv
  obtain ⟨⟨o1, o2⟩, rfl, ho, _⟩ := hx
  obtain ⟨e, a, s, r, l, n, us, rfl, h⟩ := hb.at
  exact consown_any h h64 c1 c2 c3 c4 c5 c6 o1 o2 ho
end Go.Proofs.YtblenmelciaigaaGreat
