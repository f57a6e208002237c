/-
  LocalBalances: the walk.
-/
import Derived.Test.YtnmogbhmelpbnaaGreatZ22
import Derived.Test.YtnmogbhmelpbnaaGreatZ24
import Derived.Test.YtnmogbhmelpbnaaGreatZ38
import Derived.Test.YtnmogbhmelpbnaaGreatZ37
import Derived.Test.YtnmogbhmelpbnaaGreatZ28
namespace Go.Gk
open Go.RowKit
theorem may_per {b : Bks} {r r' c2 c3 p q c6 : Int} (h : mayOf b (r, c2, c3, p, 0, c6) 1 2 = 0) (hr : r' = 1 ∨ r' = 2) (hq : 0 ≤ q ∧ q ≤ p) : mayOf b (r', c2, c3, q, 0, c6) 1 2 = 0 := by
  unfold mayOf at h ⊢
  by_cases h0 : cellIn (r, c2, c3, p, 0, c6) b.ents.length b.accs.length = 0
  · rw [if_pos h0] at h
    have h1 : cellIn (r', c2, c3, q, 0, c6) b.ents.length b.accs.length = 0 := by
      unfold cellIn at h0 ⊢
      by_cases hc : cellOK (r, c2, c3, p, 0, c6) = true
      · rw [if_pos hc] at h0
        have hc2 : cellOK (r', c2, c3, q, 0, c6) = true := by
          unfold cellOK at hc ⊢
          simp only [Bool.and_eq_true, wi, decide_eq_true_eq, Bool.not_eq_true'] at hc ⊢
          simp only at h
          by_cases hr2 : r < 1 ∨ 2 < r
          · rw [if_pos hr2] at h; cases h
          · have e1 : r = 1 ∨ r = 2 := by omega
            rw [if_pos e1, if_pos e1] at hc
            rw [if_pos hr, if_pos hr]
            have e3 : r ≤ 3 := by omega
            have e4 : r' ≤ 3 := by omega
            rw [if_pos e3] at hc
            rw [if_pos e4]
            refine ⟨⟨⟨⟨⟨⟨by omega, hc.1.1.1.1.1.2⟩, hc.1.1.1.1.2⟩, by omega⟩, by omega⟩, hc.1.2⟩, hc.2⟩
        rw [if_pos hc2]
        exact h0
      · rw [if_neg hc] at h0; cases h0
    rw [if_pos h1]
    simp only at h ⊢
    by_cases hr2 : r < 1 ∨ 2 < r
    · rw [if_pos hr2] at h; cases h
    · rw [if_neg hr2] at h
      rw [if_neg (by omega)]
      exact h
  · rw [if_neg h0] at h; exact absurd h h0
theorem Row.apart {P : Nat → Prop} {w : World} {v : Value} {n size : Nat} {cs : List Value} (h : Row P w v n size cs) {z : Nat} {T : TypeId} {cz : Array Value} (hz : Blk w z T cz) (hne : ∀ o, ¬ ∀ (j : Nat) (u : Value), cs[j]? = some u → cz[o + j]? = some u) : Row (fun g => g ≠ z) w v n size cs := by
  obtain ⟨A, c, rfl, h1, h2, h3, h4, h5⟩ := h
  refine ⟨A, c, rfl, h1, h2, h3, h4, fun hn => ?_⟩
  obtain ⟨g, o, ha, ⟨_, hlt⟩, hc⟩ := h5 hn
  refine ⟨g, o, ha, ⟨fun e => hne o fun j u hu => ?_, hlt⟩, hc⟩
  have h6 := hc j u hu
  rw [e, hz.cell (o + j)] at h6
  exact h6
theorem Row.none {P P' : Nat → Prop} {w : World} {v : Value} {size : Nat} {cs : List Value} (h : Row P w v 0 size cs) : Row P' w v 0 size cs := by
  obtain ⟨A, c, rfl, h1, h2, h3, h4, h5⟩ := h
  exact ⟨A, c, rfl, h1, h2, h3, h4, fun hn => absurd hn (by omega)⟩
theorem bal_apart {c2 c3 q c6 c6' p : Int} : ∀ o, ¬ ∀ (j : Nat) (u : Value), ((localPlus (2, c2, c3, q, 0, c6)).flatMap int6)[j]? = some u → (#[Value.int .i64 2, .int .i64 c2, .int .i64 c3, .int .i64 p, .int .i64 0, .int .i64 c6'] : Array Value)[o + j]? = some u := by
  intro o h
  unfold localPlus at h
  split at h
  · have h9 := h 11 (.int .i64 c6) (by simp [int6])
    have h8 := (Array.getElem?_eq_some_iff.1 h9).1
    simp at h8
    omega
  · have h9 := h 0 (.int .i64 1) (by simp [int6])
    have h5 := h 5 (.int .i64 c6) (by simp [int6])
    have h8 := (Array.getElem?_eq_some_iff.1 h5).1
    simp at h8
    obtain rfl : o = 0 := by omega
    simp at h9
theorem dg_fits {x : Int} (h : x.natAbs ≤ 10000000000 * 9223372036854775808) : (dg x.natAbs).length ≤ 50000 := Nat.le_trans (dg_lenk 97 (by omega)) (by decide)
/-- A recipe of a balance. -/
theorem reads_bal (pl : List Rt6) (h : pl.Nodup) : readsOf { Rcp.none with plus := pl } = pl := by
  unfold readsOf rcpAll
  simp only [Rcp.none, List.append_nil, Bool.false_eq_true, if_false]
  exact uniq_of h
theorem bal_nodup (c2 c3 c6 : Int) (q : Int) : (localPlus (2, c2, c3, q, 0, c6)).Nodup := by
  unfold localPlus
  split <;> simp
theorem bal_first (c2 c3 c6 : Int) (m : Vl) : evalOf { Rcp.none with plus := localPlus (2, c2, c3, 0, 0, c6) } [m] = netOf [(0, 0), m] [] := by
  unfold evalOf
  rw [reads_bal _ (bal_nodup ..), if_pos (by simp [localPlus])]
  have hv : valsOf { Rcp.none with plus := localPlus (2, c2, c3, 0, 0, c6) } [m] (1, c2, c3, 0, 0, c6) = m := by
    unfold valsOf
    rw [reads_bal _ (bal_nodup ..)]
    unfold localPlus
    exact lookF_cons ((1, c2, c3, 0, 0, c6), m) [] (by simp)
  simp [Rcp.none, localPlus] at hv ⊢
  rw [hv]
theorem bal_next (c2 c3 c6 : Int) {q : Int} (hq : 0 < q) (l m : Vl) : evalOf { Rcp.none with plus := localPlus (2, c2, c3, q, 0, c6) } [l, m] = netOf [(0, 0), l, m] [] := by
  have e : localPlus (2, c2, c3, q, 0, c6) = [(2, c2, c3, q - 1, 0, c6), (1, c2, c3, q, 0, c6)] := by
    unfold localPlus
    rw [if_pos hq]; rfl
  unfold evalOf
  rw [reads_bal _ (bal_nodup ..), e, if_pos (by simp)]
  have h1 : valsOf { Rcp.none with plus := [(2, c2, c3, q - 1, 0, c6), (1, c2, c3, q, 0, c6)] } [l, m] (2, c2, c3, q - 1, 0, c6) = l := by
    unfold valsOf
    rw [reads_bal _ (e ▸ bal_nodup ..)]
    exact lookF_cons ((2, c2, c3, q - 1, 0, c6), l) [((1, c2, c3, q, 0, c6), m)] (by simp)
  have h2 : valsOf { Rcp.none with plus := [(2, c2, c3, q - 1, 0, c6), (1, c2, c3, q, 0, c6)] } [l, m] (1, c2, c3, q, 0, c6) = m := by
    unfold valsOf
    rw [reads_bal _ (e ▸ bal_nodup ..)]
    show lookF [((2, c2, c3, q - 1, 0, c6), l), ((1, c2, c3, q, 0, c6), m)] (1, c2, c3, q, 0, c6) = m
    rw [lookF_skip _ _ (by simp)]
    exact lookF_cons ((1, c2, c3, q, 0, c6), m) [] (by simp)
  simp [Rcp.none] at h1 h2 ⊢
  rw [h1, h2]
theorem told2_fits {x : Int} (h : (told2 x).2 = 0) : told2 x = (x, 0) := by
  unfold told2 at h ⊢
  split
  · rfl
  · rename_i h9; rw [if_neg h9] at h; cases h
theorem told2_zero {x y : Int} (h : told2 x = (y, 0)) : y = x ∧ I64 x := by
  unfold told2 at h
  split at h
  · injection h with h; exact ⟨h.symm, by assumption⟩
  · injection h with _ h; cases h
theorem net_first {x r1 : Int} (h : told2 x = (r1, 0)) : netOf [(0, 0), (r1, 0)] [] = told2 (0 + r1) := by
  obtain ⟨rfl, h64⟩ := told2_zero h
  unfold netOf ferr
  simp
theorem net_next (t : Int) {x r1 : Int} (h : told2 x = (r1, 0)) : netOf [(0, 0), (t, 0), (r1, 0)] [] = told2 (t + r1) := by
  obtain ⟨rfl, h64⟩ := told2_zero h
  unfold netOf ferr
  simp
end Go.Gk
namespace Go.Proofs.YtnmogbhmelpbnaaGreat
open Go.RowKit Go.Gk

/-- A sum in a box of its own, beside another box. -/
def SumAt2 (T : TypeId) (y1 y : Nat) (w : World) (x : Int) : Prop := ∃ sg D n c, Blk w y T #[.bool sg, .slice D n c] ∧ BigIs (fun g => g ≠ y1 ∧ g ≠ y) w (.agg #[.bool sg, .slice D n c]) x
theorem BigIs.form2 {B : Nat → Prop} {w : World} {v : Value} {x : Int} (h : BigIs B w v x) : ∃ sg D n c, v = .agg #[.bool sg, .slice D n c] := by
  obtain ⟨dv, rfl, hd⟩ := h
  obtain ⟨D, c, rfl, _, _⟩ := hd.form
  exact ⟨_, D, _, c, rfl⟩
theorem BigIs.beside {w w' : World} {v : Value} {x : Int} {B F : Nat → Prop} (h : BigIs B w v x) (t : Tch F w w') (hn : ∀ g, B g → ¬ F g) : BigIs B w' v x :=
  let ⟨dv, e, hd⟩ := h; ⟨dv, e, hd.keepTo t fun _ _ hg => ⟨hn _ hg, hg⟩⟩
theorem SumAt2.keep {T : TypeId} {y1 y : Nat} {w w' : World} {x : Int} (h : SumAt2 T y1 y w x) (t : Tch (fun g => g = y1) w w') (hy : y ≠ y1) : SumAt2 T y1 y w' x :=
  let ⟨sg, D, n, c, h1, h2⟩ := h; ⟨sg, D, n, c, h1.keep t hy, h2.beside t fun _ hg => hg.1⟩
theorem SumAt2.zero {T : TypeId} {y1 y : Nat} {w : World} (h : Blk w y T #[.bool false, .slice none 0 0]) : SumAt2 T y1 y w 0 :=
  ⟨false, none, 0, 0, h, ⟨.slice none 0 0, rfl, by rw [show dg (0 : Int).natAbs = [] by simp [dg_zero]]; exact Row.nil _ _ _⟩⟩

set_option maxRecDepth 100000 in
set_option maxHeartbeats 25600000 in
theorem localbalances_any {w : World} {e a s r l n : Value} {b : Bks} {us : List (Ent × Value)} (h : BksAt w e a s r l n b us) (h64 : Bks64 b) (c1 c2 c3 c4 c5 c6 : Int) :
    Calls Tryz.prog 5 #[.agg #[e, a, s, r, l, n], .agg #[.int .i64 c1, .int .i64 c2, .int .i64 c3, .int .i64 c4, .int .i64 c5, .int .i64 c6]] w fun x w' => x = .returned (.bool true) ∧ Tch (fun _ => False) w w' := by
  have ta := Tch.alloc (fun _ => False) w (.cells #[e, a, s, r, l, n] 29)
  have tb := Tch.alloc (fun _ => False) (w.alloc (.cells #[e, a, s, r, l, n] 29)) (.cells #[.int .i64 c1, .int .i64 c2, .int .i64 c3, .int .i64 c4, .int .i64 c5, .int .i64 c6] 31)
  have tw := ta.trans tb
  have hbB := (Blk.new w 29 #[e, a, s, r, l, n]).keep tb id
  have hbC := Blk.new2 w (.cells #[e, a, s, r, l, n] 29) 31 #[.int .i64 c1, .int .i64 c2, .int .i64 c3, .int .i64 c4, .int .i64 c5, .int .i64 c6]
  have HF := Lib.hid (few26_any (h.keep tw))
  have HW := Lib.hid (h.keep tw)
  have HM := Lib.hid h.map
  have H0 := Lib.hid h
  have hsz : ((w.alloc (.cells #[e, a, s, r, l, n] 29)).alloc (.cells #[.int .i64 c1, .int .i64 c2, .int .i64 c3, .int .i64 c4, .int .i64 c5, .int .i64 c6] 31)).heap.size = w.heap.size + 2 := by simp
  obtain ⟨Ae, ce, rfl, _, _⟩ := h.ents.form
  obtain ⟨Aa, ca, rfl, _, _⟩ := h.accs.form
  obtain ⟨As, cs, rfl, _, _⟩ := h.stakes.form
  obtain ⟨Ar, cr, rfl, _, _⟩ := h.rates.form
  obtain ⟨Al, cl, rfl, _, _⟩ := h.locks.form
  obtain ⟨An, cn, rfl, _, _⟩ := h.ent.row.form
  clear ta tb h
  obtain ⟨fw, hfw⟩ : ∃ fw, few26 b = fw := ⟨_, rfl⟩
  rw [hfw] at HF
  go_enter Tryz.func5, Tryz.ntmps5
  go_wp2_with fail
  generalize (w.alloc (.cells #[.slice Ae b.ents.length ce, .slice Aa b.accs.length ca, .slice As b.stakes.length cs, .slice Ar b.rates.length cr, .slice Al b.locks.length cl, .slice An us.length cn] 29)).alloc (.cells #[.int .i64 c1, .int .i64 c2, .int .i64 c3, .int .i64 c4, .int .i64 c5, .int .i64 c6] 31) = W at *
  generalize hzw : w.heap.size = z at *
  have HZW := Lib.hid hzw
  clear hzw
  refine HF.out.mono ?_
  rintro _ w1 ⟨rfl, t1⟩
  clear HF
  have tt1 := tw.trans t1
  have hx1 := hbC.keep t1 id
  have w3c : w1.cell? ⟨z + 1, 3, none⟩ = some (.int .i64 c4) := hx1.cell 3
  cases fw
  · clear hfw w3c
    go_wp2_with fail
    refine (awake_any w1).mono ?_
    rintro _ w2 ⟨rfl, t2⟩
    go_wp2
    go_ret
    exact ⟨rfl, tt1.trans t2⟩
  by_cases h23 : c4 > 23
  · have h23' : (23 : Int) < c4 := h23
    clear hfw
    go_wp2_with fail
    refine (awake_any w1).mono ?_
    rintro _ w2 ⟨rfl, t2⟩
    go_wp2
    go_ret
    exact ⟨rfl, tt1.trans t2⟩
  have h23' : ¬ (23 : Int) < c4 := h23
  have h24 : c4 ≤ 23 := by omega
  have hfew := few26_few hfw
  have hB1 := hbB.keep t1 id
  have hC1 := hbC.keep t1 id
  have h1 := HW.out.keep t1
  have hk1 : z + 2 ≤ w1.heap.size := by have := t1.size; omega
  clear hbB hbC HW tw t1 hfw hsz hx1
  have g0 : w1.cell? ⟨z, 0, none⟩ = some (.slice Ae b.ents.length ce) := hB1.cell 0
  have g1 : w1.cell? ⟨z, 1, none⟩ = some (.slice Aa b.accs.length ca) := hB1.cell 1
  have g2 : w1.cell? ⟨z, 2, none⟩ = some (.slice As b.stakes.length cs) := hB1.cell 2
  have g3 : w1.cell? ⟨z, 3, none⟩ = some (.slice Ar b.rates.length cr) := hB1.cell 3
  have g4 : w1.cell? ⟨z, 4, none⟩ = some (.slice Al b.locks.length cl) := hB1.cell 4
  have g5 : w1.cell? ⟨z, 5, none⟩ = some (.slice An us.length cn) := hB1.cell 5
  go_wp2_with fail
  refine (see_far h1 hfew h64).mono ?_
  rintro _ w2 ⟨hsee, t2⟩
  have tt2 := tt1.trans t2
  rcases hsee with ⟨_, m, rfl, hm⟩ | ⟨hok, bv, bi, B, t, mr, mp, e', a', s', r', l', n', lv, fs, us', rfl, hV, hFar⟩
  · have hm2 : (m != 0) = true := by simpa using hm
    clear g0 g1 g2 g3 g4 g5 hm
    go_wp2_with fail
    refine (awake_any w2).mono ?_
    rintro _ w3 ⟨rfl, t3⟩
    go_wp2
    go_ret
    exact ⟨rfl, tt2.trans t3⟩
  have hk5 : z + 2 ≤ w2.heap.size := Nat.le_trans hk1 t2.size
  have hB2 := hB1.keep t2 id
  have hC2 := hC1.keep t2 id
  clear g0 g1 g2 g3 g4 g5 hB1 hC1 h1 tt1 t2 w3c h23 h23'
  have hn := leaves_few hfew
  have hp := posts_few hfew
  have hq := posts_64 h64
  have hul : us.length ≤ 60 := by have := hfew.entries; rw [← HM.out, List.length_map] at this; omega
  have hll : ∀ p ∈ us, p.1.lines.length ≤ 100 := fun p hp => by have := hfew.lines p.1 (by rw [← HM.out]; exact List.mem_map_of_mem hp); omega
  clear hfew h64 hok
  -- the key becomes that of a balance
  go_wp2_with (refine wpList_store_cell rfl _ _ _ rfl (z + 1) 0 (.int .i64 2) (by rfl) (by rfl) rfl (by rfl) hC2 (by simp) ?_; refine Hid.out ?_)
  refine Lib.hid ?_
  intro w3 hC3 ts3
  (try simp only [List.setIfInBounds_toArray, List.set_cons_succ, List.set_cons_zero] at hC3)
  go_wp2_with (refine wpList_store_cell rfl _ _ _ rfl (z + 1) 4 (.int .i64 0) (by rfl) (by rfl) rfl (by rfl) hC3 (by simp) ?_; refine Hid.out ?_)
  refine Lib.hid ?_
  intro w5 hC5 ts4
  (try simp only [List.setIfInBounds_toArray, List.set_cons_succ, List.set_cons_zero] at hC5)
  have tS := ts3.trans ts4
  have hB5 := hB2.keep tS (by omega)
  have hz5 : z + 2 ≤ w5.heap.size := by have := tS.size; have := hk5; omega
  have tt5 := tt2.trans' tS (fun i hi => .inr (by have hi : i = z + 1 := hi; have := HZW.out; omega))
  obtain ⟨us5, hV5⟩ := hFar.view hV tS (fun g hg => by have hg : g = z + 1 := hg; omega)
  have H5 := Lib.hid (H0.out.keep tt5)
  clear hC2 hC3 ts3 ts4 tS hB2 tt2 hV hFar H0
  have q0 : w5.cell? ⟨z + 1, 0, none⟩ = some (.int .i64 2) := hC5.cell 0
  have q1 : w5.cell? ⟨z + 1, 1, none⟩ = some (.int .i64 c2) := hC5.cell 1
  have q2 : w5.cell? ⟨z + 1, 2, none⟩ = some (.int .i64 c3) := hC5.cell 2
  have q3 : w5.cell? ⟨z + 1, 3, none⟩ = some (.int .i64 c4) := hC5.cell 3
  have q4 : w5.cell? ⟨z + 1, 4, none⟩ = some (.int .i64 0) := hC5.cell 4
  have q5 : w5.cell? ⟨z + 1, 5, none⟩ = some (.int .i64 c6) := hC5.cell 5
  have HREC := Lib.hid (fun w' (t : Tch (fun _ => False) w5 w') r q => localrec_any (hV5.keep t) hn hp hq r c2 c3 q 0 c6)
  have HTOT := Lib.hid (fun w' (t : Tch (fun _ => False) w5 w') q => reftotal_any (H5.out.keep t).ent hul hll (by rw [HM.out]; exact hq) c2 c3 q c6)
  rw [HM.out] at HTOT
  have HR5 := Lib.hid (HREC.out w5 (Tch.refl _ _) 2 c4)
  unfold RecOk at HR5 HREC
  clear hn hul hll hq hp
  go_wp2_with fail
  refine HR5.out.mono ?_
  rintro _ w6 ⟨v1, rfl, hr1, t6⟩
  clear HR5
  have tt6 := tt5.trans t6
  have hB6 := hB5.keep t6 id
  have hC6 := hC5.keep t6 id
  have hz6 : z + 2 ≤ w6.heap.size := Nat.le_trans hz5 t6.size
  have HT56 := Lib.hid t6
  have HLO := Lib.hid (show localOf b (2, c2, c3, c4, 0, c6) = if mayOf b (2, c2, c3, c4, 0, c6) 1 2 = 0 then ({ Rcp.none with plus := localPlus (2, c2, c3, c4, 0, c6) }, 0) else (Rcp.none, mayOf b (2, c2, c3, c4, 0, c6) 1 2) by unfold localOf; simp)
  have HPER := Lib.hid (fun (h0 : mayOf b (2, c2, c3, c4, 0, c6) 1 2 = 0) (q : Int) (hq : 0 ≤ q ∧ q ≤ c4) => show localOf b (2, c2, c3, q, 0, c6) = ({ Rcp.none with plus := localPlus (2, c2, c3, q, 0, c6) }, 0) ∧ localOf b (1, c2, c3, q, 0, c6) = ({ Rcp.none with base := localBase b (1, c2, c3, q, 0, c6) }, 0) by
    unfold localOf
    rw [if_pos (may_per h0 (.inr rfl) hq), if_pos (may_per h0 (.inl rfl) hq)]
    exact ⟨rfl, rfl⟩)
  have HFA := Lib.hid (fun h => may_facts (b := b) (c := (2, c2, c3, c4, 0, c6)) (lo := 1) (hi := 2) h)
  generalize mayOf b (2, c2, c3, c4, 0, c6) 1 2 = m at *
  rw [HLO.out] at hr1 ⊢
  clear q0 q1 q2 q3 q4 q5 hB5 hC5 tt5 t6 HLO hV5
  by_cases hm : m = 0
  rotate_left
  · rw [if_neg hm] at hr1 ⊢
    have hm2 : (m != 0) = true := by simpa using hm
    simp only at hr1 ⊢
    obtain ⟨p1, m1, rfl, hp1, hm1⟩ := hr1
    obtain ⟨P1, k1, rfl, _, _⟩ := hp1.form
    obtain ⟨M1, d1, rfl, _, _⟩ := hm1.form
    unfold rcpV Rcp.none
    simp only [List.length_nil]
    clear hp1 hm1 hm
    have tE := tt6.trans (Tch.alloc (fun _ => False) w6 (.cells #[.int .i64 0, .int .i64 0, .slice P1 0 k1, .slice M1 0 d1, .int .i64 0, .int .i64 0, .int .i64 0, .int .i64 0, .int .i64 0, .int .i64 0, .bool false, .int .i64 0, .int .i64 0, .bool false] 46))
    clear hC6 hB6
    go_wp2_with fail
    refine (awake_any _).mono ?_
    rintro _ w7 ⟨rfl, t7⟩
    go_wp2
    go_ret
    exact ⟨rfl, tE.trans t7⟩
  rw [if_pos hm] at hr1 ⊢
  have HPP := Lib.hid (fun q hq => HPER.out hm q hq)
  obtain ⟨_, ⟨hp0, hp1⟩, _, _⟩ := HFA.out hm
  clear HPER HFA
  subst hm
  simp only at hr1 hp0 hp1 ⊢
  obtain ⟨N, rfl⟩ : ∃ N : Nat, c4 = (N : Int) := ⟨c4.toNat, by omega⟩
  obtain ⟨f, hf⟩ : ∃ f : Int → Int, (fun q => (amtsAt (posts b.entries) (c2, c3, q) c6).sum) = f := ⟨_, rfl⟩
  have HFE := Lib.hid (fun q => show (amtsAt (posts b.entries) (c2, c3, q) c6).sum = f q by rw [← hf])
  have HBS := Lib.hid (fun q => show localBase b (1, c2, c3, q, 0, c6) = told2 (f q) by rw [← hf]; rfl)
  have HTOT := Lib.hid (fun w' t q => HTOT.out w' t q)
  simp only [HFE.out] at HTOT
  obtain ⟨p1, m1, rfl, hpp1, hmm1⟩ := hr1
  obtain ⟨P1, k1, rfl, _, _⟩ := hpp1.form
  obtain ⟨M1, d1, rfl, _, _⟩ := hmm1.form
  unfold rcpV Rcp.none
  simp only [List.length_nil]
  generalize (localPlus (2, c2, c3, (N : Int), 0, c6)).length = n9 at *
  have tA := Tch.alloc (fun _ => False) w6 (.cells #[.int .i64 0, .int .i64 0, .slice P1 n9 k1, .slice M1 0 d1, .int .i64 0, .int .i64 0, .int .i64 0, .int .i64 0, .int .i64 0, .int .i64 0, .bool false, .int .i64 0, .int .i64 0, .bool false] 46)
  have tB := Tch.alloc (fun _ => False) (w6.alloc (.cells #[.int .i64 0, .int .i64 0, .slice P1 n9 k1, .slice M1 0 d1, .int .i64 0, .int .i64 0, .int .i64 0, .int .i64 0, .int .i64 0, .int .i64 0, .bool false, .int .i64 0, .int .i64 0, .bool false] 46)) (.cells #[.int .i64 0, .int .i64 0] 39)
  have tC := Tch.alloc (fun _ => False) ((w6.alloc (.cells #[.int .i64 0, .int .i64 0, .slice P1 n9 k1, .slice M1 0 d1, .int .i64 0, .int .i64 0, .int .i64 0, .int .i64 0, .int .i64 0, .int .i64 0, .bool false, .int .i64 0, .int .i64 0, .bool false] 46)).alloc (.cells #[.int .i64 0, .int .i64 0] 39)) (.cells #[.bool false, .slice none 0 0] 69)
  have bL := (Blk.new (w6.alloc (.cells #[.int .i64 0, .int .i64 0, .slice P1 n9 k1, .slice M1 0 d1, .int .i64 0, .int .i64 0, .int .i64 0, .int .i64 0, .int .i64 0, .int .i64 0, .bool false, .int .i64 0, .int .i64 0, .bool false] 46)) 39 #[.int .i64 0, .int .i64 0]).keep tC id
  have bS := Blk.new ((w6.alloc (.cells #[.int .i64 0, .int .i64 0, .slice P1 n9 k1, .slice M1 0 d1, .int .i64 0, .int .i64 0, .int .i64 0, .int .i64 0, .int .i64 0, .int .i64 0, .bool false, .int .i64 0, .int .i64 0, .bool false] 46)).alloc (.cells #[.int .i64 0, .int .i64 0] 39)) 69 #[.bool false, .slice none 0 0]
  have hs1 : (w6.alloc (.cells #[.int .i64 0, .int .i64 0, .slice P1 n9 k1, .slice M1 0 d1, .int .i64 0, .int .i64 0, .int .i64 0, .int .i64 0, .int .i64 0, .int .i64 0, .bool false, .int .i64 0, .int .i64 0, .bool false] 46)).heap.size = w6.heap.size + 1 := by simp
  have hs2 : ((w6.alloc (.cells #[.int .i64 0, .int .i64 0, .slice P1 n9 k1, .slice M1 0 d1, .int .i64 0, .int .i64 0, .int .i64 0, .int .i64 0, .int .i64 0, .int .i64 0, .bool false, .int .i64 0, .int .i64 0, .bool false] 46)).alloc (.cells #[.int .i64 0, .int .i64 0] 39)).heap.size = w6.heap.size + 2 := by simp
  have hs3 : (((w6.alloc (.cells #[.int .i64 0, .int .i64 0, .slice P1 n9 k1, .slice M1 0 d1, .int .i64 0, .int .i64 0, .int .i64 0, .int .i64 0, .int .i64 0, .int .i64 0, .bool false, .int .i64 0, .int .i64 0, .bool false] 46)).alloc (.cells #[.int .i64 0, .int .i64 0] 39)).alloc (.cells #[.bool false, .slice none 0 0] 69)).heap.size = w6.heap.size + 3 := by simp
  rw [hs1] at bL
  rw [hs2] at bS
  have tABC := (tA.trans tB).trans tC
  have hCW := hC6.keep tABC id
  have hBW := hB6.keep tABC id
  have tt8 := tt6.trans tABC
  have HT58 := Lib.hid (HT56.out.trans tABC)
  have hS0 : SumAt2 69 (w6.heap.size + 1) (w6.heap.size + 2) _ 0 := SumAt2.zero bS
  clear hpp1 hmm1 hC6 hB6 tA tB tC tABC hs1 hs2 hf bS
  go_wp2_with fail
  generalize ((w6.alloc _).alloc _).alloc _ = W at *
  generalize hy0 : w6.heap.size = y0 at *
  have HWS := Lib.hid (Nat.le_of_eq hs3.symm)
  clear hs3
  have HY0 := Lib.hid (show w5.heap.size ≤ y0 by rw [← hy0]; exact HT56.out.size)
  have HY1 := Lib.hid (show w.heap.size ≤ y0 by rw [← hy0]; exact tt6.size)
  clear hy0 tt6
  go_loopw [11] (fun i wr => ∃ (j : Nat) (T : Int), j ≤ N + 1 ∧ i = .int .i64 j ∧ I64 T ∧ (j = 0 → T = 0) ∧ Blk wr (y0 + 1) 39 #[.int .i64 T, .int .i64 0] ∧ SumAt2 69 (y0 + 1) (y0 + 2) wr T ∧ Tch (fun g => g = y0 + 1 ∨ g = y0 + 2) W wr) (fun i _ => N + 1 - (intOf i).toNat)
  case atStart => exact ⟨0, 0, by omega, rfl, ⟨by decide, by decide⟩, fun _ => rfl, bL, hS0, Tch.refl _ _⟩
  case round =>
    obtain ⟨j, T, hj, rfl, h64T, hT0, hL, hS, ht⟩ := hrel
    have HL64 := Lib.hid h64T
    have hCr := hCW.keep ht (by omega)
    have hBr := hBW.keep ht (by omega)
    have tSZ := Lib.hid (show y0 + 3 ≤ W.heap.size from HWS.out)
    have ht5 := Lib.hid (HT58.out.trans' ht (fun i hi => .inr (by rcases hi with hi | hi <;> have := HY0.out <;> omega)))
    have e3 : wr.cell? ⟨z + 1, 3, none⟩ = some (.int .i64 (N : Int)) := hCr.cell 3
    clear h64T
    by_cases hlt : j < N + 1
    · by_cases hj0 : j = 0
      · subst hj0
        obtain rfl := hT0 rfl
        clear hT0 hj hlt
        simp only [Int.ofNat_zero] at *
        obtain ⟨hlo2, hlo1⟩ := HPP.out 0 (by omega)
        have hb1 := HBS.out 0
        rw [hb1] at hlo1
        have hH2 := Lib.hid hlo2
        have hH1 := Lib.hid hlo1
        have tD := Tch.alloc (fun _ => False) wr (.cells #[.int .i64 2, .int .i64 c2, .int .i64 c3, .int .i64 (N : Int), .int .i64 0, .int .i64 c6] 31)
        have bD := Blk.new wr 31 #[.int .i64 2, .int .i64 c2, .int .i64 c3, .int .i64 (N : Int), .int .i64 0, .int .i64 c6]
        have hC7 := hCr.keep tD id
        have hsw := Lib.hid (show y0 + 3 ≤ wr.heap.size by have := ht.size; have := tSZ.out; omega)
        have kc0 : wr.cell? ⟨z + 1, 0, none⟩ = some (.int .i64 2) := hCr.cell 0
        have kc1 : wr.cell? ⟨z + 1, 1, none⟩ = some (.int .i64 c2) := hCr.cell 1
        have kc2 : wr.cell? ⟨z + 1, 2, none⟩ = some (.int .i64 c3) := hCr.cell 2
        have kc3 : wr.cell? ⟨z + 1, 3, none⟩ = some (.int .i64 (N : Int)) := hCr.cell 3
        have kc4 : wr.cell? ⟨z + 1, 4, none⟩ = some (.int .i64 0) := hCr.cell 4
        have kc5 : wr.cell? ⟨z + 1, 5, none⟩ = some (.int .i64 c6) := hCr.cell 5
        clear hlo1 hlo2 hb1 e3
        go_wp2_with (refine wpList_store_cell rfl _ _ _ rfl wr.heap.size 3 (.int .i64 0) (by rfl) (by rfl) rfl (by rfl) bD (by simp) ?_; refine Hid.out ?_)
        refine Lib.hid ?_
        intro w2 bD2 ts
        (try simp only [List.setIfInBounds_toArray, List.set_cons_succ, List.set_cons_zero] at bD2)
        have t2 := tD.trans' ts (fun i hi => .inr (Nat.le_of_eq hi.symm))
        have t52 := Lib.hid (ht5.out.trans t2)
        have T2 := Lib.hid t2
        have HR2 := Lib.hid (HREC.out w2 t52.out 2 0)
        rw [hH2.out] at HR2
        have hB2 := hBr.keep t2 id
        have hL2 := hL.keep t2 id
        have hC2 := hCr.keep t2 id
        have hszw : wr.heap.size < w2.heap.size := bD2.lt
        have d0 : w2.cell? ⟨wr.heap.size, 0, none⟩ = some (.int .i64 2) := bD2.cell 0
        have d1 : w2.cell? ⟨wr.heap.size, 1, none⟩ = some (.int .i64 c2) := bD2.cell 1
        have d2 : w2.cell? ⟨wr.heap.size, 2, none⟩ = some (.int .i64 c3) := bD2.cell 2
        have d3 : w2.cell? ⟨wr.heap.size, 3, none⟩ = some (.int .i64 0) := bD2.cell 3
        have d4 : w2.cell? ⟨wr.heap.size, 4, none⟩ = some (.int .i64 0) := bD2.cell 4
        have d5 : w2.cell? ⟨wr.heap.size, 5, none⟩ = some (.int .i64 c6) := bD2.cell 5
        clear kc0 kc1 kc2 kc3 kc4 kc5 bD hC7 tD ts hCr hBr hL t2
        generalize hzd : wr.heap.size = zd at *
        have HZD := Lib.hid hzd
        clear hzd
        go_wp2_with fail
        refine HR2.out.mono ?_
        rintro _ w3 ⟨v2, rfl, hr2, t3⟩
        clear HR2 d0 d1 d2 d3 d4 d5
        simp only at hr2 ⊢
        obtain ⟨p2, m2, rfl, hp2, hm2⟩ := hr2
        obtain ⟨P2, k2, rfl, _, _⟩ := hp2.form
        obtain ⟨M2, g2, rfl, _, _⟩ := hm2.form
        have hpl2 : (localPlus (2, c2, c3, 0, 0, c6)).length = 1 := by
          unfold localPlus
          simp
        unfold rcpV Rcp.none
        simp only [List.length_nil]
        rw [hpl2]
        have tE := Tch.alloc (fun _ => False) w3 (.cells #[.int .i64 0, .int .i64 0, .slice P2 1 k2, .slice M2 0 g2, .int .i64 0, .int .i64 0, .int .i64 0, .int .i64 0, .int .i64 0, .int .i64 0, .bool false, .int .i64 0, .int .i64 0, .bool false] 46)
        have bX := Blk.new w3 46 #[.int .i64 0, .int .i64 0, .slice P2 1 k2, .slice M2 0 g2, .int .i64 0, .int .i64 0, .int .i64 0, .int .i64 0, .int .i64 0, .int .i64 0, .bool false, .int .i64 0, .int .i64 0, .bool false]
        have t3E := t3.trans tE
        have hp2' := hp2.keep tE
        have hm2' := hm2.keep tE
        have bDE := (bD2.keep t3 id).keep tE id
        have hp3 := Row.apart hp2' bDE bal_apart
        have hm3 := Row.none (P' := fun g => g ≠ zd) hm2'
        have HX := Lib.hid (fun w' (t : Tch (fun g => g = zd) (w3.alloc (.cells #[.int .i64 0, .int .i64 0, .slice P2 1 k2, .slice M2 0 g2, .int .i64 0, .int .i64 0, .int .i64 0, .int .i64 0, .int .i64 0, .int .i64 0, .bool false, .int .i64 0, .int .i64 0, .bool false] 46)) w') => show RcpIs w' (.agg #[.int .i64 0, .int .i64 0, .slice P2 1 k2, .slice M2 0 g2, .int .i64 0, .int .i64 0, .int .i64 0, .int .i64 0, .int .i64 0, .int .i64 0, .bool false, .int .i64 0, .int .i64 0, .bool false]) { Rcp.none with plus := localPlus (2, c2, c3, 0, 0, c6) } from ⟨_, _, by unfold rcpV Rcp.none; simp only [List.length_nil]; rw [← hpl2], hp3.keepTo t fun _ _ h => ⟨h, trivial⟩, hm3.keepTo t fun _ _ h => ⟨h, trivial⟩⟩)
        have bD4 := (bD2.keep t3 id).keep tE id
        have hB4 := hB2.keep t3E id
        have hL4 := hL2.keep t3E id
        have hC4 := hC2.keep t3E id
        have t54 := Lib.hid (t52.out.trans t3E)
        have T4 := Lib.hid (T2.out.trans t3E)
        have hz4 : zd < w3.heap.size := (bD2.keep t3 id).lt
        have hpl2 := Lib.hid hpl2
        clear hp2 hm2 hp2' hm2' hp3 hm3 bDE tE bD2 hB2 hL2 hC2 t52 T2 t3 t3E hszw
        go_wp2_with (refine wpList_store_cell rfl _ _ _ rfl zd 0 (.int .i64 1) (by rfl) (by rfl) rfl (by rfl) bD4 (by simp) ?_; refine Hid.out ?_)
        refine Lib.hid ?_
        intro w5' bD5 ts5
        (try simp only [List.setIfInBounds_toArray, List.set_cons_succ, List.set_cons_zero] at bD5)
        generalize hy3 : w3.heap.size = y3 at *
        have HY3 := Lib.hid hy3
        have hsz5 := ts5.size
        have bX5 := bX.keep ts5 (by omega)
        have hB5 := hB4.keep ts5 (by have := HZD.out; have := hsw.out; omega)
        have hL5 := hL4.keep ts5 (by have := HZD.out; have := hsw.out; omega)
        have hC5 := hC4.keep ts5 (by have := HZD.out; have := hsw.out; omega)
        have t5w := T4.out.trans' ts5 (fun i hi => .inr (by have hi : i = zd := hi; have := HZD.out; omega))
        have t55 := Lib.hid (ht5.out.trans t5w)
        have T5 := Lib.hid t5w
        have HR5 := Lib.hid (HREC.out w5' t55.out 1 0)
        rw [hH1.out] at HR5
        have d0 : w5'.cell? ⟨zd, 0, none⟩ = some (.int .i64 1) := bD5.cell 0
        have d1 : w5'.cell? ⟨zd, 1, none⟩ = some (.int .i64 c2) := bD5.cell 1
        have d2 : w5'.cell? ⟨zd, 2, none⟩ = some (.int .i64 c3) := bD5.cell 2
        have d3 : w5'.cell? ⟨zd, 3, none⟩ = some (.int .i64 0) := bD5.cell 3
        have d4 : w5'.cell? ⟨zd, 4, none⟩ = some (.int .i64 0) := bD5.cell 4
        have d5 : w5'.cell? ⟨zd, 5, none⟩ = some (.int .i64 c6) := bD5.cell 5
        clear bX bD4 hB4 hL4 hC4 T4 t54 t5w
        go_wp2_with fail
        refine HR5.out.mono ?_
        rintro _ w6' ⟨v3, rfl, hr3, t6'⟩
        clear HR5 d0 d1 d2 d3 d4 d5 bD5
        simp only at hr3 ⊢
        obtain ⟨p3, m3, rfl, hp3, hm3⟩ := hr3
        obtain ⟨P3, k3, rfl, _, _⟩ := hp3.form
        obtain ⟨M3, g3, rfl, _, _⟩ := hm3.form
        have HR64 := Lib.hid (told2_64 (f 0))
        have HTJ := Lib.hid (fun w' t => HTOT.out w' t 0)
        have HTT := Lib.hid (show told2 (f 0) = told2 (f 0) from rfl)
        obtain ⟨R, hR⟩ : ∃ R, told2 (f 0) = R := ⟨_, rfl⟩
        rw [hR] at HTJ HR64 ⊢
        have HRE := Lib.hid hR
        obtain ⟨R1, R2⟩ := R
        unfold rcpV Rcp.none
        simp only [List.length_nil] at HTJ HR64 ⊢
        have tM := Tch.alloc (fun _ => False) w6' (.cells #[.int .i64 R1, .int .i64 R2, .slice P3 0 k3, .slice M3 0 g3, .int .i64 0, .int .i64 0, .int .i64 0, .int .i64 0, .int .i64 0, .int .i64 0, .bool false, .int .i64 0, .int .i64 0, .bool false] 46)
        have bM := Blk.new w6' 46 #[.int .i64 R1, .int .i64 R2, .slice P3 0 k3, .slice M3 0 g3, .int .i64 0, .int .i64 0, .int .i64 0, .int .i64 0, .int .i64 0, .int .i64 0, .bool false, .int .i64 0, .int .i64 0, .bool false]
        have t6M := t6'.trans tM
        have bX6 := bX5.keep t6M id
        have hB6 := hB5.keep t6M id
        have hL6 := hL5.keep t6M id
        have hC6 := hC5.keep t6M id
        have HX6 := Lib.hid (fun w' (t : Tch (fun _ => False) (w6'.alloc (.cells #[.int .i64 R1, .int .i64 R2, .slice P3 0 k3, .slice M3 0 g3, .int .i64 0, .int .i64 0, .int .i64 0, .int .i64 0, .int .i64 0, .int .i64 0, .bool false, .int .i64 0, .int .i64 0, .bool false] 46)) w') => HX.out w' (ts5.trans (Exn.touch (t6M.trans t))))
        have T6 := Lib.hid (T5.out.trans t6M)
        have hsz6 := t6'.size
        have HRD := Lib.hid (reads_any (HX6.out _ (Tch.refl _ _)) (by have := hpl2.out; simp only [Rcp.none, List.length_nil]; omega))
        rw [reads_bal _ (bal_nodup ..)] at HRD
        have x0 : (w6'.alloc (.cells #[.int .i64 R1, .int .i64 R2, .slice P3 0 k3, .slice M3 0 g3, .int .i64 0, .int .i64 0, .int .i64 0, .int .i64 0, .int .i64 0, .int .i64 0, .bool false, .int .i64 0, .int .i64 0, .bool false] 46)).cell? ⟨y3, 0, none⟩ = some (.int .i64 0) := bX6.cell 0
        have x1 : (w6'.alloc (.cells #[.int .i64 R1, .int .i64 R2, .slice P3 0 k3, .slice M3 0 g3, .int .i64 0, .int .i64 0, .int .i64 0, .int .i64 0, .int .i64 0, .int .i64 0, .bool false, .int .i64 0, .int .i64 0, .bool false] 46)).cell? ⟨y3, 1, none⟩ = some (.int .i64 0) := bX6.cell 1
        have x2 : (w6'.alloc (.cells #[.int .i64 R1, .int .i64 R2, .slice P3 0 k3, .slice M3 0 g3, .int .i64 0, .int .i64 0, .int .i64 0, .int .i64 0, .int .i64 0, .int .i64 0, .bool false, .int .i64 0, .int .i64 0, .bool false] 46)).cell? ⟨y3, 2, none⟩ = some (.slice P2 1 k2) := bX6.cell 2
        have x3 : (w6'.alloc (.cells #[.int .i64 R1, .int .i64 R2, .slice P3 0 k3, .slice M3 0 g3, .int .i64 0, .int .i64 0, .int .i64 0, .int .i64 0, .int .i64 0, .int .i64 0, .bool false, .int .i64 0, .int .i64 0, .bool false] 46)).cell? ⟨y3, 3, none⟩ = some (.slice M2 0 g2) := bX6.cell 3
        have x4 : (w6'.alloc (.cells #[.int .i64 R1, .int .i64 R2, .slice P3 0 k3, .slice M3 0 g3, .int .i64 0, .int .i64 0, .int .i64 0, .int .i64 0, .int .i64 0, .int .i64 0, .bool false, .int .i64 0, .int .i64 0, .bool false] 46)).cell? ⟨y3, 4, none⟩ = some (.int .i64 0) := bX6.cell 4
        have x5 : (w6'.alloc (.cells #[.int .i64 R1, .int .i64 R2, .slice P3 0 k3, .slice M3 0 g3, .int .i64 0, .int .i64 0, .int .i64 0, .int .i64 0, .int .i64 0, .int .i64 0, .bool false, .int .i64 0, .int .i64 0, .bool false] 46)).cell? ⟨y3, 5, none⟩ = some (.int .i64 0) := bX6.cell 5
        have x6 : (w6'.alloc (.cells #[.int .i64 R1, .int .i64 R2, .slice P3 0 k3, .slice M3 0 g3, .int .i64 0, .int .i64 0, .int .i64 0, .int .i64 0, .int .i64 0, .int .i64 0, .bool false, .int .i64 0, .int .i64 0, .bool false] 46)).cell? ⟨y3, 6, none⟩ = some (.int .i64 0) := bX6.cell 6
        have x7 : (w6'.alloc (.cells #[.int .i64 R1, .int .i64 R2, .slice P3 0 k3, .slice M3 0 g3, .int .i64 0, .int .i64 0, .int .i64 0, .int .i64 0, .int .i64 0, .int .i64 0, .bool false, .int .i64 0, .int .i64 0, .bool false] 46)).cell? ⟨y3, 7, none⟩ = some (.int .i64 0) := bX6.cell 7
        have x8 : (w6'.alloc (.cells #[.int .i64 R1, .int .i64 R2, .slice P3 0 k3, .slice M3 0 g3, .int .i64 0, .int .i64 0, .int .i64 0, .int .i64 0, .int .i64 0, .int .i64 0, .bool false, .int .i64 0, .int .i64 0, .bool false] 46)).cell? ⟨y3, 8, none⟩ = some (.int .i64 0) := bX6.cell 8
        have x9 : (w6'.alloc (.cells #[.int .i64 R1, .int .i64 R2, .slice P3 0 k3, .slice M3 0 g3, .int .i64 0, .int .i64 0, .int .i64 0, .int .i64 0, .int .i64 0, .int .i64 0, .bool false, .int .i64 0, .int .i64 0, .bool false] 46)).cell? ⟨y3, 9, none⟩ = some (.int .i64 0) := bX6.cell 9
        have x10 : (w6'.alloc (.cells #[.int .i64 R1, .int .i64 R2, .slice P3 0 k3, .slice M3 0 g3, .int .i64 0, .int .i64 0, .int .i64 0, .int .i64 0, .int .i64 0, .int .i64 0, .bool false, .int .i64 0, .int .i64 0, .bool false] 46)).cell? ⟨y3, 10, none⟩ = some (.bool false) := bX6.cell 10
        have x11 : (w6'.alloc (.cells #[.int .i64 R1, .int .i64 R2, .slice P3 0 k3, .slice M3 0 g3, .int .i64 0, .int .i64 0, .int .i64 0, .int .i64 0, .int .i64 0, .int .i64 0, .bool false, .int .i64 0, .int .i64 0, .bool false] 46)).cell? ⟨y3, 11, none⟩ = some (.int .i64 0) := bX6.cell 11
        have x12 : (w6'.alloc (.cells #[.int .i64 R1, .int .i64 R2, .slice P3 0 k3, .slice M3 0 g3, .int .i64 0, .int .i64 0, .int .i64 0, .int .i64 0, .int .i64 0, .int .i64 0, .bool false, .int .i64 0, .int .i64 0, .bool false] 46)).cell? ⟨y3, 12, none⟩ = some (.int .i64 0) := bX6.cell 12
        have x13 : (w6'.alloc (.cells #[.int .i64 R1, .int .i64 R2, .slice P3 0 k3, .slice M3 0 g3, .int .i64 0, .int .i64 0, .int .i64 0, .int .i64 0, .int .i64 0, .int .i64 0, .bool false, .int .i64 0, .int .i64 0, .bool false] 46)).cell? ⟨y3, 13, none⟩ = some (.bool false) := bX6.cell 13
        clear hp3 hm3 hR HX hB5 hL5 hC5 bX5 t6' T5 HTT ts5
        go_wp2_with fail
        generalize w6'.alloc _ = W6 at *
        generalize hy6 : w6'.heap.size = y6 at *
        have HY6 := Lib.hid hy6
        clear hy6
        refine HRD.out.mono ?_
        rintro _ w7 ⟨u7, rfl, hl7, t7⟩
        obtain ⟨L7, kl7, hu7, _, _⟩ := hl7.form
        rw [hpl2.out] at hu7
        subst hu7
        have bX7 := bX6.keep t7 id
        have bM7 := bM.keep t7 id
        have hB7 := hB6.keep t7 id
        have hL7 := hL6.keep t7 id
        have hC7 := hC6.keep t7 id
        have T7 := Lib.hid (T6.out.trans t7)
        have l0 : w7.cell? ⟨y0 + 1, 0, none⟩ = some (.int .i64 0) := hL7.cell 0
        have l1 : w7.cell? ⟨y0 + 1, 1, none⟩ = some (.int .i64 0) := hL7.cell 1
        have m0 : w7.cell? ⟨y6, 0, none⟩ = some (.int .i64 R1) := bM7.cell 0
        have m1 : w7.cell? ⟨y6, 1, none⟩ = some (.int .i64 R2) := bM7.cell 1
        have tV := Tch.alloc (fun _ => False) w7 (.cells #[.int .i64 0, .int .i64 0, .int .i64 R1, .int .i64 R2] 39)
        have bV := Blk.new w7 39 #[.int .i64 0, .int .i64 0, .int .i64 R1, .int .i64 R2]
        have bX8 := bX7.keep tV id
        have HX8 := Lib.hid (fun w' (t : Tch (fun _ => False) (w7.alloc (.cells #[.int .i64 0, .int .i64 0, .int .i64 R1, .int .i64 R2] 39)) w') => HX6.out w' ((t7.trans tV).trans t))
        have hB8 := hB7.keep tV id
        have hL8 := hL7.keep tV id
        have hC8 := hC7.keep tV id
        have T8 := Lib.hid (T7.out.trans tV)
        clear HRD x0 x1 x2 x3 x4 x5 x6 x7 x8 x9 x10 x11 x12 x13 hl7 bX6 bM hB6 hL6 hC6 T6 t7 bM7 bX7 hB7 hL7 hC7 T7 tV HX6
        go_wp2_with fail
        generalize w7.alloc _ = W8 at *
        generalize w7.heap.size = y7 at *
        have yb0 := within_cell (F := fun _ => False) (show W8.cell? ⟨y3, 0, none⟩ = some (.int .i64 0) from bX8.cell 0) id
        have yb1 := within_cell (F := fun _ => False) (show W8.cell? ⟨y3, 1, none⟩ = some (.int .i64 0) from bX8.cell 1) id
        have yb2 := within_cell (F := fun _ => False) (show W8.cell? ⟨y3, 2, none⟩ = some (.slice P2 1 k2) from bX8.cell 2) id
        have yb3 := within_cell (F := fun _ => False) (show W8.cell? ⟨y3, 3, none⟩ = some (.slice M2 0 g2) from bX8.cell 3) id
        have yb4 := within_cell (F := fun _ => False) (show W8.cell? ⟨y3, 4, none⟩ = some (.int .i64 0) from bX8.cell 4) id
        have yb5 := within_cell (F := fun _ => False) (show W8.cell? ⟨y3, 5, none⟩ = some (.int .i64 0) from bX8.cell 5) id
        have yb6 := within_cell (F := fun _ => False) (show W8.cell? ⟨y3, 6, none⟩ = some (.int .i64 0) from bX8.cell 6) id
        have yb7 := within_cell (F := fun _ => False) (show W8.cell? ⟨y3, 7, none⟩ = some (.int .i64 0) from bX8.cell 7) id
        have yb8 := within_cell (F := fun _ => False) (show W8.cell? ⟨y3, 8, none⟩ = some (.int .i64 0) from bX8.cell 8) id
        have yb9 := within_cell (F := fun _ => False) (show W8.cell? ⟨y3, 9, none⟩ = some (.int .i64 0) from bX8.cell 9) id
        have yb10 := within_cell (F := fun _ => False) (show W8.cell? ⟨y3, 10, none⟩ = some (.bool false) from bX8.cell 10) id
        have yb11 := within_cell (F := fun _ => False) (show W8.cell? ⟨y3, 11, none⟩ = some (.int .i64 0) from bX8.cell 11) id
        have yb12 := within_cell (F := fun _ => False) (show W8.cell? ⟨y3, 12, none⟩ = some (.int .i64 0) from bX8.cell 12) id
        have yb13 := within_cell (F := fun _ => False) (show W8.cell? ⟨y3, 13, none⟩ = some (.bool false) from bX8.cell 13) id
        refine wp_region_touch (fun _ => False) [] 7 [] [] (by kernel_rfl) rfl (by kernel_rfl) rfl (fun d _ _ _ _ h => by cases d <;> exact h) ?_ ?_
        · exact trivial
        (intro bef ops hbef hops; clear hbef; subst hops; simp only [List.take_succ_cons, List.take_zero, List.drop_succ_cons, List.drop_zero])
        iterate 7 (refine t_det (by rfl) (by rfl) (by rfl) (by rfl) (fun K hK => ?_); go_big_quiet_op; (first | refine hK _ ?_ | refine ⟨_, fun _ => rfl, hK _ ?_⟩); clear hK K; (try simp only [Act.put, List.setIfInBounds_toArray, List.set_cons_succ, List.set_cons_zero]))
        refine t_nil ?_
        intro w8 hr hp9 hap
        have t8 := (Tch.drew (fun _ => False) W8).trans hr
        have bV8 := bV.keep t8 id
        have HE8 := Lib.hid (eval_any (u := .slice (some ⟨y7, 2, none⟩) 1 1) (ins := [(R1, R2)]) (HX8.out w8 t8) (show RowsOf val2 2 (fun _ => True) w8 (.slice (some ⟨y7, 2, none⟩) 1 1) [(R1, R2)] from ⟨some ⟨y7, 2, none⟩, 1, rfl, Nat.le_refl _, by decide, rfl, (fun h => by cases h), fun _ => ⟨y7, 2, rfl, ⟨trivial, bV8.lt⟩, fun i u hu => by rw [bV8.cell (2 + i)]; have e : ([(R1, R2)] : List Vl).flatMap val2 = [.int .i64 R1, .int .i64 R2] := rfl; rw [e] at hu; match i, hu with | 0, hu => exact hu | 1, hu => exact hu⟩⟩) (fun x hx => by rw [List.mem_singleton] at hx; subst hx; exact HR64.out) (by show I64 0; unfold I64; decide) (by have := hpl2.out; simp only [Rcp.none, List.length_nil]; omega) (by simp) (fun h => by cases h))
        rw [bal_first] at HE8
        have HNE := Lib.hid (fun (h0 : R2 = 0) => show netOf [(0, 0), (R1, R2)] [] = told2 (0 + R1) from by subst h0; exact net_first HRE.out)
        obtain ⟨EV, hEV⟩ : ∃ EV, netOf [(0, 0), (R1, R2)] [] = EV := ⟨_, rfl⟩
        rw [hEV] at HE8 HNE
        obtain ⟨E1, E2⟩ := EV
        unfold vlV at HE8
        simp only at HE8
        have hB9 := hB8.keep t8 id
        have hL9 := hL8.keep t8 id
        have hC9 := hC8.keep t8 id
        have T9 := Lib.hid (T8.out.trans t8)
        clear hap hp9 hr yb0 yb1 yb2 yb3 yb4 yb5 yb6 yb7 yb8 yb9 yb10 yb11 yb12 yb13 bX8 HX8 hEV bV8 bV hB8 hL8 hC8 T8 t8
        go_wp2_with fail
        refine HE8.out.mono ?_
        rintro _ w9 ⟨rfl, t9⟩
        have hBA := hB9.keep t9 id
        have hLA := hL9.keep t9 id
        have hCA := hC9.keep t9 id
        have TA := Lib.hid (T9.out.trans t9)
        clear HE8 hB9 hL9 hC9 T9 t9
        go_wp2_with (refine wpList_store_blk rfl _ _ _ rfl (y0 + 1) #[.int .i64 E1, .int .i64 E2] (by rfl) (by rfl) hLA (by kernel_rfl) rfl (by simp [Value.oneCell']) ?_; refine Hid.out ?_)
        refine Lib.hid ?_
        intro w10 hL10 t10
        have hB10 := hBA.keep t10 (by omega)
        have hC10 := hCA.keep t10 (by omega)
        have hS10 := (hS.keep (Exn.touch TA.out) (by omega)).keep t10 (by omega)
        have ht10 := Lib.hid ((ht.trans (Exn.touch TA.out)).trans (t10.mono (F' := fun g => g = y0 + 1 ∨ g = y0 + 2) (fun i _ h => .inl h)))
        have HTW := Lib.hid (HTJ.out w10 (HT58.out.trans' ht10.out (fun i hi => .inr (by rcases hi with hi | hi <;> have := HY0.out <;> omega))))
        have b5 : w10.cell? ⟨z, 5, none⟩ = some (.slice An us.length cn) := hB10.cell 5
        have f1 : w10.cell? ⟨z + 1, 1, none⟩ = some (.int .i64 c2) := hC10.cell 1
        have f2 : w10.cell? ⟨z + 1, 2, none⟩ = some (.int .i64 c3) := hC10.cell 2
        have f5 : w10.cell? ⟨z + 1, 5, none⟩ = some (.int .i64 c6) := hC10.cell 5
        clear hS hLA hBA hCA TA t10 HTJ
        go_wp2_with fail
        refine HTW.out.mono ?_
        rintro _ w11 ⟨rfl, t11⟩
        have hL11 := hL10.keep t11 id
        have hS11 := hS10.keep (Exn.touch t11) (by omega)
        have ht11 := Lib.hid (ht10.out.trans (Exn.touch t11))
        have hsz11 := Lib.hid (show y0 + 3 ≤ w11.heap.size by have h1 := ht11.out.size; have h2 := tSZ.out; omega)
        clear HTW b5 f1 f2 f5 hB10 hC10 hL10 hS10 t11 ht10
        obtain ⟨sg, D, nd, kd, hs1, hs2⟩ := hS11
        have HO := Lib.hid (fun (w' : World) (h : w11.heap.size ≤ w'.heap.size) => of_any (w := w') (B := fun g => g ≠ y0 + 1 ∧ g ≠ y0 + 2) (x := R1) HR64.out.1 HR64.out.2 (fun g hg => by have := hsz11.out; omega))
        have HPL := Lib.hid (fun (w' : World) (u : Value) (h : BigIs (fun g => g ≠ y0 + 1 ∧ g ≠ y0 + 2) w' u R1) (t : Tch (fun _ => False) w11 w') => plus_any (hs2.beside t (fun _ _ => id)) h (dg_fits (by have := HL64.out; unfold I64 at this; omega)) (dg_fits (by have := HR64.out; unfold I64 at this; omega)) (fun g hg => by have := t.size; have := hsz11.out; omega))
        obtain ⟨V, hV⟩ : ∃ V : Value → World → Prop, V = fun d w' => BigIs (fun g => g ≠ y0 + 1 ∧ g ≠ y0 + 2) w' d R1 := ⟨_, rfl⟩
        have HV := Lib.hid hV
        clear hV
        have s0 := within_cell (F := fun _ => False) (show w11.cell? ⟨y0 + 2, 0, none⟩ = some (.bool sg) from hs1.cell 0) id
        have s1 := within_cell (F := fun _ => False) (show w11.cell? ⟨y0 + 2, 1, none⟩ = some (.slice D nd kd) from hs1.cell 1) id
        go_wp2_with fail
        refine wp_region_touch (fun _ => False) [] 3 [(2, .inr V)] [] (by kernel_rfl) rfl (by kernel_rfl) rfl (fun d _ _ _ _ h => by cases d <;> exact h) ?_ ?_
        · rw [HV.out]
          exact ⟨fun u a b hr h => h.beside hr (fun _ _ => id), trivial⟩
        (intro bef ops hbef hops; clear hbef; subst hops; simp only [List.take_succ_cons, List.take_zero, List.drop_succ_cons, List.drop_zero])
        iterate 2 (refine t_det (by rfl) (by rfl) (by rfl) (by rfl) (fun K hK => ?_); go_big_quiet_op; (first | refine hK _ ?_ | refine ⟨_, fun _ => rfl, hK _ ?_⟩); clear hK K; (try simp only [Act.put, List.setIfInBounds_toArray, List.set_cons_succ, List.set_cons_zero]))
        refine t_loose (by rfl) (by rfl) (fun wa hr hf => ?_) (fun d => ?_)
        · refine yields_of_wp (d := 118) rfl (by simp) (fun K hK => ?_)
          go_step
          refine (HO.out wa hr.size).mono ?_
          rintro _ wb ⟨v', rfl, ho, t2⟩
          refine hK _ _ ⟨⟨?_, t2⟩, newAt_no⟩
          rw [HV.out]
          exact ho
        simp only [Act.put, List.setIfInBounds_toArray, List.set_cons_succ, List.set_cons_zero]
        refine t_nil ?_
        intro wa hr hp9 hap
        have hv := hp9 _ (List.mem_singleton.2 rfl)
        dsimp only at hv
        rw [HV.out] at hv
        have t1 : Tch (fun _ => False) w11 wa := (Tch.drew _ w11).trans hr
        have hPl := HPL.out wa d hv t1
        have b1 := hs1.keep t1 id
        have hL12 := hL11.keep t1 id
        obtain ⟨_, _, _, _, rfl⟩ := hv.form2
        clear hap HV hp9 s0 s1 hr HO HPL hv hL11
        go_wp2_with fail
        refine hPl.mono ?_
        rintro _ wc ⟨v', rfl, hRs, t2⟩
        have b2 := b1.keep t2 id
        have hL13 := hL12.keep t2 id
        obtain ⟨sr, E, ne, ke, rfl⟩ := hRs.form2
        have t12 := Lib.hid (t1.trans t2)
        clear hPl b1 hs1 hs2 t1 t2 hL12
        go_wp2_with (refine wpList_store_two rfl _ _ _ rfl (y0 + 2) 0 (.bool sr) (.slice E ne ke) (by rfl) (by rfl) rfl rfl (by rfl) b2 (by simp) ?_; refine Hid.out ?_)
        refine Lib.hid ?_
        intro w12 n9 ts9
        (try simp only [List.setIfInBounds_toArray, List.set_cons_succ, List.set_cons_zero] at n9)
        have hS12 : SumAt2 69 (y0 + 1) (y0 + 2) w12 (0 + R1) := ⟨sr, E, ne, ke, n9, hRs.beside ts9 (fun _ hg => hg.2)⟩
        have hL14 := hL13.keep ts9 (by omega)
        have ht12 := Lib.hid ((ht11.out.trans (Exn.touch t12.out)).trans (ts9.mono (F' := fun g => g = y0 + 1 ∨ g = y0 + 2) (fun i _ h => .inr h)))
        have l1 : w12.cell? ⟨y0 + 1, 1, none⟩ = some (.int .i64 E2) := hL14.cell 1
        have HTZ := Lib.hid (tt8.trans' ht12.out (fun i hi => .inr (by rcases hi with hi | hi <;> have := HY1.out <;> omega)))
        clear hRs n9 b2 hL13 ts9 t12 ht11
        by_cases hr2 : R2 = 0
        rotate_left
        · have hr2' : (R2 != 0) = true := by simpa using hr2
          clear hr2 hL14 hS12
          go_wp2_with fail
          refine (awake_any _).mono ?_
          rintro _ w13 ⟨rfl, t13⟩
          go_wp2
          go_ret
          exact ⟨rfl, HTZ.out.trans t13⟩
        have HNE2 := Lib.hid (HNE.out hr2)
        subst hr2
        by_cases he2 : E2 = 0
        rotate_left
        · have he2' : (E2 != 0) = true := by simpa using he2
          clear he2 hL14 hS12
          go_wp2_with fail
          refine (awake_any _).mono ?_
          rintro _ w13 ⟨rfl, t13⟩
          go_wp2
          go_ret
          exact ⟨rfl, HTZ.out.trans t13⟩
        subst he2
        obtain ⟨he1, hf1⟩ := told2_zero HNE2.out.symm
        rw [he1] at hL14
        have HF1 := Lib.hid hf1
        clear he1 hf1 HNE HNE2
        go_wp2
        go_roundw
        case rel => exact ⟨1, 0 + R1, by omega, by go_num, HF1.out, fun h => by omega, hL14, hS12, ht12.out⟩
        case measure => simp [intOf]
      · have hj1 : (1 : Int) ≤ (j : Int) := by omega
        have hjN : (j : Int) ≤ (N : Int) := by omega
        have hj9 : (j : Int) ≤ 23 := by omega
        clear hT0
        obtain ⟨hlo2, hlo1⟩ := HPP.out (j : Int) (by omega)
        have hb1 := HBS.out (j : Int)
        rw [hb1] at hlo1
        have hH2 := Lib.hid hlo2
        have hH1 := Lib.hid hlo1
        have tD := Tch.alloc (fun _ => False) wr (.cells #[.int .i64 2, .int .i64 c2, .int .i64 c3, .int .i64 (N : Int), .int .i64 0, .int .i64 c6] 31)
        have bD := Blk.new wr 31 #[.int .i64 2, .int .i64 c2, .int .i64 c3, .int .i64 (N : Int), .int .i64 0, .int .i64 c6]
        have hC7 := hCr.keep tD id
        have hsw := Lib.hid (show y0 + 3 ≤ wr.heap.size by have := ht.size; have := tSZ.out; omega)
        have kc0 : wr.cell? ⟨z + 1, 0, none⟩ = some (.int .i64 2) := hCr.cell 0
        have kc1 : wr.cell? ⟨z + 1, 1, none⟩ = some (.int .i64 c2) := hCr.cell 1
        have kc2 : wr.cell? ⟨z + 1, 2, none⟩ = some (.int .i64 c3) := hCr.cell 2
        have kc3 : wr.cell? ⟨z + 1, 3, none⟩ = some (.int .i64 (N : Int)) := hCr.cell 3
        have kc4 : wr.cell? ⟨z + 1, 4, none⟩ = some (.int .i64 0) := hCr.cell 4
        have kc5 : wr.cell? ⟨z + 1, 5, none⟩ = some (.int .i64 c6) := hCr.cell 5
        clear hlo1 hlo2 hb1 e3
        go_wp2_with (refine wpList_store_cell rfl _ _ _ rfl wr.heap.size 3 (.int .i64 (j : Int)) (by rfl) (by rfl) rfl (by rfl) bD (by simp) ?_; refine Hid.out ?_)
        refine Lib.hid ?_
        intro w2 bD2 ts
        (try simp only [List.setIfInBounds_toArray, List.set_cons_succ, List.set_cons_zero] at bD2)
        have t2 := tD.trans' ts (fun i hi => .inr (Nat.le_of_eq hi.symm))
        have t52 := Lib.hid (ht5.out.trans t2)
        have T2 := Lib.hid t2
        have HR2 := Lib.hid (HREC.out w2 t52.out 2 (j : Int))
        rw [hH2.out] at HR2
        have hB2 := hBr.keep t2 id
        have hL2 := hL.keep t2 id
        have hC2 := hCr.keep t2 id
        have hszw : wr.heap.size < w2.heap.size := bD2.lt
        have d0 : w2.cell? ⟨wr.heap.size, 0, none⟩ = some (.int .i64 2) := bD2.cell 0
        have d1 : w2.cell? ⟨wr.heap.size, 1, none⟩ = some (.int .i64 c2) := bD2.cell 1
        have d2 : w2.cell? ⟨wr.heap.size, 2, none⟩ = some (.int .i64 c3) := bD2.cell 2
        have d3 : w2.cell? ⟨wr.heap.size, 3, none⟩ = some (.int .i64 (j : Int)) := bD2.cell 3
        have d4 : w2.cell? ⟨wr.heap.size, 4, none⟩ = some (.int .i64 0) := bD2.cell 4
        have d5 : w2.cell? ⟨wr.heap.size, 5, none⟩ = some (.int .i64 c6) := bD2.cell 5
        clear kc0 kc1 kc2 kc3 kc4 kc5 bD hC7 tD ts hCr hBr hL t2
        generalize hzd : wr.heap.size = zd at *
        have HZD := Lib.hid hzd
        clear hzd
        go_wp2_with fail
        refine HR2.out.mono ?_
        rintro _ w3 ⟨v2, rfl, hr2, t3⟩
        clear HR2 d0 d1 d2 d3 d4 d5
        simp only at hr2 ⊢
        obtain ⟨p2, m2, rfl, hp2, hm2⟩ := hr2
        obtain ⟨P2, k2, rfl, _, _⟩ := hp2.form
        obtain ⟨M2, g2, rfl, _, _⟩ := hm2.form
        have hpl2 : (localPlus (2, c2, c3, (j : Int), 0, c6)).length = 2 := by
          unfold localPlus
          rw [if_pos (by simp only; omega)]; rfl
        unfold rcpV Rcp.none
        simp only [List.length_nil]
        rw [hpl2]
        have tE := Tch.alloc (fun _ => False) w3 (.cells #[.int .i64 0, .int .i64 0, .slice P2 2 k2, .slice M2 0 g2, .int .i64 0, .int .i64 0, .int .i64 0, .int .i64 0, .int .i64 0, .int .i64 0, .bool false, .int .i64 0, .int .i64 0, .bool false] 46)
        have bX := Blk.new w3 46 #[.int .i64 0, .int .i64 0, .slice P2 2 k2, .slice M2 0 g2, .int .i64 0, .int .i64 0, .int .i64 0, .int .i64 0, .int .i64 0, .int .i64 0, .bool false, .int .i64 0, .int .i64 0, .bool false]
        have t3E := t3.trans tE
        have hp2' := hp2.keep tE
        have hm2' := hm2.keep tE
        have bDE := (bD2.keep t3 id).keep tE id
        have hp3 := Row.apart hp2' bDE bal_apart
        have hm3 := Row.none (P' := fun g => g ≠ zd) hm2'
        have HX := Lib.hid (fun w' (t : Tch (fun g => g = zd) (w3.alloc (.cells #[.int .i64 0, .int .i64 0, .slice P2 2 k2, .slice M2 0 g2, .int .i64 0, .int .i64 0, .int .i64 0, .int .i64 0, .int .i64 0, .int .i64 0, .bool false, .int .i64 0, .int .i64 0, .bool false] 46)) w') => show RcpIs w' (.agg #[.int .i64 0, .int .i64 0, .slice P2 2 k2, .slice M2 0 g2, .int .i64 0, .int .i64 0, .int .i64 0, .int .i64 0, .int .i64 0, .int .i64 0, .bool false, .int .i64 0, .int .i64 0, .bool false]) { Rcp.none with plus := localPlus (2, c2, c3, (j : Int), 0, c6) } from ⟨_, _, by unfold rcpV Rcp.none; simp only [List.length_nil]; rw [← hpl2], hp3.keepTo t fun _ _ h => ⟨h, trivial⟩, hm3.keepTo t fun _ _ h => ⟨h, trivial⟩⟩)
        have bD4 := (bD2.keep t3 id).keep tE id
        have hB4 := hB2.keep t3E id
        have hL4 := hL2.keep t3E id
        have hC4 := hC2.keep t3E id
        have t54 := Lib.hid (t52.out.trans t3E)
        have T4 := Lib.hid (T2.out.trans t3E)
        have hz4 : zd < w3.heap.size := (bD2.keep t3 id).lt
        have hpl2 := Lib.hid hpl2
        clear hp2 hm2 hp2' hm2' hp3 hm3 bDE tE bD2 hB2 hL2 hC2 t52 T2 t3 t3E hszw
        go_wp2_with (refine wpList_store_cell rfl _ _ _ rfl zd 0 (.int .i64 1) (by rfl) (by rfl) rfl (by rfl) bD4 (by simp) ?_; refine Hid.out ?_)
        refine Lib.hid ?_
        intro w5' bD5 ts5
        (try simp only [List.setIfInBounds_toArray, List.set_cons_succ, List.set_cons_zero] at bD5)
        generalize hy3 : w3.heap.size = y3 at *
        have HY3 := Lib.hid hy3
        have hsz5 := ts5.size
        have bX5 := bX.keep ts5 (by omega)
        have hB5 := hB4.keep ts5 (by have := HZD.out; have := hsw.out; omega)
        have hL5 := hL4.keep ts5 (by have := HZD.out; have := hsw.out; omega)
        have hC5 := hC4.keep ts5 (by have := HZD.out; have := hsw.out; omega)
        have t5w := T4.out.trans' ts5 (fun i hi => .inr (by have hi : i = zd := hi; have := HZD.out; omega))
        have t55 := Lib.hid (ht5.out.trans t5w)
        have T5 := Lib.hid t5w
        have HR5 := Lib.hid (HREC.out w5' t55.out 1 (j : Int))
        rw [hH1.out] at HR5
        have d0 : w5'.cell? ⟨zd, 0, none⟩ = some (.int .i64 1) := bD5.cell 0
        have d1 : w5'.cell? ⟨zd, 1, none⟩ = some (.int .i64 c2) := bD5.cell 1
        have d2 : w5'.cell? ⟨zd, 2, none⟩ = some (.int .i64 c3) := bD5.cell 2
        have d3 : w5'.cell? ⟨zd, 3, none⟩ = some (.int .i64 (j : Int)) := bD5.cell 3
        have d4 : w5'.cell? ⟨zd, 4, none⟩ = some (.int .i64 0) := bD5.cell 4
        have d5 : w5'.cell? ⟨zd, 5, none⟩ = some (.int .i64 c6) := bD5.cell 5
        clear bX bD4 hB4 hL4 hC4 T4 t54 t5w
        go_wp2_with fail
        refine HR5.out.mono ?_
        rintro _ w6' ⟨v3, rfl, hr3, t6'⟩
        clear HR5 d0 d1 d2 d3 d4 d5 bD5
        simp only at hr3 ⊢
        obtain ⟨p3, m3, rfl, hp3, hm3⟩ := hr3
        obtain ⟨P3, k3, rfl, _, _⟩ := hp3.form
        obtain ⟨M3, g3, rfl, _, _⟩ := hm3.form
        have HR64 := Lib.hid (told2_64 (f (j : Int)))
        have HTJ := Lib.hid (fun w' t => HTOT.out w' t (j : Int))
        have HTT := Lib.hid (show told2 (f (j : Int)) = told2 (f (j : Int)) from rfl)
        obtain ⟨R, hR⟩ : ∃ R, told2 (f (j : Int)) = R := ⟨_, rfl⟩
        rw [hR] at HTJ HR64 ⊢
        have HRE := Lib.hid hR
        obtain ⟨R1, R2⟩ := R
        unfold rcpV Rcp.none
        simp only [List.length_nil] at HTJ HR64 ⊢
        have tM := Tch.alloc (fun _ => False) w6' (.cells #[.int .i64 R1, .int .i64 R2, .slice P3 0 k3, .slice M3 0 g3, .int .i64 0, .int .i64 0, .int .i64 0, .int .i64 0, .int .i64 0, .int .i64 0, .bool false, .int .i64 0, .int .i64 0, .bool false] 46)
        have bM := Blk.new w6' 46 #[.int .i64 R1, .int .i64 R2, .slice P3 0 k3, .slice M3 0 g3, .int .i64 0, .int .i64 0, .int .i64 0, .int .i64 0, .int .i64 0, .int .i64 0, .bool false, .int .i64 0, .int .i64 0, .bool false]
        have t6M := t6'.trans tM
        have bX6 := bX5.keep t6M id
        have hB6 := hB5.keep t6M id
        have hL6 := hL5.keep t6M id
        have hC6 := hC5.keep t6M id
        have HX6 := Lib.hid (fun w' (t : Tch (fun _ => False) (w6'.alloc (.cells #[.int .i64 R1, .int .i64 R2, .slice P3 0 k3, .slice M3 0 g3, .int .i64 0, .int .i64 0, .int .i64 0, .int .i64 0, .int .i64 0, .int .i64 0, .bool false, .int .i64 0, .int .i64 0, .bool false] 46)) w') => HX.out w' (ts5.trans (Exn.touch (t6M.trans t))))
        have T6 := Lib.hid (T5.out.trans t6M)
        have hsz6 := t6'.size
        have HRD := Lib.hid (reads_any (HX6.out _ (Tch.refl _ _)) (by have := hpl2.out; simp only [Rcp.none, List.length_nil]; omega))
        rw [reads_bal _ (bal_nodup ..)] at HRD
        have x0 : (w6'.alloc (.cells #[.int .i64 R1, .int .i64 R2, .slice P3 0 k3, .slice M3 0 g3, .int .i64 0, .int .i64 0, .int .i64 0, .int .i64 0, .int .i64 0, .int .i64 0, .bool false, .int .i64 0, .int .i64 0, .bool false] 46)).cell? ⟨y3, 0, none⟩ = some (.int .i64 0) := bX6.cell 0
        have x1 : (w6'.alloc (.cells #[.int .i64 R1, .int .i64 R2, .slice P3 0 k3, .slice M3 0 g3, .int .i64 0, .int .i64 0, .int .i64 0, .int .i64 0, .int .i64 0, .int .i64 0, .bool false, .int .i64 0, .int .i64 0, .bool false] 46)).cell? ⟨y3, 1, none⟩ = some (.int .i64 0) := bX6.cell 1
        have x2 : (w6'.alloc (.cells #[.int .i64 R1, .int .i64 R2, .slice P3 0 k3, .slice M3 0 g3, .int .i64 0, .int .i64 0, .int .i64 0, .int .i64 0, .int .i64 0, .int .i64 0, .bool false, .int .i64 0, .int .i64 0, .bool false] 46)).cell? ⟨y3, 2, none⟩ = some (.slice P2 2 k2) := bX6.cell 2
        have x3 : (w6'.alloc (.cells #[.int .i64 R1, .int .i64 R2, .slice P3 0 k3, .slice M3 0 g3, .int .i64 0, .int .i64 0, .int .i64 0, .int .i64 0, .int .i64 0, .int .i64 0, .bool false, .int .i64 0, .int .i64 0, .bool false] 46)).cell? ⟨y3, 3, none⟩ = some (.slice M2 0 g2) := bX6.cell 3
        have x4 : (w6'.alloc (.cells #[.int .i64 R1, .int .i64 R2, .slice P3 0 k3, .slice M3 0 g3, .int .i64 0, .int .i64 0, .int .i64 0, .int .i64 0, .int .i64 0, .int .i64 0, .bool false, .int .i64 0, .int .i64 0, .bool false] 46)).cell? ⟨y3, 4, none⟩ = some (.int .i64 0) := bX6.cell 4
        have x5 : (w6'.alloc (.cells #[.int .i64 R1, .int .i64 R2, .slice P3 0 k3, .slice M3 0 g3, .int .i64 0, .int .i64 0, .int .i64 0, .int .i64 0, .int .i64 0, .int .i64 0, .bool false, .int .i64 0, .int .i64 0, .bool false] 46)).cell? ⟨y3, 5, none⟩ = some (.int .i64 0) := bX6.cell 5
        have x6 : (w6'.alloc (.cells #[.int .i64 R1, .int .i64 R2, .slice P3 0 k3, .slice M3 0 g3, .int .i64 0, .int .i64 0, .int .i64 0, .int .i64 0, .int .i64 0, .int .i64 0, .bool false, .int .i64 0, .int .i64 0, .bool false] 46)).cell? ⟨y3, 6, none⟩ = some (.int .i64 0) := bX6.cell 6
        have x7 : (w6'.alloc (.cells #[.int .i64 R1, .int .i64 R2, .slice P3 0 k3, .slice M3 0 g3, .int .i64 0, .int .i64 0, .int .i64 0, .int .i64 0, .int .i64 0, .int .i64 0, .bool false, .int .i64 0, .int .i64 0, .bool false] 46)).cell? ⟨y3, 7, none⟩ = some (.int .i64 0) := bX6.cell 7
        have x8 : (w6'.alloc (.cells #[.int .i64 R1, .int .i64 R2, .slice P3 0 k3, .slice M3 0 g3, .int .i64 0, .int .i64 0, .int .i64 0, .int .i64 0, .int .i64 0, .int .i64 0, .bool false, .int .i64 0, .int .i64 0, .bool false] 46)).cell? ⟨y3, 8, none⟩ = some (.int .i64 0) := bX6.cell 8
        have x9 : (w6'.alloc (.cells #[.int .i64 R1, .int .i64 R2, .slice P3 0 k3, .slice M3 0 g3, .int .i64 0, .int .i64 0, .int .i64 0, .int .i64 0, .int .i64 0, .int .i64 0, .bool false, .int .i64 0, .int .i64 0, .bool false] 46)).cell? ⟨y3, 9, none⟩ = some (.int .i64 0) := bX6.cell 9
        have x10 : (w6'.alloc (.cells #[.int .i64 R1, .int .i64 R2, .slice P3 0 k3, .slice M3 0 g3, .int .i64 0, .int .i64 0, .int .i64 0, .int .i64 0, .int .i64 0, .int .i64 0, .bool false, .int .i64 0, .int .i64 0, .bool false] 46)).cell? ⟨y3, 10, none⟩ = some (.bool false) := bX6.cell 10
        have x11 : (w6'.alloc (.cells #[.int .i64 R1, .int .i64 R2, .slice P3 0 k3, .slice M3 0 g3, .int .i64 0, .int .i64 0, .int .i64 0, .int .i64 0, .int .i64 0, .int .i64 0, .bool false, .int .i64 0, .int .i64 0, .bool false] 46)).cell? ⟨y3, 11, none⟩ = some (.int .i64 0) := bX6.cell 11
        have x12 : (w6'.alloc (.cells #[.int .i64 R1, .int .i64 R2, .slice P3 0 k3, .slice M3 0 g3, .int .i64 0, .int .i64 0, .int .i64 0, .int .i64 0, .int .i64 0, .int .i64 0, .bool false, .int .i64 0, .int .i64 0, .bool false] 46)).cell? ⟨y3, 12, none⟩ = some (.int .i64 0) := bX6.cell 12
        have x13 : (w6'.alloc (.cells #[.int .i64 R1, .int .i64 R2, .slice P3 0 k3, .slice M3 0 g3, .int .i64 0, .int .i64 0, .int .i64 0, .int .i64 0, .int .i64 0, .int .i64 0, .bool false, .int .i64 0, .int .i64 0, .bool false] 46)).cell? ⟨y3, 13, none⟩ = some (.bool false) := bX6.cell 13
        clear hp3 hm3 hR HX hB5 hL5 hC5 bX5 t6' T5 HTT ts5
        go_wp2_with fail
        generalize w6'.alloc _ = W6 at *
        generalize hy6 : w6'.heap.size = y6 at *
        have HY6 := Lib.hid hy6
        clear hy6
        refine HRD.out.mono ?_
        rintro _ w7 ⟨u7, rfl, hl7, t7⟩
        obtain ⟨L7, kl7, hu7, _, _⟩ := hl7.form
        rw [hpl2.out] at hu7
        subst hu7
        have bX7 := bX6.keep t7 id
        have bM7 := bM.keep t7 id
        have hB7 := hB6.keep t7 id
        have hL7 := hL6.keep t7 id
        have hC7 := hC6.keep t7 id
        have T7 := Lib.hid (T6.out.trans t7)
        have l0 : w7.cell? ⟨y0 + 1, 0, none⟩ = some (.int .i64 T) := hL7.cell 0
        have l1 : w7.cell? ⟨y0 + 1, 1, none⟩ = some (.int .i64 0) := hL7.cell 1
        have m0 : w7.cell? ⟨y6, 0, none⟩ = some (.int .i64 R1) := bM7.cell 0
        have m1 : w7.cell? ⟨y6, 1, none⟩ = some (.int .i64 R2) := bM7.cell 1
        have tV := Tch.alloc (fun _ => False) w7 (.cells #[.int .i64 T, .int .i64 0, .int .i64 R1, .int .i64 R2] 39)
        have bV := Blk.new w7 39 #[.int .i64 T, .int .i64 0, .int .i64 R1, .int .i64 R2]
        have bX8 := bX7.keep tV id
        have HX8 := Lib.hid (fun w' (t : Tch (fun _ => False) (w7.alloc (.cells #[.int .i64 T, .int .i64 0, .int .i64 R1, .int .i64 R2] 39)) w') => HX6.out w' ((t7.trans tV).trans t))
        have hB8 := hB7.keep tV id
        have hL8 := hL7.keep tV id
        have hC8 := hC7.keep tV id
        have T8 := Lib.hid (T7.out.trans tV)
        clear HRD x0 x1 x2 x3 x4 x5 x6 x7 x8 x9 x10 x11 x12 x13 hl7 bX6 bM hB6 hL6 hC6 T6 t7 bM7 bX7 hB7 hL7 hC7 T7 tV HX6
        go_wp2_with fail
        generalize w7.alloc _ = W8 at *
        generalize w7.heap.size = y7 at *
        have yb0 := within_cell (F := fun _ => False) (show W8.cell? ⟨y3, 0, none⟩ = some (.int .i64 0) from bX8.cell 0) id
        have yb1 := within_cell (F := fun _ => False) (show W8.cell? ⟨y3, 1, none⟩ = some (.int .i64 0) from bX8.cell 1) id
        have yb2 := within_cell (F := fun _ => False) (show W8.cell? ⟨y3, 2, none⟩ = some (.slice P2 2 k2) from bX8.cell 2) id
        have yb3 := within_cell (F := fun _ => False) (show W8.cell? ⟨y3, 3, none⟩ = some (.slice M2 0 g2) from bX8.cell 3) id
        have yb4 := within_cell (F := fun _ => False) (show W8.cell? ⟨y3, 4, none⟩ = some (.int .i64 0) from bX8.cell 4) id
        have yb5 := within_cell (F := fun _ => False) (show W8.cell? ⟨y3, 5, none⟩ = some (.int .i64 0) from bX8.cell 5) id
        have yb6 := within_cell (F := fun _ => False) (show W8.cell? ⟨y3, 6, none⟩ = some (.int .i64 0) from bX8.cell 6) id
        have yb7 := within_cell (F := fun _ => False) (show W8.cell? ⟨y3, 7, none⟩ = some (.int .i64 0) from bX8.cell 7) id
        have yb8 := within_cell (F := fun _ => False) (show W8.cell? ⟨y3, 8, none⟩ = some (.int .i64 0) from bX8.cell 8) id
        have yb9 := within_cell (F := fun _ => False) (show W8.cell? ⟨y3, 9, none⟩ = some (.int .i64 0) from bX8.cell 9) id
        have yb10 := within_cell (F := fun _ => False) (show W8.cell? ⟨y3, 10, none⟩ = some (.bool false) from bX8.cell 10) id
        have yb11 := within_cell (F := fun _ => False) (show W8.cell? ⟨y3, 11, none⟩ = some (.int .i64 0) from bX8.cell 11) id
        have yb12 := within_cell (F := fun _ => False) (show W8.cell? ⟨y3, 12, none⟩ = some (.int .i64 0) from bX8.cell 12) id
        have yb13 := within_cell (F := fun _ => False) (show W8.cell? ⟨y3, 13, none⟩ = some (.bool false) from bX8.cell 13) id
        refine wp_region_touch (fun _ => False) [] 7 [] [] (by kernel_rfl) rfl (by kernel_rfl) rfl (fun d _ _ _ _ h => by cases d <;> exact h) ?_ ?_
        · exact trivial
        (intro bef ops hbef hops; clear hbef; subst hops; simp only [List.take_succ_cons, List.take_zero, List.drop_succ_cons, List.drop_zero])
        iterate 7 (refine t_det (by rfl) (by rfl) (by rfl) (by rfl) (fun K hK => ?_); go_big_quiet_op; (first | refine hK _ ?_ | refine ⟨_, fun _ => rfl, hK _ ?_⟩); clear hK K; (try simp only [Act.put, List.setIfInBounds_toArray, List.set_cons_succ, List.set_cons_zero]))
        refine t_nil ?_
        intro w8 hr hp9 hap
        have t8 := (Tch.drew (fun _ => False) W8).trans hr
        have bV8 := bV.keep t8 id
        have HE8 := Lib.hid (eval_any (u := .slice (some ⟨y7, 0, none⟩) 2 2) (ins := [(T, 0), (R1, R2)]) (HX8.out w8 t8) (show RowsOf val2 2 (fun _ => True) w8 (.slice (some ⟨y7, 0, none⟩) 2 2) [(T, 0), (R1, R2)] from by simpa [RowsOf, val2] using Row.blk (B := fun _ => True) (n := 2) (size := 2) bV8 trivial rfl (by decide)) (fun x hx => (List.mem_cons.1 hx).elim (fun e => e ▸ HL64.out) (fun hx => by rw [List.mem_singleton] at hx; subst hx; exact HR64.out)) (by show I64 0; unfold I64; decide) (by have := hpl2.out; simp only [Rcp.none, List.length_nil]; omega) (by simp) (fun h => by cases h))
        rw [bal_next c2 c3 c6 (q := (j : Int)) (by omega) (T, 0) (R1, R2)] at HE8
        have HNE := Lib.hid (fun (h0 : R2 = 0) => show netOf [(0, 0), (T, 0), (R1, R2)] [] = told2 (T + R1) from by subst h0; exact net_next T HRE.out)
        obtain ⟨EV, hEV⟩ : ∃ EV, netOf [(0, 0), (T, 0), (R1, R2)] [] = EV := ⟨_, rfl⟩
        rw [hEV] at HE8 HNE
        obtain ⟨E1, E2⟩ := EV
        unfold vlV at HE8
        simp only at HE8
        have hB9 := hB8.keep t8 id
        have hL9 := hL8.keep t8 id
        have hC9 := hC8.keep t8 id
        have T9 := Lib.hid (T8.out.trans t8)
        clear hap hp9 hr yb0 yb1 yb2 yb3 yb4 yb5 yb6 yb7 yb8 yb9 yb10 yb11 yb12 yb13 bX8 HX8 hEV bV8 bV hB8 hL8 hC8 T8 t8
        have hmin : min ((j : Int) + 1) 2 = 2 := by omega
        simp only [hmin, Int.sub_self, Int.toNat_zero, Nat.zero_mul, Nat.sub_zero]
        clear hmin
        go_wp2_with fail
        refine HE8.out.mono ?_
        rintro _ w9 ⟨rfl, t9⟩
        have hBA := hB9.keep t9 id
        have hLA := hL9.keep t9 id
        have hCA := hC9.keep t9 id
        have TA := Lib.hid (T9.out.trans t9)
        clear HE8 hB9 hL9 hC9 T9 t9
        go_wp2_with (refine wpList_store_blk rfl _ _ _ rfl (y0 + 1) #[.int .i64 E1, .int .i64 E2] (by rfl) (by rfl) hLA (by kernel_rfl) rfl (by simp [Value.oneCell']) ?_; refine Hid.out ?_)
        refine Lib.hid ?_
        intro w10 hL10 t10
        have hB10 := hBA.keep t10 (by omega)
        have hC10 := hCA.keep t10 (by omega)
        have hS10 := (hS.keep (Exn.touch TA.out) (by omega)).keep t10 (by omega)
        have ht10 := Lib.hid ((ht.trans (Exn.touch TA.out)).trans (t10.mono (F' := fun g => g = y0 + 1 ∨ g = y0 + 2) (fun i _ h => .inl h)))
        have HTW := Lib.hid (HTJ.out w10 (HT58.out.trans' ht10.out (fun i hi => .inr (by rcases hi with hi | hi <;> have := HY0.out <;> omega))))
        have b5 : w10.cell? ⟨z, 5, none⟩ = some (.slice An us.length cn) := hB10.cell 5
        have f1 : w10.cell? ⟨z + 1, 1, none⟩ = some (.int .i64 c2) := hC10.cell 1
        have f2 : w10.cell? ⟨z + 1, 2, none⟩ = some (.int .i64 c3) := hC10.cell 2
        have f5 : w10.cell? ⟨z + 1, 5, none⟩ = some (.int .i64 c6) := hC10.cell 5
        clear hS hLA hBA hCA TA t10 HTJ
        go_wp2_with fail
        refine HTW.out.mono ?_
        rintro _ w11 ⟨rfl, t11⟩
        have hL11 := hL10.keep t11 id
        have hS11 := hS10.keep (Exn.touch t11) (by omega)
        have ht11 := Lib.hid (ht10.out.trans (Exn.touch t11))
        have hsz11 := Lib.hid (show y0 + 3 ≤ w11.heap.size by have h1 := ht11.out.size; have h2 := tSZ.out; omega)
        clear HTW b5 f1 f2 f5 hB10 hC10 hL10 hS10 t11 ht10
        obtain ⟨sg, D, nd, kd, hs1, hs2⟩ := hS11
        have HO := Lib.hid (fun (w' : World) (h : w11.heap.size ≤ w'.heap.size) => of_any (w := w') (B := fun g => g ≠ y0 + 1 ∧ g ≠ y0 + 2) (x := R1) HR64.out.1 HR64.out.2 (fun g hg => by have := hsz11.out; omega))
        have HPL := Lib.hid (fun (w' : World) (u : Value) (h : BigIs (fun g => g ≠ y0 + 1 ∧ g ≠ y0 + 2) w' u R1) (t : Tch (fun _ => False) w11 w') => plus_any (hs2.beside t (fun _ _ => id)) h (dg_fits (by have := HL64.out; unfold I64 at this; omega)) (dg_fits (by have := HR64.out; unfold I64 at this; omega)) (fun g hg => by have := t.size; have := hsz11.out; omega))
        obtain ⟨V, hV⟩ : ∃ V : Value → World → Prop, V = fun d w' => BigIs (fun g => g ≠ y0 + 1 ∧ g ≠ y0 + 2) w' d R1 := ⟨_, rfl⟩
        have HV := Lib.hid hV
        clear hV
        have s0 := within_cell (F := fun _ => False) (show w11.cell? ⟨y0 + 2, 0, none⟩ = some (.bool sg) from hs1.cell 0) id
        have s1 := within_cell (F := fun _ => False) (show w11.cell? ⟨y0 + 2, 1, none⟩ = some (.slice D nd kd) from hs1.cell 1) id
        go_wp2_with fail
        refine wp_region_touch (fun _ => False) [] 3 [(2, .inr V)] [] (by kernel_rfl) rfl (by kernel_rfl) rfl (fun d _ _ _ _ h => by cases d <;> exact h) ?_ ?_
        · rw [HV.out]
          exact ⟨fun u a b hr h => h.beside hr (fun _ _ => id), trivial⟩
        (intro bef ops hbef hops; clear hbef; subst hops; simp only [List.take_succ_cons, List.take_zero, List.drop_succ_cons, List.drop_zero])
        iterate 2 (refine t_det (by rfl) (by rfl) (by rfl) (by rfl) (fun K hK => ?_); go_big_quiet_op; (first | refine hK _ ?_ | refine ⟨_, fun _ => rfl, hK _ ?_⟩); clear hK K; (try simp only [Act.put, List.setIfInBounds_toArray, List.set_cons_succ, List.set_cons_zero]))
        refine t_loose (by rfl) (by rfl) (fun wa hr hf => ?_) (fun d => ?_)
        · refine yields_of_wp (d := 118) rfl (by simp) (fun K hK => ?_)
          go_step
          refine (HO.out wa hr.size).mono ?_
          rintro _ wb ⟨v', rfl, ho, t2⟩
          refine hK _ _ ⟨⟨?_, t2⟩, newAt_no⟩
          rw [HV.out]
          exact ho
        simp only [Act.put, List.setIfInBounds_toArray, List.set_cons_succ, List.set_cons_zero]
        refine t_nil ?_
        intro wa hr hp9 hap
        have hv := hp9 _ (List.mem_singleton.2 rfl)
        dsimp only at hv
        rw [HV.out] at hv
        have t1 : Tch (fun _ => False) w11 wa := (Tch.drew _ w11).trans hr
        have hPl := HPL.out wa d hv t1
        have b1 := hs1.keep t1 id
        have hL12 := hL11.keep t1 id
        obtain ⟨_, _, _, _, rfl⟩ := hv.form2
        clear hap HV hp9 s0 s1 hr HO HPL hv hL11
        go_wp2_with fail
        refine hPl.mono ?_
        rintro _ wc ⟨v', rfl, hRs, t2⟩
        have b2 := b1.keep t2 id
        have hL13 := hL12.keep t2 id
        obtain ⟨sr, E, ne, ke, rfl⟩ := hRs.form2
        have t12 := Lib.hid (t1.trans t2)
        clear hPl b1 hs1 hs2 t1 t2 hL12
        go_wp2_with (refine wpList_store_two rfl _ _ _ rfl (y0 + 2) 0 (.bool sr) (.slice E ne ke) (by rfl) (by rfl) rfl rfl (by rfl) b2 (by simp) ?_; refine Hid.out ?_)
        refine Lib.hid ?_
        intro w12 n9 ts9
        (try simp only [List.setIfInBounds_toArray, List.set_cons_succ, List.set_cons_zero] at n9)
        have hS12 : SumAt2 69 (y0 + 1) (y0 + 2) w12 (T + R1) := ⟨sr, E, ne, ke, n9, hRs.beside ts9 (fun _ hg => hg.2)⟩
        have hL14 := hL13.keep ts9 (by omega)
        have ht12 := Lib.hid ((ht11.out.trans (Exn.touch t12.out)).trans (ts9.mono (F' := fun g => g = y0 + 1 ∨ g = y0 + 2) (fun i _ h => .inr h)))
        have l1 : w12.cell? ⟨y0 + 1, 1, none⟩ = some (.int .i64 E2) := hL14.cell 1
        have HTZ := Lib.hid (tt8.trans' ht12.out (fun i hi => .inr (by rcases hi with hi | hi <;> have := HY1.out <;> omega)))
        clear hRs n9 b2 hL13 ts9 t12 ht11
        by_cases hr2 : R2 = 0
        rotate_left
        · have hr2' : (R2 != 0) = true := by simpa using hr2
          clear hr2 hL14 hS12
          go_wp2_with fail
          refine (awake_any _).mono ?_
          rintro _ w13 ⟨rfl, t13⟩
          go_wp2
          go_ret
          exact ⟨rfl, HTZ.out.trans t13⟩
        have HNE2 := Lib.hid (HNE.out hr2)
        subst hr2
        by_cases he2 : E2 = 0
        rotate_left
        · have he2' : (E2 != 0) = true := by simpa using he2
          clear he2 hL14 hS12
          go_wp2_with fail
          refine (awake_any _).mono ?_
          rintro _ w13 ⟨rfl, t13⟩
          go_wp2
          go_ret
          exact ⟨rfl, HTZ.out.trans t13⟩
        subst he2
        obtain ⟨he1, hf1⟩ := told2_zero HNE2.out.symm
        rw [he1] at hL14
        have HF1 := Lib.hid hf1
        clear he1 hf1 HNE HNE2
        go_wp2
        go_roundw
        case rel => exact ⟨j + 1, T + R1, by omega, by go_num, HF1.out, fun h => by omega, hL14, hS12, ht12.out⟩
        case measure => simp [intOf]; omega
    · obtain rfl : j = N + 1 := by omega
      obtain ⟨sg, D, nd, kd, b1, b2⟩ := hS
      have HI := Lib.hid (int_any b2 (dg_fits (by have := HL64.out; unfold I64 at this; omega)) (fun g hg => by have := ht.size; have := tSZ.out; omega))
      have hin := HL64.out
      unfold I64 at hin
      unfold asInt at HI
      rw [if_pos hin] at HI
      have s0 : wr.cell? ⟨y0 + 2, 0, none⟩ = some (.bool sg) := b1.cell 0
      have s1 : wr.cell? ⟨y0 + 2, 1, none⟩ = some (.slice D nd kd) := b1.cell 1
      have HTT := Lib.hid (tt8.trans' ht (fun i hi => .inr (by rcases hi with hi | hi <;> have := HY1.out <;> omega)))
      clear b1 b2 hin hCr hBr ht
      go_wp2_with fail
      refine HI.out.mono ?_
      rintro _ w9 ⟨rfl, t9⟩
      have hL9 := hL.keep t9 id
      have l0 : w9.cell? ⟨y0 + 1, 0, none⟩ = some (.int .i64 T) := hL9.cell 0
      have TE := Lib.hid (HTT.out.trans t9)
      clear HI hL hL9 s0 s1 e3
      go_wp2_with fail
      refine (awake_any _).mono ?_
      rintro _ w10 ⟨rfl, t10⟩
      go_wp2
      go_ret
      exact ⟨rfl, TE.out.trans t10⟩

theorem localbalances_row {w : World} {u v : Value} (hu : ∃ b, BooksIs (fun _ => True) w u b ∧ Bks64 b) (hv : ∃ c : Rt6, v = cellV c ∧ (I64 c.1 ∧ I64 c.2.1 ∧ I64 c.2.2.1 ∧ I64 c.2.2.2.1 ∧ I64 c.2.2.2.2.1 ∧ I64 c.2.2.2.2.2)) :
    Calls Tryz.prog 5 #[u, v] w fun x w' => x = .returned (.bool true) ∧ Tch (fun _ => False) w w' := by
  obtain ⟨b, hb, h64⟩ := hu
  obtain ⟨⟨c1, c2, c3, c4, c5, c6⟩, rfl, _⟩ := hv
  obtain ⟨e, a, s, r, l, n, us, rfl, h⟩ := hb.at
  exact localbalances_any h h64 c1 c2 c3 c4 c5 c6
end Go.Proofs.YtnmogbhmelpbnaaGreat
