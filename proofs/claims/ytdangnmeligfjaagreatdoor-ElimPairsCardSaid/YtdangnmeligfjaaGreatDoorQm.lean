/-
  ElimPairs: the walk.
-/
import Derived.Test.YtdangnmeligfjaaGreatDoorQl
import Derived.Test.YtdangnmeligfjaaGreatDoorZ24
import Derived.Test.YtdangnmeligfjaaGreatDoorZ61
import Derived.Test.YtdangnmeligfjaaGreatDoorZ46
namespace Go.Gk.V33
open Go.RowKit
/-- Rows of cells of rule 3 do not lie in a cell of rule 6. -/
theorem rows_off6 {w : World} {v : Value} {l : List Rt6} (h : RowsOf int6 6 (fun _ => True) w v l) (h3 : ∀ x ∈ l, x.1 = 3) {z : Nat} {T : TypeId} {d2 d3 d4 d5 d6 : Value} (hz : Blk w z T #[.int .i64 6, d2, d3, d4, d5, d6]) : RowsOf int6 6 (fun g => g ≠ z) w v l := by
  cases l with
  | nil => exact Row.none h
  | cons x r =>
    refine Row.apart h hz fun o hh => ?_
    have e := h3 x (List.mem_cons_self ..)
    have a0 := hh 0 (.int .i64 3) (by simp [int6, e])
    have a5 := hh 5 (.int .i64 x.2.2.2.2.2) (by simp [int6])
    cases o with
    | zero => simp at a0
    | succ o =>
      rw [Array.getElem?_eq_none (by show 6 ≤ o + 1 + 5; omega)] at a5
      cases a5
theorem side_three {b : Bks} {c : Rt6} {a : Int} {g : Rt6} (h : g ∈ sidesD b c a) : g.1 = 3 := by
  unfold sidesD at h
  obtain ⟨q, _, rfl⟩ := List.mem_map.1 h
  rfl
theorem plus_three {b : Bks} {c : Rt6} {l : List Int} {g : Rt6} (h : g ∈ l.flatMap (sidesD b c)) : g.1 = 3 := by
  obtain ⟨x, _, hx⟩ := List.mem_flatMap.1 h
  exact side_three hx
theorem three_ptn {b : Bks} (h : booksOK b = true) : accPtn b 3 = false := by
  unfold booksOK at h
  simp only [Bool.and_eq_true] at h
  obtain ⟨⟨⟨⟨⟨_, h⟩, _⟩, _⟩, _⟩, _⟩ := h
  unfold accsOK at h
  simp only [Bool.and_eq_true, decide_eq_true_eq] at h
  have h3 := h.1.1.2.2
  have h4 : (b.accs.take 3)[2]? = ownAccs[2]? := by rw [h3]
  rw [List.getElem?_take] at h4
  have h5 : b.accs[2]? = some (0, 1, false, false) := by simpa [ownAccs] using h4
  unfold accPtn
  rw [show ((3 : Int) - 1).toNat = 2 by decide, h5]
  rfl
/-- A key that may be, of another leaf. -/
theorem may_acc {b : Bks} {e a a' p u : Int} (hok : booksOK b = true) (h : mayOf b (6, e, a, p, u, 0) 6 6 = 0) (ha : accLeaf b.accs a' = true) : mayOf b (6, e, a', p, u, 0) 6 6 = 0 := by
  obtain ⟨k1, k2, k3, k4, k5⟩ := V32.may_in h
  have := V32.leaf_ids ha
  have h60 := (V32.accs_60 hok).1
  refine V32.may_of ?_ k2 (show ¬ ((b.accs.length : Int) < a') by omega) ⟨Int.le_refl _, Int.le_refl _⟩ ha
  unfold cellOK at k1 ⊢
  simp only [Bool.and_eq_true, wi, decide_eq_true_eq, Bool.not_eq_true'] at k1 ⊢
  exact ⟨⟨⟨⟨⟨k1.1.1.1.1.1, by omega⟩, k1.1.1.1.2⟩, k1.1.1.2⟩, k1.1.2⟩, k1.2⟩
theorem leaf_PP {b : Bks} {a : Int} (h : a ∈ accsP b) : accLeaf b.accs a = true ∧ accPtn b a = true := by
  unfold accsP at h
  obtain ⟨h1, h2⟩ := List.mem_filter.1 h
  exact ⟨V32.leaves_iff.1 h1, h2⟩
/-- The recipes of a node's eliminations, if they may be. -/
theorem elim_diff {b : Bks} {e p u : Int} (hok : booksOK b = true) (h : mayOf b (6, e, 3, p, u, 0) 6 6 = 0) : elimOf b (6, e, 3, p, u, 0) = ({ Rcp.none with plus := (accsP b).flatMap (sidesD b (6, e, 3, p, u, 0)), minus := [] }, 0) := by
  unfold elimOf
  rw [if_pos h]
  unfold elimPlus elimMinus
  simp only [if_true, three_ptn hok, Bool.false_eq_true, if_false]
theorem elim_off {b : Bks} {e p u x : Int} (hok : booksOK b = true) (h : mayOf b (6, e, 3, p, u, 0) 6 6 = 0) (hx : x ∈ accsP b) : elimOf b (6, e, x, p, u, 0) = ({ Rcp.none with plus := [], minus := sidesD b (6, e, 3, p, u, 0) x }, 0) := by
  obtain ⟨h1, h2⟩ := leaf_PP hx
  have hne : x ≠ 3 := fun e => by rw [e, three_ptn hok] at h2; cases h2
  unfold elimOf
  rw [if_pos (may_acc hok h h1)]
  unfold elimPlus elimMinus
  simp only
  rw [if_neg hne, if_pos h2]
  rfl
theorem elim_bad {b : Bks} {c : Rt6} (h : mayOf b c 6 6 ≠ 0) : elimOf b c = (Rcp.none, mayOf b c 6 6) := by
  unfold elimOf
  rw [if_neg h]
theorem sides_count (b : Bks) (c : Rt6) (a : Int) : (sidesD b c a).length = (pairsD b c.2.1 a c.2.2.2.1).length := by
  unfold sidesD
  rw [List.length_map]
end Go.Gk.V33
namespace Go.Proofs.YtdangnmeligfjaaGreatDoor
open Go.RowKit Go.Gk Go.Gk.V33

set_option maxRecDepth 100000 in
set_option maxHeartbeats 25600000 in
theorem elimpairs_any {w : World} {e a s r l n : Value} {b : Bks} {us : List (Ent × Value)} (h : BksAt w e a s r l n b us) (h64 : Bks64 b) (c1 c2 c3 c4 c5 c6 : Int) :
    Calls Tryz.prog 5 #[.agg #[e, a, s, r, l, n], .agg #[.int .i64 c1, .int .i64 c2, .int .i64 c3, .int .i64 c4, .int .i64 c5, .int .i64 c6]] w fun x w' => x = .returned (.bool true) ∧ Tch (fun _ => False) w w' := by
  have ta := Tch.alloc (fun _ => False) w (.cells #[e, a, s, r, l, n] 29)
  have tb := Tch.alloc (fun _ => False) (w.alloc (.cells #[e, a, s, r, l, n] 29)) (.cells #[.int .i64 c1, .int .i64 c2, .int .i64 c3, .int .i64 c4, .int .i64 c5, .int .i64 c6] 31)
  have tw := ta.trans tb
  have hbB := (Blk.new w 29 #[e, a, s, r, l, n]).keep tb id
  have hbC := Blk.new2 w (.cells #[e, a, s, r, l, n] 29) 31 #[.int .i64 c1, .int .i64 c2, .int .i64 c3, .int .i64 c4, .int .i64 c5, .int .i64 c6]
  have HF := Lib.hid (few26_any (h.keep tw))
  have HW := Lib.hid (h.keep tw)
  have hsz : ((w.alloc (.cells #[e, a, s, r, l, n] 29)).alloc (.cells #[.int .i64 c1, .int .i64 c2, .int .i64 c3, .int .i64 c4, .int .i64 c5, .int .i64 c6] 31)).heap.size = w.heap.size + 2 := by simp
  obtain ⟨Ae, ce, rfl, _, _⟩ := h.ents.form
  obtain ⟨Aa, ca, rfl, _, _⟩ := h.accs.form
  obtain ⟨As, cs, rfl, _, _⟩ := h.stakes.form
  obtain ⟨Ar, cr, rfl, _, _⟩ := h.rates.form
  obtain ⟨Al, cl, rfl, _, _⟩ := h.locks.form
  obtain ⟨An, cn, rfl, _, _⟩ := h.ent.row.form
  clear ta tb h
  obtain ⟨fw, hfw⟩ : ∃ fw, few26 b = fw := ⟨_, rfl⟩
  rw [hfw] at HF
  go_enter Tryz.func5, Tryz.ntmps5
  go_wp2_with fail
  generalize (w.alloc (.cells #[.slice Ae b.ents.length ce, .slice Aa b.accs.length ca, .slice As b.stakes.length cs, .slice Ar b.rates.length cr, .slice Al b.locks.length cl, .slice An us.length cn] 29)).alloc (.cells #[.int .i64 c1, .int .i64 c2, .int .i64 c3, .int .i64 c4, .int .i64 c5, .int .i64 c6] 31) = W at *
  generalize hzw : w.heap.size = z at *
  have HZW := Lib.hid hzw
  clear hzw
  refine HF.out.mono ?_
  rintro _ w1 ⟨rfl, t1⟩
  clear HF
  have tt1 := tw.trans t1
  have hx1 := hbC.keep t1 id
  cases fw
  · clear hfw
    go_wp2_with fail
    refine (awake34_any w1).mono ?_
    rintro _ w2 ⟨rfl, t2⟩
    go_wp2
    go_ret
    exact ⟨rfl, tt1.trans t2⟩
  have hfew := few26_few hfw
  have hB1 := hbB.keep t1 id
  have hC1 := hbC.keep t1 id
  have h1 := HW.out.keep t1
  have hk1 : z + 2 ≤ w1.heap.size := by have := t1.size; omega
  clear hbB hbC HW tw t1 hfw hsz hx1
  have g0 : w1.cell? ⟨z, 0, none⟩ = some (.slice Ae b.ents.length ce) := hB1.cell 0
  have g1 : w1.cell? ⟨z, 1, none⟩ = some (.slice Aa b.accs.length ca) := hB1.cell 1
  have g2 : w1.cell? ⟨z, 2, none⟩ = some (.slice As b.stakes.length cs) := hB1.cell 2
  have g3 : w1.cell? ⟨z, 3, none⟩ = some (.slice Ar b.rates.length cr) := hB1.cell 3
  have g4 : w1.cell? ⟨z, 4, none⟩ = some (.slice Al b.locks.length cl) := hB1.cell 4
  have g5 : w1.cell? ⟨z, 5, none⟩ = some (.slice An us.length cn) := hB1.cell 5
  go_wp2_with fail
  refine (see_far h1 hfew h64).mono ?_
  rintro _ w2 ⟨hsee, t2⟩
  have tt2 := tt1.trans t2
  rcases hsee with ⟨_, m, rfl, hm⟩ | ⟨hok, bv, bi, B, t, mr, mp, e', a', s', r', l', n', lv, fs, us', rfl, hV, hFar⟩
  · have hm2 : (m != 0) = true := by simpa using hm
    clear g0 g1 g2 g3 g4 g5 hm
    go_wp2_with fail
    refine (awake34_any w2).mono ?_
    rintro _ w3 ⟨rfl, t3⟩
    go_wp2
    go_ret
    exact ⟨rfl, tt2.trans t3⟩
  have hk5 : z + 2 ≤ w2.heap.size := Nat.le_trans hk1 t2.size
  have hC2 := hC1.keep t2 id
  clear g0 g1 g2 g3 g4 g5 hB1 hC1 h1 tt1 t2
  have hn := leaves_few hfew
  have hpo := posts_few hfew
  have HOK := Lib.hid hok
  clear hfew h64
  go_wp2_with (refine wpList_store_cell rfl _ _ _ rfl (z + 1) 0 (.int .i64 6) (by rfl) (by rfl) rfl (by rfl) hC2 (by simp) ?_; refine Hid.out ?_)
  refine Lib.hid ?_
  intro wa hCa tsa
  (try simp only [List.setIfInBounds_toArray, List.set_cons_succ, List.set_cons_zero] at hCa)
  go_wp2_with (refine wpList_store_cell rfl _ _ _ rfl (z + 1) 5 (.int .i64 0) (by rfl) (by rfl) rfl (by rfl) hCa (by simp) ?_; refine Hid.out ?_)
  refine Lib.hid ?_
  intro wb hCb tsb
  (try simp only [List.setIfInBounds_toArray, List.set_cons_succ, List.set_cons_zero] at hCb)
  go_wp2_with (refine wpList_store_cell rfl _ _ _ rfl (z + 1) 2 (.int .i64 3) (by rfl) (by rfl) rfl (by rfl) hCb (by simp) ?_; refine Hid.out ?_)
  refine Lib.hid ?_
  intro w5 hC5 tsc
  (try simp only [List.setIfInBounds_toArray, List.set_cons_succ, List.set_cons_zero] at hC5)
  have tS := (tsa.trans tsb).trans tsc
  have hz5 : z + 2 ≤ w5.heap.size := by have := tS.size; omega
  have tt5 := tt2.trans' tS (fun i hi => .inr (by have hi : i = z + 1 := hi; have := HZW.out; omega))
  obtain ⟨us5, hV5⟩ := hFar.view hV tS (fun g hg => by have hg : g = z + 1 := hg; omega)
  clear hC2 hCa hCb tsa tsb tsc tt2
  have HEL := Lib.hid (elimrec_x hV5 hn hpo hok 6 c2 3 c4 c5 0)
  unfold ElimOk at HEL
  have HBAD := Lib.hid (elim_bad (b := b) (c := (6, c2, 3, c4, c5, 0)))
  have HDIF := Lib.hid (fun h => elim_diff (b := b) (e := c2) (p := c4) (u := c5) hok h)
  have HOFF := Lib.hid (fun x h (hx : x ∈ accsP b) => elim_off (b := b) (e := c2) (p := c4) (u := c5) (x := x) hok h hx)
  have HFA := Lib.hid (fun h => may_facts (b := b) (c := (6, c2, 3, c4, c5, 0)) (lo := 6) (hi := 6) h)
  have HOK := Lib.hid hok
  have HLEN := Lib.hid (fun x => sides_count b (6, c2, 3, c4, c5, 0) x)
  have HSL := Lib.hid (fun x => sides_len (ok_stakes hok).1 (6, c2, 3, c4, c5, 0) x)
  have HPL := Lib.hid (plus_len b (6, c2, 3, c4, c5, 0))
  have H3P := Lib.hid (fun g (hg : g ∈ (accsP b).flatMap (sidesD b (6, c2, 3, c4, c5, 0))) => plus_three hg)
  obtain ⟨SD, hSD⟩ : ∃ SD : Int → List Rt6, sidesD b (6, c2, 3, c4, c5, 0) = SD := ⟨_, rfl⟩
  rw [hSD] at HDIF HOFF HLEN HSL HPL H3P
  obtain ⟨m, hm⟩ : ∃ m, mayOf b (6, c2, 3, c4, c5, 0) 6 6 = m := ⟨_, rfl⟩
  rw [hm] at HBAD HDIF HOFF HFA
  clear hSD hm hok
  have k0 : w5.cell? ⟨z + 1, 0, none⟩ = some (.int .i64 6) := hC5.cell 0
  have k1 : w5.cell? ⟨z + 1, 1, none⟩ = some (.int .i64 c2) := hC5.cell 1
  have k2 : w5.cell? ⟨z + 1, 2, none⟩ = some (.int .i64 3) := hC5.cell 2
  have k3 : w5.cell? ⟨z + 1, 3, none⟩ = some (.int .i64 c4) := hC5.cell 3
  have k4 : w5.cell? ⟨z + 1, 4, none⟩ = some (.int .i64 c5) := hC5.cell 4
  have k5 : w5.cell? ⟨z + 1, 5, none⟩ = some (.int .i64 0) := hC5.cell 5
  go_wp2_with fail
  refine HEL.out.mono ?_
  rintro _ w6 ⟨v1, rfl, hr1, t6⟩
  have hC6 := hC5.keep t6 id
  have tt6 := tt5.trans t6
  have tS6 := tS.trans (t6.mono fun i _ h => h.elim)
  have hz6 : z + 2 ≤ w6.heap.size := Nat.le_trans hz5 t6.size
  clear HEL k0 k1 k2 k3 k4 k5 hC5 tt5 hV5 tS t6
  by_cases hm0 : m = 0
  rotate_left
  · have he := HBAD.out hm0
    rw [he] at hr1 ⊢
    have hmb : (m != 0) = true := by simpa using hm0
    obtain ⟨p1, m1, rfl, hp1, hm1⟩ := hr1
    obtain ⟨P1, cp1, rfl, _, _⟩ := hp1.form
    obtain ⟨M1, cm1, rfl, _, _⟩ := hm1.form
    unfold rcpV Rcp.none
    simp only [List.length_nil]
    have tA := Tch.alloc (fun _ => False) w6 (.cells #[.int .i64 0, .int .i64 0, .slice P1 0 cp1, .slice M1 0 cm1, .int .i64 0, .int .i64 0, .int .i64 0, .int .i64 0, .int .i64 0, .int .i64 0, .bool false, .int .i64 0, .int .i64 0, .bool false] 46)
    have bX := Blk.new w6 46 #[.int .i64 0, .int .i64 0, .slice P1 0 cp1, .slice M1 0 cm1, .int .i64 0, .int .i64 0, .int .i64 0, .int .i64 0, .int .i64 0, .int .i64 0, .bool false, .int .i64 0, .int .i64 0, .bool false]
    have ttA := tt6.trans tA
    have HRE := Lib.hid (reads_any (r := Rcp.none) (show RcpIs (w6.alloc (.cells #[.int .i64 0, .int .i64 0, .slice P1 0 cp1, .slice M1 0 cm1, .int .i64 0, .int .i64 0, .int .i64 0, .int .i64 0, .int .i64 0, .int .i64 0, .bool false, .int .i64 0, .int .i64 0, .bool false] 46)) (.agg #[.int .i64 0, .int .i64 0, .slice P1 0 cp1, .slice M1 0 cm1, .int .i64 0, .int .i64 0, .int .i64 0, .int .i64 0, .int .i64 0, .int .i64 0, .bool false, .int .i64 0, .int .i64 0, .bool false]) Rcp.none from ⟨_, _, rfl, hp1.keep tA, hm1.keep tA⟩) (by decide))
    rw [show readsOf Rcp.none = [] by decide] at HRE
    have f0 : (w6.alloc (.cells #[.int .i64 0, .int .i64 0, .slice P1 0 cp1, .slice M1 0 cm1, .int .i64 0, .int .i64 0, .int .i64 0, .int .i64 0, .int .i64 0, .int .i64 0, .bool false, .int .i64 0, .int .i64 0, .bool false] 46)).cell? ⟨w6.heap.size, 0, none⟩ = some (.int .i64 0) := bX.cell 0
    have f1 : (w6.alloc (.cells #[.int .i64 0, .int .i64 0, .slice P1 0 cp1, .slice M1 0 cm1, .int .i64 0, .int .i64 0, .int .i64 0, .int .i64 0, .int .i64 0, .int .i64 0, .bool false, .int .i64 0, .int .i64 0, .bool false] 46)).cell? ⟨w6.heap.size, 1, none⟩ = some (.int .i64 0) := bX.cell 1
    have f2 : (w6.alloc (.cells #[.int .i64 0, .int .i64 0, .slice P1 0 cp1, .slice M1 0 cm1, .int .i64 0, .int .i64 0, .int .i64 0, .int .i64 0, .int .i64 0, .int .i64 0, .bool false, .int .i64 0, .int .i64 0, .bool false] 46)).cell? ⟨w6.heap.size, 2, none⟩ = some (.slice P1 0 cp1) := bX.cell 2
    have f3 : (w6.alloc (.cells #[.int .i64 0, .int .i64 0, .slice P1 0 cp1, .slice M1 0 cm1, .int .i64 0, .int .i64 0, .int .i64 0, .int .i64 0, .int .i64 0, .int .i64 0, .bool false, .int .i64 0, .int .i64 0, .bool false] 46)).cell? ⟨w6.heap.size, 3, none⟩ = some (.slice M1 0 cm1) := bX.cell 3
    have f4 : (w6.alloc (.cells #[.int .i64 0, .int .i64 0, .slice P1 0 cp1, .slice M1 0 cm1, .int .i64 0, .int .i64 0, .int .i64 0, .int .i64 0, .int .i64 0, .int .i64 0, .bool false, .int .i64 0, .int .i64 0, .bool false] 46)).cell? ⟨w6.heap.size, 4, none⟩ = some (.int .i64 0) := bX.cell 4
    have f5 : (w6.alloc (.cells #[.int .i64 0, .int .i64 0, .slice P1 0 cp1, .slice M1 0 cm1, .int .i64 0, .int .i64 0, .int .i64 0, .int .i64 0, .int .i64 0, .int .i64 0, .bool false, .int .i64 0, .int .i64 0, .bool false] 46)).cell? ⟨w6.heap.size, 5, none⟩ = some (.int .i64 0) := bX.cell 5
    have f6 : (w6.alloc (.cells #[.int .i64 0, .int .i64 0, .slice P1 0 cp1, .slice M1 0 cm1, .int .i64 0, .int .i64 0, .int .i64 0, .int .i64 0, .int .i64 0, .int .i64 0, .bool false, .int .i64 0, .int .i64 0, .bool false] 46)).cell? ⟨w6.heap.size, 6, none⟩ = some (.int .i64 0) := bX.cell 6
    have f7 : (w6.alloc (.cells #[.int .i64 0, .int .i64 0, .slice P1 0 cp1, .slice M1 0 cm1, .int .i64 0, .int .i64 0, .int .i64 0, .int .i64 0, .int .i64 0, .int .i64 0, .bool false, .int .i64 0, .int .i64 0, .bool false] 46)).cell? ⟨w6.heap.size, 7, none⟩ = some (.int .i64 0) := bX.cell 7
    have f8 : (w6.alloc (.cells #[.int .i64 0, .int .i64 0, .slice P1 0 cp1, .slice M1 0 cm1, .int .i64 0, .int .i64 0, .int .i64 0, .int .i64 0, .int .i64 0, .int .i64 0, .bool false, .int .i64 0, .int .i64 0, .bool false] 46)).cell? ⟨w6.heap.size, 8, none⟩ = some (.int .i64 0) := bX.cell 8
    have f9 : (w6.alloc (.cells #[.int .i64 0, .int .i64 0, .slice P1 0 cp1, .slice M1 0 cm1, .int .i64 0, .int .i64 0, .int .i64 0, .int .i64 0, .int .i64 0, .int .i64 0, .bool false, .int .i64 0, .int .i64 0, .bool false] 46)).cell? ⟨w6.heap.size, 9, none⟩ = some (.int .i64 0) := bX.cell 9
    have f10 : (w6.alloc (.cells #[.int .i64 0, .int .i64 0, .slice P1 0 cp1, .slice M1 0 cm1, .int .i64 0, .int .i64 0, .int .i64 0, .int .i64 0, .int .i64 0, .int .i64 0, .bool false, .int .i64 0, .int .i64 0, .bool false] 46)).cell? ⟨w6.heap.size, 10, none⟩ = some (.bool false) := bX.cell 10
    have f11 : (w6.alloc (.cells #[.int .i64 0, .int .i64 0, .slice P1 0 cp1, .slice M1 0 cm1, .int .i64 0, .int .i64 0, .int .i64 0, .int .i64 0, .int .i64 0, .int .i64 0, .bool false, .int .i64 0, .int .i64 0, .bool false] 46)).cell? ⟨w6.heap.size, 11, none⟩ = some (.int .i64 0) := bX.cell 11
    have f12 : (w6.alloc (.cells #[.int .i64 0, .int .i64 0, .slice P1 0 cp1, .slice M1 0 cm1, .int .i64 0, .int .i64 0, .int .i64 0, .int .i64 0, .int .i64 0, .int .i64 0, .bool false, .int .i64 0, .int .i64 0, .bool false] 46)).cell? ⟨w6.heap.size, 12, none⟩ = some (.int .i64 0) := bX.cell 12
    have f13 : (w6.alloc (.cells #[.int .i64 0, .int .i64 0, .slice P1 0 cp1, .slice M1 0 cm1, .int .i64 0, .int .i64 0, .int .i64 0, .int .i64 0, .int .i64 0, .int .i64 0, .bool false, .int .i64 0, .int .i64 0, .bool false] 46)).cell? ⟨w6.heap.size, 13, none⟩ = some (.bool false) := bX.cell 13
    clear hp1 hm1 he hm0 hC6 HBAD HDIF HOFF HFA HOK HLEN HSL HPL H3P hV hFar tS6 bX tA
    go_wp2_with fail
    generalize w6.alloc _ = W6 at *
    generalize w6.heap.size = y1 at *
    refine HRE.out.mono ?_
    rintro _ w7 ⟨u, rfl, hrow, t7⟩
    have tt7 := ttA.trans t7
    obtain ⟨U, cu, rfl, _, _⟩ := hrow.form
    simp only [List.length_nil]
    clear HRE hrow f0 f1 f2 f3 f4 f5 f6 f7 f8 f9 f10 f11 f12 f13 ttA t7
    go_wp2_with fail
    refine (awake34_any w7).mono ?_
    rintro _ wz ⟨rfl, tz⟩
    go_wp2
    (try rw [Exit.noGoto_ret])
    go_ret
    exact ⟨rfl, tt7.trans tz⟩
  subst hm0
  have hdf := HDIF.out rfl
  rw [hdf] at hr1 ⊢
  obtain ⟨_, ⟨hp0, hp1x⟩, hnode, _⟩ := HFA.out rfl
  (try simp only at hp0 hp1x hnode)
  obtain ⟨p, hc4⟩ : ∃ p : Nat, c4 = (p : Int) := ⟨c4.toNat, by omega⟩
  have hp24 : p < 24 := by omega
  have HC4 := Lib.hid hc4
  clear hc4
  have HDF := Lib.hid hdf
  have HACC := Lib.hid (show (accsP b).length ≤ 1000 from Nat.le_trans (List.length_filter_le _ _) hn)
  obtain ⟨PL, hPL⟩ : ∃ PL, (accsP b).flatMap SD = PL := ⟨_, rfl⟩
  rw [hPL] at hr1 HPL H3P
  (try simp only)
  have HPLE := Lib.hid hPL
  obtain ⟨p1, m1, rfl, hp1', hm1⟩ := hr1
  have hp1 := rows_off6 hp1' (fun g hg => H3P.out g hg) hC6
  obtain ⟨P1, cp1, rfl, _, _⟩ := hp1.form
  obtain ⟨M1, cm1, rfl, _, _⟩ := hm1.form
  unfold rcpV Rcp.none
  simp only [List.length_nil]
  have hplen : PL.length ≤ 10000 := Nat.le_trans HPL.out hpo
  have tA := Tch.alloc (fun _ => False) w6 (.cells #[.int .i64 0, .int .i64 0, .slice P1 PL.length cp1, .slice M1 0 cm1, .int .i64 0, .int .i64 0, .int .i64 0, .int .i64 0, .int .i64 0, .int .i64 0, .bool false, .int .i64 0, .int .i64 0, .bool false] 46)
  have bX := Blk.new w6 46 #[.int .i64 0, .int .i64 0, .slice P1 PL.length cp1, .slice M1 0 cm1, .int .i64 0, .int .i64 0, .int .i64 0, .int .i64 0, .int .i64 0, .int .i64 0, .bool false, .int .i64 0, .int .i64 0, .bool false]
  have tA6 := tS6.trans (tA.mono fun i _ h => h.elim)
  have ttA := tt6.trans tA
  have hCA := hC6.keep tA id
  have hpA := hp1.keep tA
  obtain ⟨us6, hV6⟩ := hFar.view hV tA6 (fun g hg => by have hg : g = z + 1 := hg; omega)
  have HPA := Lib.hid (paccounts_x hV6 hn)
  clear hp1' hp1 hm1 hC6 tS6 tt6 tA hdf hPL HBAD HDIF HFA HPL H3P hp0 hp1x HDF
  go_wp2_with fail
  generalize w6.alloc _ = W6 at *
  generalize hy1 : w6.heap.size = y1 at *
  have HY1 := Lib.hid hy1
  clear hy1
  refine HPA.out.mono ?_
  rintro _ w7 ⟨u, rfl, hO⟩
  have hC7 := hCA.keep hO.tch id
  have tt7 := ttA.trans hO.tch
  have t27 := tA6.trans (hO.tch.mono fun i _ h => h.elim)
  have bX7 := bX.keep hO.tch id
  have hp7 := hpA.keep hO.tch
  have hz7 : z + 2 ≤ w7.heap.size := by have h8 := hC7.lt; omega
  have hyz : z + 2 ≤ y1 := by omega
  have HROW := Lib.hid (fun wr (ht : Tch (fun g => g = z + 1) w7 wr) => Row.keepTo (P' := fun _ => True) (Row.own hO.own (P := fun g => W6.heap.size ≤ g) (fun g hg => (hO.own.lt g hg).1)) ht (fun g _ hg => ⟨fun e => by have e : g = z + 1 := e; have h9 := hCA.lt; have hg : W6.heap.size ≤ g := hg; omega, trivial⟩))
  obtain ⟨U, cu, rfl, hu1, hu2⟩ := hO.form
  obtain ⟨L, hL⟩ : ∃ L, accsP b = L := ⟨_, rfl⟩
  have HLE := Lib.hid hL
  rw [hL] at hu1 HACC HPLE HROW HOFF
  (try simp only [hL])
  have hln := HACC.out
  clear HPA hCA ttA tA6 bX hpA hV6 hO hL
  go_wp2_with fail
  go_loopw [10, 11] (fun o i wr => ∃ (j : Nat) (xs : List Rt6) (O : Option Addr) (co : Nat) (c3 : Int), j ≤ L.length ∧ i = .int .i64 j ∧ o = .slice O xs.length co ∧ (L.take j).flatMap SD = xs ∧ xs.length ≤ j * 1600 ∧ Blk wr (z + 1) 31 #[.int .i64 6, .int .i64 c2, .int .i64 c3, .int .i64 c4, .int .i64 c5, .int .i64 0] ∧ wr.ownsRow w7.heap.size 31 6 (.slice O xs.length co) xs.length (xs.flatMap int6) ∧ Tch (fun g => g = z + 1) w7 wr) (fun _ i _ => L.length - (intOf i).toNat)
  case atStart => exact ⟨0, [], none, 0, 3, Nat.zero_le _, rfl, rfl, rfl, by simp, hC7, World.ownsRow_nil _ _ _ _, Tch.refl _ _⟩
  case round =>
    obtain ⟨j, xs, O, co, c3, hj, rfl, rfl, hxs, hxl, hC, hown, ht⟩ := hrel
    have HXS := Lib.hid hxs
    have hj0 : (0 : Int) ≤ (j : Int) := Int.natCast_nonneg _
    have t2r := t27.trans ht
    have ttr := tt7.trans' ht (fun i hi => .inr (by have hi : i = z + 1 := hi; have := HZW.out; omega))
    clear hxs
    by_cases hlt : j < L.length
    · have hlt' : (j : Int) < (L.length : Int) := by omega
      have hl9 := HROW.out wr ht
      obtain ⟨g, o9, rfl⟩ := hl9.head (by omega)
      have q0 := Row.one hl9 int1_len hlt rfl
      have HXN := Lib.hid (show (L.take (j + 1)).flatMap SD = xs ++ SD L[j] by rw [List.take_succ_eq_append_getElem hlt, List.flatMap_append, HXS.out]; simp)
      have HMX := Lib.hid (show L[j] ∈ L from List.getElem_mem _)
      have hl8 := hl9
      generalize hLj : L[j] = x at *
      have HLJ := Lib.hid hLj
      clear hLj
      clear hl9
      go_wp2_with (refine wpList_store_cell rfl _ _ _ rfl (z + 1) 2 (.int .i64 x) (by rfl) (by rfl) rfl (by rfl) hC (by simp) ?_; refine Hid.out ?_)
      refine Lib.hid ?_
      intro ws hCs tss
      (try simp only [List.setIfInBounds_toArray, List.set_cons_succ, List.set_cons_zero] at hCs)
      have htS := ht.trans tss
      have t2s := t2r.trans tss
      have tts := ttr.trans' tss (fun i hi => .inr (by have hi : i = z + 1 := hi; have := HZW.out; omega))
      have hownS := tss.own hown (fun g hg he => by have he : g = z + 1 := he; have := (hown.lt g hg).1; omega)
      obtain ⟨usS, hVS⟩ := hFar.view hV t2s (fun g hg => by have hg : g = z + 1 := hg; omega)
      have HEX := Lib.hid (elimrec_x hVS hn hpo HOK.out 6 c2 x c4 c5 0)
      unfold ElimOk at HEX
      rw [HOFF.out x (by simp) HMX.out] at HEX
      have hslx := HSL.out x
      have HCNT := Lib.hid (show (SD x).length = (pairsD b c2 x c4).length from HLEN.out x)
      have HSDX := Lib.hid (show SD x = SD x from rfl)
      generalize hys : SD x = ys at HEX HXN hslx HCNT
      have HYS := Lib.hid hys
      clear hys HSDX
      have k0 : ws.cell? ⟨z + 1, 0, none⟩ = some (.int .i64 6) := hCs.cell 0
      have k1 : ws.cell? ⟨z + 1, 1, none⟩ = some (.int .i64 c2) := hCs.cell 1
      have k2 : ws.cell? ⟨z + 1, 2, none⟩ = some (.int .i64 x) := hCs.cell 2
      have k3 : ws.cell? ⟨z + 1, 3, none⟩ = some (.int .i64 c4) := hCs.cell 3
      have k4 : ws.cell? ⟨z + 1, 4, none⟩ = some (.int .i64 c5) := hCs.cell 4
      have k5 : ws.cell? ⟨z + 1, 5, none⟩ = some (.int .i64 0) := hCs.cell 5
      clear hC hown ht t2r ttr tss q0
      go_wp2_with fail
      refine HEX.out.mono ?_
      rintro _ wx ⟨v2, rfl, ⟨p2, m2, rfl, hp2, hm2⟩, tx⟩
      obtain ⟨P2, cp2, rfl, _, _⟩ := hp2.form
      obtain ⟨M2, cm2, rfl, _, _⟩ := hm2.form
      unfold rcpV Rcp.none
      simp only [List.length_nil]
      have tB := Tch.alloc (fun _ => False) wx (.cells #[.int .i64 0, .int .i64 0, .slice P2 0 cp2, .slice M2 ys.length cm2, .int .i64 0, .int .i64 0, .int .i64 0, .int .i64 0, .int .i64 0, .int .i64 0, .bool false, .int .i64 0, .int .i64 0, .bool false] 46)
      have bY := Blk.new wx 46 #[.int .i64 0, .int .i64 0, .slice P2 0 cp2, .slice M2 ys.length cm2, .int .i64 0, .int .i64 0, .int .i64 0, .int .i64 0, .int .i64 0, .int .i64 0, .bool false, .int .i64 0, .int .i64 0, .bool false]
      have txB := tx.trans tB
      have hCx := hCs.keep txB id
      have hownX := txB.own hownS (fun _ _ => id)
      have htX := htS.trans (Exn.touch txB)
      have ttX := tts.trans txB
      have hVX := hVS.keep txB
      have hmX := hm2.keep tB
      have hl7 := HROW.out _ htX
      have q0 := Row.one hl7 int1_len hlt (by rw [HLJ.out]; rfl)
      have hhw : w7.heap.size ≤ wx.heap.size := Nat.le_trans htS.size tx.size
      have HPF := Lib.hid (fun w' (t9 : Tch (fun _ => False) _ w') => pairsof_x (hVX.keep t9) hpo HOK.out hp24 c2 x hnode)
      rw [← HC4.out] at HPF
      clear HEX k0 k1 k2 k3 k4 k5 hCs hownS htS tts hVS hm2 hp2 tx tB txB hl7
      go_wp2_with fail
      generalize wx.alloc _ = WX at *
      generalize hy2 : wx.heap.size = y2 at *
      have e1 : WX.cell? ⟨y2, 2, none⟩ = some (.slice P2 0 cp2) := bY.cell 2
      have e2 : WX.cell? ⟨y2, 3, none⟩ = some (.slice M2 ys.length cm2) := bY.cell 3
      have e3 : WX.cell? ⟨z + 1, 1, none⟩ = some (.int .i64 c2) := hCx.cell 1
      have e4 : WX.cell? ⟨z + 1, 3, none⟩ = some (.int .i64 c4) := hCx.cell 3
      have X1 := within_cell (F := fun _ => False) e1 id
      have X2 := within_cell (F := fun _ => False) e2 id
      have X3 := within_cell (F := fun _ => False) e3 id
      have X4 := within_cell (F := fun _ => False) e4 id
      have X5 := within_cell (F := fun _ => False) q0 id
      obtain ⟨PV, hPV⟩ : ∃ V : Value → World → Prop, V = fun u _ => ∃ (A9 : Option Addr) (c9 : Nat), u = .slice A9 ys.length c9 := ⟨_, rfl⟩
      have HPV := Lib.hid hPV
      clear hPV
      clear e1 e2 e3 e4 q0
      refine wp_region_touch (fun _ => False) [] 23 [(21, .inr PV), (22, .inl (.int .i64 (ys.length : Int)))] [] (by kernel_rfl) rfl (by kernel_rfl) rfl (fun d _ _ _ _ h => by cases d <;> exact h) ?_ ?_
      · rw [HPV.out]
        exact ⟨fun _ _ _ _ h => h, trivial⟩
      intro bef ops hbef hops
      have hb1 : (bef.getD 22 0).testBit 21 = true := by rw [hbef]; kernel_rfl
      clear hbef
      subst hops
      simp only [List.take_succ_cons, List.take_zero, List.drop_succ_cons, List.drop_zero]
      iterate 21 (refine t_det (by rfl) (by rfl) (by rfl) (by rfl) (fun K hK => ?_); go_big_quiet_op; (first | refine hK _ ?_ | refine ⟨_, fun _ => rfl, hK _ ?_⟩); clear hK K; (try simp only [Act.put, List.setIfInBounds_toArray, List.set_cons_succ, List.set_cons_zero]))
      refine t_loose (by rfl) (by rfl) (fun wq hr hf => ?_) (fun u9 => ?_)
      · refine yields_of_wp (d := 88) rfl (by simp) (fun K hK => ?_)
        go_step
        refine (HPF.out wq ((Tch.drew _ WX).trans hr)).mono ?_
        rintro _ wt ⟨u, rfl, hO9⟩
        refine hK _ _ ⟨⟨?_, hO9.tch⟩, newAt_no⟩
        rw [HPV.out]
        obtain ⟨A9, c9, e9, _, _⟩ := hO9.form
        exact ⟨A9, c9, by rw [e9, HCNT.out]⟩
      simp only [Act.put, List.setIfInBounds_toArray, List.set_cons_succ, List.set_cons_zero]
      refine t_fix (.int .i64 (ys.length : Int)) (by rfl) (by rfl) (fun wq hr hf => ?_) ?_
      · have hv := hf (21, fun w' => PV u9 w') (by simp) hb1
        simp only at hv
        rw [HPV.out] at hv
        obtain ⟨A9, c9, rfl⟩ := hv
        refine yields_of_wp (d := 89) rfl (by simp) (fun K hK => ?_)
        go_step
        exact hK _ _ ⟨⟨rfl, Tch.refl _ _⟩, newAt_no⟩
      simp only [Act.put, List.setIfInBounds_toArray, List.set_cons_succ, List.set_cons_zero]
      refine t_nil ?_
      intro wq hr hpq hap
      have tq := (Tch.drew (fun _ => False) WX).trans hr
      have bYq := bY.keep tq id
      have hCq := hCx.keep tq id
      have hownQ := tq.own hownX (fun _ _ => id)
      have htQ := htX.trans (Exn.touch tq)
      have ttQ := ttX.trans tq
      have hmQ := hmX.keep tq
      have e2 : wq.cell? ⟨y2, 3, none⟩ = some (.slice M2 ys.length cm2) := bYq.cell 3
      clear hap hpq hr hb1 X1 X2 X3 X4 X5 HPF HPV bY hCx hownX htX ttX hmX hVX tq
      have hyl : ys.length ≤ 1600 := hslx
      have hxl9 : xs.length ≤ 1600000 := by omega
      have HLT := Lib.hid (fun g hg => hownQ.lt g hg)
      go_wp2_with (at_builtin; refine Hid.out ?_)
      refine Lib.hid ?_
      refine wpList_append _ rfl _ _ 40 rfl rowCells (own_base hownQ) (by rfl) hmQ.src (by rfl) (by intro u9 hu9; obtain ⟨x9, _, hx9⟩ := List.mem_flatMap.1 hu9; exact one6 x9 u9 hx9) (by unfold maxLen; omega) (by omega) ?_
      intro v2 wc ho2 hg2 hl2
      have tg : Tch (fun g => w7.heap.size ≤ g) wq wc := Tch.grown hg2 fun k9 hk9 => .inl (HLT.out k9 hk9).1
      have hCc := hCq.keep tg (by omega)
      have htc := htQ.trans' tg (fun i hi => .inr hi)
      have hob : ∀ g, v2.ownBlock = some g → w7.heap.size ≤ g := fun g hg => by
        rcases hl2 g hg with h9 | h9
        · exact (HLT.out g h9).1
        · have := htQ.size; omega
      obtain ⟨O2, co2, rfl, _, _⟩ := own_form ho2
      have hownN := own_up ho2 hob
      have HLL := Lib.hid (show xs.length + ys.length = (xs ++ ys).length by simp)
      clear hCq hownQ htQ hg2 hl2 ho2 tg hmQ bYq e2 hob
      go_wp2
      go_roundw
      case rel => exact ⟨j + 1, xs ++ ys, O2, co2, x, by omega, by go_num, by rw [← HLL.out], HXN.out, by simp; omega, hCc, by rw [← HLL.out]; simpa [List.flatMap_append] using hownN, htc⟩
      case measure => simp [intOf] <;> omega
    · obtain rfl : j = L.length := by omega
      have hlt' : ¬ (L.length : Int) < (L.length : Int) := by omega
      have hxs := HXS.out
      rw [List.take_length] at hxs
      obtain rfl : PL = xs := by rw [← HPLE.out]; exact hxs
      have bXr := bX7.keep ht (by omega)
      have hpr := Row.keepTo (P' := fun _ => True) hp7 ht (fun g _ hg => ⟨hg, trivial⟩)
      have horow := Row.own hown (P := fun _ => True) (fun g hg => trivial)
      have HSA := Lib.hid (refsame_any (l := PL) hpr horow)
      have r2 : wr.cell? ⟨y1, 2, none⟩ = some (.slice P1 PL.length cp1) := bXr.cell 2
      clear hxs hC hown ht hlt hpr horow t2r
      go_wp2_with fail
      refine HSA.out.mono ?_
      rintro _ ws ⟨rfl, ts⟩
      have bXs := bXr.keep ts id
      have r3 : ws.cell? ⟨y1, 3, none⟩ = some (.slice M1 0 cm1) := bXs.cell 3
      have r4 : ws.cell? ⟨y1, 10, none⟩ = some (.bool false) := bXs.cell 10
      have tts := ttr.trans ts
      clear HSA r2 bXr bXs ttr ts
      go_wp2_with fail
      refine (awake34_any ws).mono ?_
      rintro _ wz ⟨rfl, tz⟩
      go_wp2
      (try rw [Exit.noGoto_ret])
      go_ret
      exact ⟨rfl, tts.trans tz⟩

theorem elimpairs_row {w : World} {u v : Value} (hu : ∃ b, BooksIs (fun _ => True) w u b ∧ Bks64 b) (hv : ∃ c : Rt6, v = cellV c ∧ (I64 c.1 ∧ I64 c.2.1 ∧ I64 c.2.2.1 ∧ I64 c.2.2.2.1 ∧ I64 c.2.2.2.2.1 ∧ I64 c.2.2.2.2.2)) :
    Calls Tryz.prog 5 #[u, v] w fun x w' => x = .returned (.bool true) ∧ Tch (fun _ => False) w w' := by
  obtain ⟨b, hb, h64⟩ := hu
  obtain ⟨⟨c1, c2, c3, c4, c5, c6⟩, rfl, _⟩ := hv
  obtain ⟨e, a, s, r, l, n, us, rfl, h⟩ := hb.at
  exact elimpairs_any h h64 c1 c2 c3 c4 c5 c6
end Go.Proofs.YtdangnmeligfjaaGreatDoor
