/-
  What entities have, in other currencies: keys that may be, the plug.
-/
import Derived.Test.YtdangnmeligfjaaGreatDoorLv
import Derived.Test.YtdangnmeligfjaaGreatDoorZ69
import Derived.Test.YtdangnmeligfjaaGreatDoorZ21
import Derived.Test.YtdangnmeligfjaaGreatDoorZ60
namespace Go.Proofs.YtdangnmeligfjaaGreatDoor
open Go.RowKit Go.Gk
section
variable {w : World} {bv bi B t mr mp : Nat} {e a s r l n lv : Value} {fs : List Value} {b : Bks} {us : List (Ent × Value)}
set_option maxRecDepth 100000 in
set_option maxHeartbeats 1600000 in
theorem transmay_any (h : Vw w bv bi B t mr mp e a s r l n lv fs b us) (hn : (accLeaves b.accs).length ≤ 1000) (c : Rt6) :
 Calls Tryz.prog 131 #[.pointer (some ⟨bv, 0, none⟩), cellV c] w fun x w' => x = .returned (.int .i64 (mayOf b c 3 3)) ∧ Tch (fun _ => False) w w' := by
 obtain ⟨c1, c2, c3, c4, c5, c6⟩ := c
 have tw := Tch.alloc (fun _ => False) w (.cells #[.int .i64 c1, .int .i64 c2, .int .i64 c3, .int .i64 c4, .int .i64 c5, .int .i64 c6] 31)
 have hb := Blk.new w 31 #[.int .i64 c1, .int .i64 c2, .int .i64 c3, .int .i64 c4, .int .i64 c5, .int .i64 c6]
 have h1 := h.keep tw
 have HM := Lib.hid (vwmay_any h1 (c1, c2, c3, c4, c5, c6))
 have HL := Lib.hid (fun w' (tc : Tch (fun _ => False) (w.alloc (.cells #[.int .i64 c1, .int .i64 c2, .int .i64 c3, .int .i64 c4, .int .i64 c5, .int .i64 c6] 31)) w') => vwleaf_any (h1.keep tc) hn c3)
 rw [leaf_contains] at HL
 obtain ⟨m, hm⟩ : ∃ m, mayOf b (c1, c2, c3, c4, c5, c6) 3 3 = m := ⟨_, rfl⟩
 rw [hm]
 unfold mayOf at hm
 simp only at hm
 generalize cellIn (c1, c2, c3, c4, c5, c6) b.ents.length b.accs.length = k at *
 generalize accLeaf b.accs c3 = lf at *
 have HMM := Lib.hid hm
 unfold cellV at HM ⊢
 simp only at HM ⊢
 clear hm h h1
 go_enter Tryz.func131, Tryz.ntmps131
 go_wp2_with fail
 generalize w.alloc (.cells #[.int .i64 c1, .int .i64 c2, .int .i64 c3, .int .i64 c4, .int .i64 c5, .int .i64 c6] 31) = W at *
 generalize w.heap.size = z at *
 refine HM.out.mono ?_
 rintro _ w1 ⟨rfl, t1⟩
 clear HM
 have tt := tw.trans t1
 by_cases hk : k = 0
 rotate_left
 ·have hk' : (k != 0) = true := by simpa using hk
  obtain rfl : m = k := by rw [← HMM.out, if_neg hk]
  clear HMM
  go_wp2
  go_ret
  exact ⟨rfl, tt⟩
 subst hk
 have q0 : w1.cell? ⟨z, 0, none⟩ = some (.int .i64 c1) := (hb.keep t1 id).cell 0
 have q2 : w1.cell? ⟨z, 2, none⟩ = some (.int .i64 c3) := (hb.keep t1 id).cell 2
 by_cases hr : c1 = 3
 rotate_left
 ·obtain rfl : m = 25 := by rw [← HMM.out, if_pos rfl, if_pos (by omega)]
  have h1 : (c1 != 3) = true := by simp; omega
  clear HMM hr
  go_wp2
  go_ret
  exact ⟨rfl, tt⟩
 have HMM := Lib.hid (show (if lf = true then (0 : Int) else 27) = m by
  have h9 := HMM.out
  rw [if_pos rfl, if_neg (show ¬ (c1 < 3 ∨ 3 < c1) by omega)] at h9
  exact h9)
 subst hr
 go_wp2_with fail
 refine (HL.out w1 t1).mono ?_
 rintro _ w2 ⟨rfl, t2⟩
 clear HL q0 q2
 cases lf
 ·obtain rfl : m = 27 := by rw [← HMM.out]; rfl
  go_wp2
  go_ret
  exact ⟨rfl, tt.trans t2⟩
 ·obtain rfl : m = 0 := by rw [← HMM.out]; rfl
  go_wp2
  go_ret
  exact ⟨rfl, tt.trans t2⟩
def plugOf (L : List Int) (c : Rt6) : List Rt6 := (L.filter fun a => decide (a ≠ 1)).map fun a => (c.1, c.2.1, a, c.2.2.2)
set_option maxRecDepth 100000 in
set_option maxHeartbeats 6400000 in
theorem plug_any (h : Vw w bv bi B t mr mp e a s r l n lv fs b us) (hn : (accLeaves b.accs).length ≤ 1000) (c1 c2 c3 c4 c5 c6 : Int) :
 Calls Tryz.prog 132 #[.pointer (some ⟨bv, 0, none⟩), .agg #[.int .i64 c1, .int .i64 c2, .int .i64 c3, .int .i64 c4, .int .i64 c5, .int .i64 c6]] w fun x w' => ∃ (xs : List Rt6) (O : Option Addr) (co : Nat), xs = (if c6 ≠ 0 then [] else plugOf (accLeaves b.accs) (c1, c2, c3, c4, c5, c6)) ∧ x = .returned (.agg #[.int .i64 0, .int .i64 0, .slice none 0 0, .slice O xs.length co, .int .i64 0, .int .i64 0, .int .i64 0, .int .i64 0, .int .i64 0, .int .i64 0, .bool false, .int .i64 0, .int .i64 0, .bool false]) ∧ RowsOf int6 6 (fun g => w.heap.size ≤ g) w' (.slice O xs.length co) xs ∧ Tch (fun _ => False) w w' := by
 have ta := Tch.alloc (fun _ => False) w (.cells #[.int .i64 c1, .int .i64 c2, .int .i64 c3, .int .i64 c4, .int .i64 c5, .int .i64 c6] 31)
 have tb := Tch.alloc (fun _ => False) (w.alloc (.cells #[.int .i64 c1, .int .i64 c2, .int .i64 c3, .int .i64 c4, .int .i64 c5, .int .i64 c6] 31)) (.cells #[.int .i64 0, .int .i64 0, .slice none 0 0, .slice none 0 0, .int .i64 0, .int .i64 0, .int .i64 0, .int .i64 0, .int .i64 0, .int .i64 0, .bool false, .int .i64 0, .int .i64 0, .bool false] 46)
 have tc := Tch.alloc (fun _ => False) ((w.alloc (.cells #[.int .i64 c1, .int .i64 c2, .int .i64 c3, .int .i64 c4, .int .i64 c5, .int .i64 c6] 31)).alloc (.cells #[.int .i64 0, .int .i64 0, .slice none 0 0, .slice none 0 0, .int .i64 0, .int .i64 0, .int .i64 0, .int .i64 0, .int .i64 0, .int .i64 0, .bool false, .int .i64 0, .int .i64 0, .bool false] 46)) (.cells #[.int .i64 0, .int .i64 0, .slice none 0 0, .slice none 0 0, .int .i64 0, .int .i64 0, .int .i64 0, .int .i64 0, .int .i64 0, .int .i64 0, .bool false, .int .i64 0, .int .i64 0, .bool false] 46)
 have tw := (ta.trans tb).trans tc
 have bC := ((Blk.new w 31 #[.int .i64 c1, .int .i64 c2, .int .i64 c3, .int .i64 c4, .int .i64 c5, .int .i64 c6]).keep tb id).keep tc id
 have bO := (Blk.new2 w (.cells #[.int .i64 c1, .int .i64 c2, .int .i64 c3, .int .i64 c4, .int .i64 c5, .int .i64 c6] 31) 46 #[.int .i64 0, .int .i64 0, .slice none 0 0, .slice none 0 0, .int .i64 0, .int .i64 0, .int .i64 0, .int .i64 0, .int .i64 0, .int .i64 0, .bool false, .int .i64 0, .int .i64 0, .bool false]).keep tc id
 have bR : Blk (((w.alloc (.cells #[.int .i64 c1, .int .i64 c2, .int .i64 c3, .int .i64 c4, .int .i64 c5, .int .i64 c6] 31)).alloc (.cells #[.int .i64 0, .int .i64 0, .slice none 0 0, .slice none 0 0, .int .i64 0, .int .i64 0, .int .i64 0, .int .i64 0, .int .i64 0, .int .i64 0, .bool false, .int .i64 0, .int .i64 0, .bool false] 46)).alloc (.cells #[.int .i64 0, .int .i64 0, .slice none 0 0, .slice none 0 0, .int .i64 0, .int .i64 0, .int .i64 0, .int .i64 0, .int .i64 0, .int .i64 0, .bool false, .int .i64 0, .int .i64 0, .bool false] 46)) (w.heap.size + 1 + 1) 46 #[.int .i64 0, .int .i64 0, .slice none 0 0, .slice none 0 0, .int .i64 0, .int .i64 0, .int .i64 0, .int .i64 0, .int .i64 0, .int .i64 0, .bool false, .int .i64 0, .int .i64 0, .bool false] := by simpa using Blk.new ((w.alloc (.cells #[.int .i64 c1, .int .i64 c2, .int .i64 c3, .int .i64 c4, .int .i64 c5, .int .i64 c6] 31)).alloc (.cells #[.int .i64 0, .int .i64 0, .slice none 0 0, .slice none 0 0, .int .i64 0, .int .i64 0, .int .i64 0, .int .i64 0, .int .i64 0, .int .i64 0, .bool false, .int .i64 0, .int .i64 0, .bool false] 46)) 46 #[.int .i64 0, .int .i64 0, .slice none 0 0, .slice none 0 0, .int .i64 0, .int .i64 0, .int .i64 0, .int .i64 0, .int .i64 0, .int .i64 0, .bool false, .int .i64 0, .int .i64 0, .bool false]
 have HVL := Lib.hid (vwleaves_any (h.keep tw) hn)
 have hcc : (((w.alloc (.cells #[.int .i64 c1, .int .i64 c2, .int .i64 c3, .int .i64 c4, .int .i64 c5, .int .i64 c6] 31)).alloc (.cells #[.int .i64 0, .int .i64 0, .slice none 0 0, .slice none 0 0, .int .i64 0, .int .i64 0, .int .i64 0, .int .i64 0, .int .i64 0, .int .i64 0, .bool false, .int .i64 0, .int .i64 0, .bool false] 46)).alloc (.cells #[.int .i64 0, .int .i64 0, .slice none 0 0, .slice none 0 0, .int .i64 0, .int .i64 0, .int .i64 0, .int .i64 0, .int .i64 0, .int .i64 0, .bool false, .int .i64 0, .int .i64 0, .bool false] 46)).cell? ⟨w.heap.size, 5, none⟩ = some (.int .i64 c6) := bC.cell 5
 clear ta tb tc h
 by_cases h6 : c6 = 0
 rotate_left
 ·rw [if_pos h6]
  have hb : (c6 != 0) = true := by simpa using h6
  have HBO := Lib.hid bO
  have HTW := Lib.hid tw
  clear h6 HVL bC bR tw bO
  go_enter Tryz.func132, Tryz.ntmps132
  go_wp2_with fail
  (try simp only [Exit.inBlock, Exit.then])
  (try rw [Exit.noGoto_ret])
  refine bodyPost_ret (results_cell_row (P := Tryz.prog) rfl _ _ (w.heap.size + 1) 46 _ (0, 0) _ rfl HBO.out Tryz.underlying46 rfl (by kernel_rfl)) rfl ?_
  exact ⟨[], none, 0, rfl, rfl, Row.nil _ _ _, HTW.out⟩
 subst h6
 rw [if_neg (fun h => h rfl)]
 generalize accLeaves b.accs = L at *
 go_enter Tryz.func132, Tryz.ntmps132
 go_wp2_with fail
 generalize ((w.alloc (.cells #[.int .i64 c1, .int .i64 c2, .int .i64 c3, .int .i64 c4, .int .i64 c5, .int .i64 0] 31)).alloc (.cells #[.int .i64 0, .int .i64 0, .slice none 0 0, .slice none 0 0, .int .i64 0, .int .i64 0, .int .i64 0, .int .i64 0, .int .i64 0, .int .i64 0, .bool false, .int .i64 0, .int .i64 0, .bool false] 46)).alloc _ = W at *
 generalize hzw : w.heap.size = z at *
 have HZW := Lib.hid hzw
 clear hzw
 refine HVL.out.mono ?_
 rintro _ w1 ⟨u, rfl, hO⟩
 have bC1 := bC.keep hO.tch id
 have bO1 := bO.keep hO.tch id
 have bR1 := bR.keep hO.tch id
 have T1 := tw.trans hO.tch
 have hl := hO.row
 have HUU := Lib.hid (fun g (hg : u.ownBlock = some g) => (hO.own.lt g hg).1)
 obtain ⟨U, cu, rfl, hu1, hu2⟩ := hO.form
 have hzz : z + 3 ≤ w1.heap.size := by have := bR1.lt; omega
 have hln : (L.length : Int) ≤ 1000 := by omega
 have HLB := Lib.hid hl
 have hzb : z + 2 < W.heap.size := bR.lt
 have HROW := Lib.hid (fun wr (ht : Tch (fun g => g = z + 1 + 1) w1 wr) => Row.keepTo (P' := fun _ => True) (Row.own hO.own (P := fun g => W.heap.size ≤ g) (fun g hg => (hO.own.lt g hg).1)) ht (fun g _ hg => ⟨fun e => by have e : g = z + 1 + 1 := e; omega, trivial⟩))
 clear HVL hcc bC bO bR tw hO hl HUU HLB
 go_wp2_with fail
 go_loopw [16] (fun i wr => ∃ (j : Nat) (xs : List Rt6) (O : Option Addr) (co : Nat), j ≤ L.length ∧ i = .int .i64 j ∧ plugOf (L.take j) (c1, c2, c3, c4, c5, 0) = xs ∧ Blk wr (z + 1 + 1) 46 #[.int .i64 0, .int .i64 0, .slice none 0 0, .slice O xs.length co, .int .i64 0, .int .i64 0, .int .i64 0, .int .i64 0, .int .i64 0, .int .i64 0, .bool false, .int .i64 0, .int .i64 0, .bool false] ∧ wr.ownsRow w1.heap.size 31 6 (.slice O xs.length co) xs.length (xs.flatMap int6) ∧ Tch (fun g => g = z + 1 + 1) w1 wr) (fun i _ => L.length - (intOf i).toNat)
 case atStart => exact ⟨0, [], none, 0, Nat.zero_le _, rfl, rfl, bR1, World.ownsRow_nil _ _ _ _, Tch.refl _ _⟩
 case round =>
  obtain ⟨j, xs, O, co, hj, rfl, hxs, hR, hown, ht⟩ := hrel
  have HXS := Lib.hid hxs
  have hxl : xs.length ≤ j := by
   rw [← hxs]
   unfold plugOf
   rw [List.length_map]
   exact Nat.le_trans (List.length_filter_le _ _) (by rw [List.length_take]; omega)
  clear hxs
  by_cases hlt : j < L.length
  ·have hlt' : (j : Int) < (L.length : Int) := by omega
   have hj0 : (0 : Int) ≤ (j : Int) := Int.natCast_nonneg _
   have hl9 := HROW.out wr ht
   obtain ⟨g, o9, rfl⟩ := hl9.head (by omega)
   have q0 := Row.one hl9 int1_len hlt rfl
   have HPS := Lib.hid (show plugOf (L.take (j + 1)) (c1, c2, c3, c4, c5, 0) = xs ++ (if L[j] ≠ 1 then [(c1, c2, L[j], c4, c5, 0)] else []) by
    rw [← HXS.out]
    unfold plugOf
    rw [List.take_succ_eq_append_getElem hlt, List.filter_append, List.map_append]
    by_cases h1 : L[j] = 1 <;> simp [h1])
   generalize L[j] = x at *
   clear HXS hl9
   by_cases hx : x = 1
   ·subst hx
    have hps := HPS.out
    rw [if_neg (fun h => h rfl), List.append_nil] at hps
    have HP2 := Lib.hid hps
    clear hps HPS
    go_wp2
    go_roundw
    case rel => exact ⟨j + 1, xs, O, co, by omega, by go_num, HP2.out, hR, hown, ht⟩
    case measure => simp [intOf] <;> omega
   ·have hxb : (x != 1) = true := by simpa using hx
    have hps := HPS.out
    rw [if_pos hx] at hps
    have HP2 := Lib.hid hps
    have bCr := bC1.keep ht (by omega)
    have tD := Tch.alloc (fun _ => False) wr (.cells #[.int .i64 c1, .int .i64 c2, .int .i64 x, .int .i64 c4, .int .i64 c5, .int .i64 0] 31)
    have tE := Tch.alloc (fun _ => False) (wr.alloc (.cells #[.int .i64 c1, .int .i64 c2, .int .i64 x, .int .i64 c4, .int .i64 c5, .int .i64 0] 31)) (.cells #[.int .i64 c1, .int .i64 c2, .int .i64 x, .int .i64 c4, .int .i64 c5, .int .i64 0] 31)
    have tDE := tD.trans tE
    have hR2 := hR.keep tDE id
    have hown2 := tDE.own hown (fun _ _ => id)
    have HSZ := ht.size
    have HBE := Lib.hid (fun m9 => (Blk.new2 wr (.cells #[.int .i64 c1, .int .i64 c2, .int .i64 x, .int .i64 c4, .int .i64 c5, .int .i64 0] 31) 31 #[.int .i64 c1, .int .i64 c2, .int .i64 x, .int .i64 c4, .int .i64 c5, .int .i64 0]).cell m9)
    have m3 : (wr.alloc (.cells #[.int .i64 c1, .int .i64 c2, .int .i64 x, .int .i64 c4, .int .i64 c5, .int .i64 0] 31)).cell? ⟨z + 1 + 1, 3, none⟩ = some (.slice O xs.length co) := (hR.keep tD id).cell 3
    have HLT := Lib.hid (fun g hg => hown.lt g hg)
    have hlen5 : xs.length ≤ 1000 := by omega
    have y0 : wr.cell? ⟨z, 0, none⟩ = some (.int .i64 c1) := bCr.cell 0
    have y1 : wr.cell? ⟨z, 1, none⟩ = some (.int .i64 c2) := bCr.cell 1
    have y2 : wr.cell? ⟨z, 2, none⟩ = some (.int .i64 c3) := bCr.cell 2
    have y3 : wr.cell? ⟨z, 3, none⟩ = some (.int .i64 c4) := bCr.cell 3
    have y4 : wr.cell? ⟨z, 4, none⟩ = some (.int .i64 c5) := bCr.cell 4
    have y5 : wr.cell? ⟨z, 5, none⟩ = some (.int .i64 0) := bCr.cell 5
    clear hps HPS hx hown hR bCr tD tE
    go_wp2_with (at_builtin; refine Hid.out ?_)
    refine Lib.hid ?_
    refine wpList_append _ rfl _ _ 40 rfl rowCells (own_base hown2) (by rfl) (Go.Gk.Src.one (news := int6 (c1, c2, x, c4, c5, 0)) rfl (fun m9 u9 hu9 => by rw [HBE.out m9]; simpa [int6] using hu9)) (by rfl) (one6 _) (by unfold maxLen; omega) (by omega) ?_
    intro v2 w2 ho2 hg2 hl2
    obtain ⟨O2, co2, rfl, _, _⟩ := own_form ho2
    have tg : Tch (fun g => w1.heap.size ≤ g) _ w2 := Tch.grown hg2 fun k9 hk9 => .inl (HLT.out k9 hk9).1
    have hR3 := hR2.keep tg (by omega)
    have t2 := ht.trans (Exn.touch tDE)
    have t3 := t2.trans' tg (fun i hi => .inr hi)
    have hob : ∀ g, (Value.slice O2 (xs.length + 1) co2).ownBlock = some g → w1.heap.size ≤ g := fun g hg => by
     rcases hl2 g hg with h9 | h9
     ·exact (HLT.out g h9).1
     ·have := tDE.size; omega
    clear hR2 hown2 tDE tg hg2 hl2 ht t2 HBE
    go_wp2_with (refine wpList_store_cell rfl _ _ _ rfl (z + 1 + 1) 3 (.slice O2 (xs.length + 1) co2) (by rfl) (by rfl) rfl (by rfl) hR3 (by simp) ?_; refine Hid.out ?_)
    refine Lib.hid ?_
    intro w4 hR4 ts4
    (try simp only [List.setIfInBounds_toArray, List.set_cons_succ, List.set_cons_zero] at hR4)
    have hown4 := ts4.own (own_up ho2 hob) (fun g hg he => by have he : g = z + 1 + 1 := he; have := hob g hg; omega)
    have t4 := t3.trans ts4
    clear hR3 ho2 hob ts4 t3 HLT
    go_wp2
    go_roundw
    case rel => exact ⟨j + 1, xs ++ [(c1, c2, x, c4, c5, 0)], O2, co2, by omega, by go_num, HP2.out, by simpa using hR4, by simpa [int6] using hown4, t4⟩
    case measure => simp [intOf] <;> omega
  ·obtain rfl : j = L.length := by omega
   have hxs := HXS.out
   rw [List.take_length] at hxs
   have hlt' : ¬ (L.length : Int) < (L.length : Int) := by omega
   have bO2 := bO1.keep ht (by omega)
   have r0 : wr.cell? ⟨z + 1 + 1, 0, none⟩ = some (.int .i64 0) := hR.cell 0
   have r1 : wr.cell? ⟨z + 1 + 1, 1, none⟩ = some (.int .i64 0) := hR.cell 1
   have r2 : wr.cell? ⟨z + 1 + 1, 2, none⟩ = some (.slice none 0 0) := hR.cell 2
   have r3 : wr.cell? ⟨z + 1 + 1, 3, none⟩ = some (.slice O xs.length co) := hR.cell 3
   have r4 : wr.cell? ⟨z + 1 + 1, 4, none⟩ = some (.int .i64 0) := hR.cell 4
   have r5 : wr.cell? ⟨z + 1 + 1, 5, none⟩ = some (.int .i64 0) := hR.cell 5
   have r6 : wr.cell? ⟨z + 1 + 1, 6, none⟩ = some (.int .i64 0) := hR.cell 6
   have r7 : wr.cell? ⟨z + 1 + 1, 7, none⟩ = some (.int .i64 0) := hR.cell 7
   have r8 : wr.cell? ⟨z + 1 + 1, 8, none⟩ = some (.int .i64 0) := hR.cell 8
   have r9 : wr.cell? ⟨z + 1 + 1, 9, none⟩ = some (.int .i64 0) := hR.cell 9
   have r10 : wr.cell? ⟨z + 1 + 1, 10, none⟩ = some (.bool false) := hR.cell 10
   have r11 : wr.cell? ⟨z + 1 + 1, 11, none⟩ = some (.int .i64 0) := hR.cell 11
   have r12 : wr.cell? ⟨z + 1 + 1, 12, none⟩ = some (.int .i64 0) := hR.cell 12
   have r13 : wr.cell? ⟨z + 1 + 1, 13, none⟩ = some (.bool false) := hR.cell 13
   have T2 := T1.trans' ht (fun i hi => .inr (by have hi : i = z + 1 + 1 := hi; have := HZW.out; omega))
   have HROWS := Lib.hid (fun w' (t9 : Tch (fun g => g = z + 1) wr w') => Row.keepTo (P' := fun g => w.heap.size ≤ g) (Row.own hown (P := fun g => w1.heap.size ≤ g) (fun g hg => (hown.lt g hg).1)) t9 (fun g _ hg => ⟨fun e => by have e : g = z + 1 := e; omega, by have := HZW.out; omega⟩))
   have HXL := Lib.hid hxs
   clear hxs HXS hR hown hlt ht HROW bC1 bO1 bR1 T1
   go_wp2_with (refine wpList_store_blk rfl _ _ _ rfl (z + 1) #[.int .i64 0, .int .i64 0, .slice none 0 0, .slice O xs.length co, .int .i64 0, .int .i64 0, .int .i64 0, .int .i64 0, .int .i64 0, .int .i64 0, .bool false, .int .i64 0, .int .i64 0, .bool false] (by rfl) (by rfl) bO2 (by kernel_rfl) rfl (by simp [Value.oneCell']) ?_; refine Hid.out ?_)
   refine Lib.hid ?_
   intro w9 hF tF
   have HBF := Lib.hid hF
   have HTF := Lib.hid tF
   clear hF tF bO2 r0 r1 r2 r3 r4 r5 r6 r7 r8 r9 r10 r11 r12 r13
   go_wp2
   (try simp only [Exit.inBlock, Exit.then])
   (try rw [Exit.noGoto_ret])
   refine bodyPost_ret (results_cell_row (P := Tryz.prog) rfl _ _ (z + 1) 46 _ (0, 0) _ rfl HBF.out Tryz.underlying46 rfl (by kernel_rfl)) rfl ?_
   refine ⟨xs, O, co, HXL.out.symm, rfl, HROWS.out w9 HTF.out, T2.trans' (F' := fun g => g = z + 1) HTF.out (fun i hi => .inr (by have hi : i = z + 1 := hi; have := HZW.out; omega))⟩
set_option maxRecDepth 100000 in
set_option maxHeartbeats 800000 in
theorem transwith_any {w : World} {g : Nat} {c1 c2 c3 c4 c5 c6 : Int} (hb : Blk w g 31 #[.int .i64 c1, .int .i64 c2, .int .i64 c3, .int .i64 c4, .int .i64 c5, .int .i64 c6]) (r : Int) :
 Calls Tryz.prog 133 #[.int .i64 r, .pointer (some ⟨g, 0, none⟩)] w fun x w' => x = .returned (.agg #[.int .i64 r, .int .i64 c2, .int .i64 c3, .int .i64 c4, .int .i64 0, .int .i64 c6]) ∧ Tch (fun _ => False) w w' := by
 have hb1 := hb.keep (Tch.alloc (fun _ => False) w (.cells #[.int .i64 0, .int .i64 0, .int .i64 0, .int .i64 0, .int .i64 0, .int .i64 0] 31)) id
 have x0 : (w.alloc (.cells #[.int .i64 0, .int .i64 0, .int .i64 0, .int .i64 0, .int .i64 0, .int .i64 0] 31)).cell? ⟨g, 0, none⟩ = some (.int .i64 c1) := hb1.cell 0
 have x1 : (w.alloc (.cells #[.int .i64 0, .int .i64 0, .int .i64 0, .int .i64 0, .int .i64 0, .int .i64 0] 31)).cell? ⟨g, 1, none⟩ = some (.int .i64 c2) := hb1.cell 1
 have x2 : (w.alloc (.cells #[.int .i64 0, .int .i64 0, .int .i64 0, .int .i64 0, .int .i64 0, .int .i64 0] 31)).cell? ⟨g, 2, none⟩ = some (.int .i64 c3) := hb1.cell 2
 have x3 : (w.alloc (.cells #[.int .i64 0, .int .i64 0, .int .i64 0, .int .i64 0, .int .i64 0, .int .i64 0] 31)).cell? ⟨g, 3, none⟩ = some (.int .i64 c4) := hb1.cell 3
 have x4 : (w.alloc (.cells #[.int .i64 0, .int .i64 0, .int .i64 0, .int .i64 0, .int .i64 0, .int .i64 0] 31)).cell? ⟨g, 4, none⟩ = some (.int .i64 c5) := hb1.cell 4
 have x5 : (w.alloc (.cells #[.int .i64 0, .int .i64 0, .int .i64 0, .int .i64 0, .int .i64 0, .int .i64 0] 31)).cell? ⟨g, 5, none⟩ = some (.int .i64 c6) := hb1.cell 5
 clear hb hb1
 go_enter Tryz.func133, Tryz.ntmps133
 go_wp2_with fail
 (try simp only [Exit.inBlock, Exit.then])
 (try rw [Exit.noGoto_ret])
 refine bodyPost_ret (results_cell_row (P := Tryz.prog) rfl _ _ (w.heap.size) 31 _ (0, 0) _ rfl ((Blk.new w 31 #[.int .i64 r, .int .i64 c2, .int .i64 c3, .int .i64 c4, .int .i64 0, .int .i64 c6]).keep (Tch.alloc (fun _ => False) _ _) id) Tryz.underlying31 rfl (by kernel_rfl)) rfl ?_
 exact ⟨rfl, (Tch.alloc _ _ _).trans (Tch.alloc _ _ _)⟩
def TransOk (b : Bks) (c : Rt6) (w : World) (x : Ending) (w' : World) : Prop := ∃ v, x = .returned (.tuple #[v, .int .i64 (transOf b c).2]) ∧ RcpIs w' v (transOf b c).1 ∧ Tch (fun _ => False) w w'
set_option maxRecDepth 100000 in
set_option maxHeartbeats 25600000 in
theorem transrec_any (h : Vw w bv bi B t mr mp e a s r l n lv fs b us) (hn : (accLeaves b.accs).length ≤ 1000) (hr : b.rates.length ≤ 1000000) (hT : Tab64 1 w) (c1 c2 c3 c4 c5 c6 : Int) :
 Calls Tryz.prog 88 #[.pointer (some ⟨bv, 0, none⟩), .agg #[.int .i64 c1, .int .i64 c2, .int .i64 c3, .int .i64 c4, .int .i64 c5, .int .i64 c6]] w (TransOk b (c1, c2, c3, c4, c5, c6) w) := by
 have ta := Tch.alloc (fun _ => False) w (.cells #[.int .i64 c1, .int .i64 c2, .int .i64 c3, .int .i64 c4, .int .i64 c5, .int .i64 c6] 31)
 have tb := Tch.alloc (fun _ => False) (w.alloc (.cells #[.int .i64 c1, .int .i64 c2, .int .i64 c3, .int .i64 c4, .int .i64 c5, .int .i64 c6] 31)) (.cells #[.int .i64 0, .int .i64 0, .slice none 0 0, .slice none 0 0, .int .i64 0, .int .i64 0, .int .i64 0, .int .i64 0, .int .i64 0, .int .i64 0, .bool false, .int .i64 0, .int .i64 0, .bool false] 46)
 have tw := ta.trans tb
 have bC := (Blk.new w 31 #[.int .i64 c1, .int .i64 c2, .int .i64 c3, .int .i64 c4, .int .i64 c5, .int .i64 c6]).keep tb id
 have bO := Blk.new2 w (.cells #[.int .i64 c1, .int .i64 c2, .int .i64 c3, .int .i64 c4, .int .i64 c5, .int .i64 c6] 31) 46 #[.int .i64 0, .int .i64 0, .slice none 0 0, .slice none 0 0, .int .i64 0, .int .i64 0, .int .i64 0, .int .i64 0, .int .i64 0, .int .i64 0, .bool false, .int .i64 0, .int .i64 0, .bool false]
 have HM := Lib.hid (transmay_any (h.keep tw) hn (c1, c2, c3, c4, c5, c6))
 have HH := Lib.hid h
 have HTT := Lib.hid hT
 unfold cellV at HM
 simp only at HM
 have HL : Hid (transOf b (c1, c2, c3, c4, c5, c6) = if mayOf b (c1, c2, c3, c4, c5, c6) 3 3 = 0 then (transRcp b (c1, c2, c3, c4, c5, c6), 0) else (Rcp.none, mayOf b (c1, c2, c3, c4, c5, c6) 3 3)) := Lib.hid rfl
 have HFA := Lib.hid (fun h => may_facts (b := b) (c := (c1, c2, c3, c4, c5, c6)) (lo := 3) (hi := 3) h)
 have hsz : ((w.alloc (.cells #[.int .i64 c1, .int .i64 c2, .int .i64 c3, .int .i64 c4, .int .i64 c5, .int .i64 c6] 31)).alloc (.cells #[.int .i64 0, .int .i64 0, .slice none 0 0, .slice none 0 0, .int .i64 0, .int .i64 0, .int .i64 0, .int .i64 0, .int .i64 0, .int .i64 0, .bool false, .int .i64 0, .int .i64 0, .bool false] 46)).heap.size = w.heap.size + 2 := by simp
 have k0 : ((w.alloc (.cells #[.int .i64 c1, .int .i64 c2, .int .i64 c3, .int .i64 c4, .int .i64 c5, .int .i64 c6] 31)).alloc (.cells #[.int .i64 0, .int .i64 0, .slice none 0 0, .slice none 0 0, .int .i64 0, .int .i64 0, .int .i64 0, .int .i64 0, .int .i64 0, .int .i64 0, .bool false, .int .i64 0, .int .i64 0, .bool false] 46)).cell? ⟨w.heap.size, 0, none⟩ = some (.int .i64 c1) := bC.cell 0
 have k1 : ((w.alloc (.cells #[.int .i64 c1, .int .i64 c2, .int .i64 c3, .int .i64 c4, .int .i64 c5, .int .i64 c6] 31)).alloc (.cells #[.int .i64 0, .int .i64 0, .slice none 0 0, .slice none 0 0, .int .i64 0, .int .i64 0, .int .i64 0, .int .i64 0, .int .i64 0, .int .i64 0, .bool false, .int .i64 0, .int .i64 0, .bool false] 46)).cell? ⟨w.heap.size, 1, none⟩ = some (.int .i64 c2) := bC.cell 1
 have k2 : ((w.alloc (.cells #[.int .i64 c1, .int .i64 c2, .int .i64 c3, .int .i64 c4, .int .i64 c5, .int .i64 c6] 31)).alloc (.cells #[.int .i64 0, .int .i64 0, .slice none 0 0, .slice none 0 0, .int .i64 0, .int .i64 0, .int .i64 0, .int .i64 0, .int .i64 0, .int .i64 0, .bool false, .int .i64 0, .int .i64 0, .bool false] 46)).cell? ⟨w.heap.size, 2, none⟩ = some (.int .i64 c3) := bC.cell 2
 have k3 : ((w.alloc (.cells #[.int .i64 c1, .int .i64 c2, .int .i64 c3, .int .i64 c4, .int .i64 c5, .int .i64 c6] 31)).alloc (.cells #[.int .i64 0, .int .i64 0, .slice none 0 0, .slice none 0 0, .int .i64 0, .int .i64 0, .int .i64 0, .int .i64 0, .int .i64 0, .int .i64 0, .bool false, .int .i64 0, .int .i64 0, .bool false] 46)).cell? ⟨w.heap.size, 3, none⟩ = some (.int .i64 c4) := bC.cell 3
 have k4 : ((w.alloc (.cells #[.int .i64 c1, .int .i64 c2, .int .i64 c3, .int .i64 c4, .int .i64 c5, .int .i64 c6] 31)).alloc (.cells #[.int .i64 0, .int .i64 0, .slice none 0 0, .slice none 0 0, .int .i64 0, .int .i64 0, .int .i64 0, .int .i64 0, .int .i64 0, .int .i64 0, .bool false, .int .i64 0, .int .i64 0, .bool false] 46)).cell? ⟨w.heap.size, 4, none⟩ = some (.int .i64 c5) := bC.cell 4
 have k5 : ((w.alloc (.cells #[.int .i64 c1, .int .i64 c2, .int .i64 c3, .int .i64 c4, .int .i64 c5, .int .i64 c6] 31)).alloc (.cells #[.int .i64 0, .int .i64 0, .slice none 0 0, .slice none 0 0, .int .i64 0, .int .i64 0, .int .i64 0, .int .i64 0, .int .i64 0, .int .i64 0, .bool false, .int .i64 0, .int .i64 0, .bool false] 46)).cell? ⟨w.heap.size, 5, none⟩ = some (.int .i64 c6) := bC.cell 5
 generalize mayOf b (c1, c2, c3, c4, c5, c6) 3 3 = m at *
 clear ta tb h hT
 go_enter Tryz.func88, Tryz.ntmps88
 go_wp2_with fail
 generalize (w.alloc (.cells #[.int .i64 c1, .int .i64 c2, .int .i64 c3, .int .i64 c4, .int .i64 c5, .int .i64 c6] 31)).alloc _ = W at *
 generalize hzw : w.heap.size = z at *
 have HZW := Lib.hid hzw
 clear hzw
 refine HM.out.mono ?_
 rintro _ w1 ⟨rfl, t1⟩
 have bC1 := bC.keep t1 id
 have bO1 := bO.keep t1 id
 have T1 := tw.trans t1
 have hz1 : z + 2 ≤ w1.heap.size := by have := t1.size; omega
 clear HM bC bO tw t1 hsz k0 k1 k2 k3 k4 k5
 by_cases hm : m = 0
 rotate_left
 ·have hm' : (m != 0) = true := by simpa using hm
  have HLN := Lib.hid (show transOf b (c1, c2, c3, c4, c5, c6) = (Rcp.none, m) by rw [HL.out, if_neg hm])
  clear hm HL HFA HH HTT bC1
  go_wp2_with (refine wpList_store_blk rfl _ _ _ rfl (z + 1) #[.int .i64 0, .int .i64 0, .slice none 0 0, .slice none 0 0, .int .i64 0, .int .i64 0, .int .i64 0, .int .i64 0, .int .i64 0, .int .i64 0, .bool false, .int .i64 0, .int .i64 0, .bool false] (by rfl) (by rfl) bO1 (by kernel_rfl) rfl (by simp [Value.oneCell']) ?_; refine Hid.out ?_)
  refine Lib.hid ?_
  intro w9 hF tF
  have HBF := Lib.hid hF
  have HTF := Lib.hid tF
  clear hF tF bO1
  go_wp2
  (try simp only [Exit.inBlock, Exit.then])
  (try rw [Exit.noGoto_ret])
  refine bodyPost_ret (results_row_tmp (P := Tryz.prog) rfl _ _ (z + 1) 46 _ (0, 0) _ rfl HBF.out Tryz.underlying46 rfl (by kernel_rfl)) rfl ?_
  unfold TransOk
  rw [HLN.out]
  exact ⟨_, rfl, ⟨_, _, rfl, Row.nil _ _ _, Row.nil _ _ _⟩, T1.trans' (F' := fun g => g = z + 1) HTF.out (fun i hi => .inr (by have hi : i = z + 1 := hi; have := HZW.out; omega))⟩
 obtain ⟨_, ⟨hp0, hp1⟩, _, hlf⟩ := HFA.out hm
 have HLF := Lib.hid (show accLeaf b.accs c3 = true from hlf)
 have HC4 := Lib.hid (show 0 ≤ c4 ∧ c4 ≤ 23 from ⟨hp0, hp1⟩)
 have HLN := Lib.hid (show transOf b (c1, c2, c3, c4, c5, c6) = (transRcp b (c1, c2, c3, c4, c5, c6), 0) by rw [HL.out, if_pos hm])
 subst hm
 clear HL HFA hp0 hp1 hlf
 have H1 := Lib.hid (HH.out.keep T1)
 have k0 : w1.cell? ⟨z, 0, none⟩ = some (.int .i64 c1) := bC1.cell 0
 have k1 : w1.cell? ⟨z, 1, none⟩ = some (.int .i64 c2) := bC1.cell 1
 have k2 : w1.cell? ⟨z, 2, none⟩ = some (.int .i64 c3) := bC1.cell 2
 have k3 : w1.cell? ⟨z, 3, none⟩ = some (.int .i64 c4) := bC1.cell 3
 have k4 : w1.cell? ⟨z, 4, none⟩ = some (.int .i64 c5) := bC1.cell 4
 have k5 : w1.cell? ⟨z, 5, none⟩ = some (.int .i64 c6) := bC1.cell 5
 by_cases h31 : c3 = 1
 ·subst h31
  have HPL := Lib.hid (fun w' (t : Tch (fun _ => False) w w') => plug_any (HH.out.keep t) hn c1 c2 1 c4 c5 c6)
  have HRC := Lib.hid (show transRcp b (c1, c2, 1, c4, c5, c6) = if c6 ≠ 0 then Rcp.none else { Rcp.none with minus := plugOf (accLeaves b.accs) (c1, c2, 1, c4, c5, c6) } from rfl)
  have HP1 := Lib.hid (HPL.out w1 T1)
  clear HPL HTT HLF
  go_wp2_with fail
  refine HP1.out.mono ?_
  rintro _ w2 ⟨xs, O, co, hxs, rfl, hrow, t2⟩
  have HXS := Lib.hid hxs
  have HROW := Lib.hid (fun w' (t9 : Tch (fun g => g = z + 1) w2 w') => Row.keepTo (P' := fun _ => True) hrow t9 (fun g _ hg => ⟨fun e => by have e : g = z + 1 := e; omega, trivial⟩))
  have bO2 := bO1.keep t2 id
  have T2 := T1.trans t2
  clear HP1 hxs hrow t2 bC1 bO1 T1 H1 HH k0 k1 k2 k3 k4 k5
  go_wp2_with (refine wpList_store_blk rfl _ _ _ rfl (z + 1) #[.int .i64 0, .int .i64 0, .slice none 0 0, .slice O xs.length co, .int .i64 0, .int .i64 0, .int .i64 0, .int .i64 0, .int .i64 0, .int .i64 0, .bool false, .int .i64 0, .int .i64 0, .bool false] (by rfl) (by rfl) bO2 (by kernel_rfl) rfl (by simp [Value.oneCell']) ?_; refine Hid.out ?_)
  refine Lib.hid ?_
  intro w9 hF tF
  have HBF := Lib.hid hF
  have HTF := Lib.hid tF
  clear hF tF bO2
  go_wp2
  (try simp only [Exit.inBlock, Exit.then])
  (try rw [Exit.noGoto_ret])
  refine bodyPost_ret (results_row_tmp (P := Tryz.prog) rfl _ _ (z + 1) 46 _ (0, 0) _ rfl HBF.out Tryz.underlying46 rfl (by kernel_rfl)) rfl ?_
  unfold TransOk
  rw [HLN.out, HRC.out]
  have hr9 := HROW.out w9 HTF.out
  refine ⟨_, rfl, ?_, T2.trans' (F' := fun g => g = z + 1) HTF.out (fun i hi => .inr (by have hi : i = z + 1 := hi; have := HZW.out; omega))⟩
  have hxs := HXS.out
  by_cases h6 : c6 ≠ 0
  ·rw [if_pos h6] at hxs ⊢
   subst hxs
   exact ⟨_, _, rfl, Row.nil _ _ _, hr9⟩
  ·rw [if_neg h6] at hxs ⊢
   subst hxs
   exact ⟨_, _, rfl, Row.nil _ _ _, hr9⟩
 have h31b : (c3 == 1) = false := by simpa using h31
 have HCU := Lib.hid (vwcurrency_any H1.out c2)
 have HRC := Lib.hid (show transRcp b (c1, c2, c3, c4, c5, c6) = if curOf b c2 = c5 then { Rcp.none with plus := [(2, c2, c3, c4, 0, c6)] } else { Rcp.none with plus := if kindOf b c3 ≠ 1 ∧ 0 < c4 then [(c1, c2, c3, c4 - 1, c5, c6)] else [], scaled := (if kindOf b c3 = 1 then 2 else 1, c2, c3, c4, 0, c6), rated := true, ratio := (rateOf b.rates (curOf b c2) c5 (kindOf b c3) c4).1, has := (rateOf b.rates (curOf b c2) c5 (kindOf b c3) c4).2 } from by unfold transRcp; simp only; rw [if_neg h31])
 generalize curOf b c2 = cu at *
 clear h31
 go_wp2_with fail
 refine HCU.out.mono ?_
 rintro _ _ ⟨rfl, rfl⟩
 clear HCU
 by_cases he : cu = c5
 ·have hb : (cu == c5) = true := by simpa using he
  have hrc := HRC.out
  rw [if_pos he] at hrc
  have HRC2 := Lib.hid hrc
  have HWI := Lib.hid (transwith_any bC1 2)
  clear hrc HRC he HTT HLF H1 HH bC1
  go_wp2_with fail
  refine HWI.out.mono ?_
  rintro _ w2 ⟨rfl, t2⟩
  have tD := Tch.alloc (fun _ => False) w2 (.cells #[.int .i64 2, .int .i64 c2, .int .i64 c3, .int .i64 c4, .int .i64 0, .int .i64 c6] 31)
  have bD := Blk.new w2 31 #[.int .i64 2, .int .i64 c2, .int .i64 c3, .int .i64 c4, .int .i64 0, .int .i64 c6]
  have bO3 := (bO1.keep t2 id).keep tD id
  have T3 := (T1.trans t2).trans tD
  have hy2 := t2.size
  clear HWI bO1 T1 t2 tD k0 k1 k2 k3 k4 k5
  go_wp2_with (refine wpList_store_blk rfl _ _ _ rfl (z + 1) #[.int .i64 0, .int .i64 0, .slice (some ⟨w2.heap.size, 0, none⟩) 1 1, .slice none 0 0, .int .i64 0, .int .i64 0, .int .i64 0, .int .i64 0, .int .i64 0, .int .i64 0, .bool false, .int .i64 0, .int .i64 0, .bool false] (by rfl) (by rfl) bO3 (by kernel_rfl) rfl (by simp [Value.oneCell']) ?_; refine Hid.out ?_)
  refine Lib.hid ?_
  intro w9 hF tF
  generalize w2.alloc _ = W2 at *
  generalize hye : w2.heap.size = y at *
  have HBF := Lib.hid hF
  have HTF := Lib.hid tF
  have HBD := Lib.hid (bD.keep tF (by omega))
  clear hF tF bO3 bD
  go_wp2
  (try simp only [Exit.inBlock, Exit.then])
  (try rw [Exit.noGoto_ret])
  refine bodyPost_ret (results_row_tmp (P := Tryz.prog) rfl _ _ (z + 1) 46 _ (0, 0) _ rfl HBF.out Tryz.underlying46 rfl (by kernel_rfl)) rfl ?_
  unfold TransOk
  rw [HLN.out, HRC2.out]
  exact ⟨_, rfl, ⟨_, _, rfl, Row.blk HBD.out trivial rfl (by decide), Row.nil _ _ _⟩, T3.trans' (F' := fun g => g = z + 1) HTF.out (fun i hi => .inr (by have hi : i = z + 1 := hi; have := HZW.out; omega))⟩
 have hb : (cu == c5) = false := by simpa using he
 have hrc := HRC.out
 rw [if_neg he] at hrc
 have HRC2 := Lib.hid hrc
 clear hrc HRC he
 obtain ⟨k, hk, hkx, hka⟩ := accIs_at HLF.out
 have HAC := Lib.hid (vwaccount_any H1.out hk c3 hkx)
 have hkd : kindOf b c3 = b.accs[k].2.1 := by unfold kindOf; rw [hka]; rfl
 rw [hkd] at HRC2
 clear hkx hka hkd HLF
 generalize b.accs[k] = ac at *
 obtain ⟨a1, kd, a3, a4⟩ := ac
 unfold acc4 at HAC
 simp only at HAC HRC2
 clear hk
 go_wp2_with fail
 refine HAC.out.mono ?_
 rintro _ w2 ⟨rfl, t2⟩
 have tD := Tch.alloc (fun _ => False) w2 (.cells #[.int .i64 a1, .int .i64 kd, .bool a3, .bool a4] 89)
 have tE := Tch.alloc (fun _ => False) (w2.alloc (.cells #[.int .i64 a1, .int .i64 kd, .bool a3, .bool a4] 89)) (.cells #[.int .i64 0, .int .i64 0, .slice none 0 0, .slice none 0 0, .int .i64 0, .int .i64 0, .int .i64 0, .int .i64 0, .int .i64 0, .int .i64 0, .bool true, .int .i64 0, .int .i64 0, .bool false] 46)
 have t2D := t2.trans (tD.trans tE)
 have bA := (Blk.new w2 89 #[.int .i64 a1, .int .i64 kd, .bool a3, .bool a4]).keep tE id
 have bR := Blk.new2 w2 (.cells #[.int .i64 a1, .int .i64 kd, .bool a3, .bool a4] 89) 46 #[.int .i64 0, .int .i64 0, .slice none 0 0, .slice none 0 0, .int .i64 0, .int .i64 0, .int .i64 0, .int .i64 0, .int .i64 0, .int .i64 0, .bool true, .int .i64 0, .int .i64 0, .bool false]
 have bC2 := bC1.keep t2D id
 have bO2 := bO1.keep t2D id
 have T2 := T1.trans t2D
 have hy2 := t2.size
 have HRT := Lib.hid (vwrate_any (H1.out.keep t2D) hr (HTT.out.keep T2) cu c5 kd c4)
 have p1 : ((w2.alloc (.cells #[.int .i64 a1, .int .i64 kd, .bool a3, .bool a4] 89)).alloc (.cells #[.int .i64 0, .int .i64 0, .slice none 0 0, .slice none 0 0, .int .i64 0, .int .i64 0, .int .i64 0, .int .i64 0, .int .i64 0, .int .i64 0, .bool true, .int .i64 0, .int .i64 0, .bool false] 46)).cell? ⟨w2.heap.size, 1, none⟩ = some (.int .i64 kd) := bA.cell 1
 have p3 : ((w2.alloc (.cells #[.int .i64 a1, .int .i64 kd, .bool a3, .bool a4] 89)).alloc (.cells #[.int .i64 0, .int .i64 0, .slice none 0 0, .slice none 0 0, .int .i64 0, .int .i64 0, .int .i64 0, .int .i64 0, .int .i64 0, .int .i64 0, .bool true, .int .i64 0, .int .i64 0, .bool false] 46)).cell? ⟨z, 3, none⟩ = some (.int .i64 c4) := bC2.cell 3
 have p4 : ((w2.alloc (.cells #[.int .i64 a1, .int .i64 kd, .bool a3, .bool a4] 89)).alloc (.cells #[.int .i64 0, .int .i64 0, .slice none 0 0, .slice none 0 0, .int .i64 0, .int .i64 0, .int .i64 0, .int .i64 0, .int .i64 0, .int .i64 0, .bool true, .int .i64 0, .int .i64 0, .bool false] 46)).cell? ⟨z, 4, none⟩ = some (.int .i64 c5) := bC2.cell 4
 generalize rateOf b.rates cu c5 kd c4 = RT at *
 obtain ⟨⟨q1, q2⟩, q3⟩ := RT
 simp only at HRT HRC2
 clear HAC t2 tD tE bC1 bO1 T1 k0 k1 k2 k3 k4 k5 H1 HTT HH t2D
 go_wp2_with fail
 generalize (w2.alloc (.cells #[.int .i64 a1, .int .i64 kd, .bool a3, .bool a4] 89)).alloc _ = W2 at *
 generalize hye : w2.heap.size = y at *
 refine HRT.out.mono ?_
 rintro _ w3 ⟨rfl, t3⟩
 have bA3 := bA.keep t3 id
 have bR3 := bR.keep t3 id
 have bC3 := bC2.keep t3 id
 have bO3 := bO2.keep t3 id
 have T3 := T2.trans t3
 clear HRT p1 p3 p4 bA bR bC2 bO2 T2 t3
 go_wp2_with (refine wpList_store_part rfl _ _ _ rfl (y + 1) [.int .i64 0, .int .i64 0, .slice none 0 0, .slice none 0 0, .int .i64 0, .int .i64 0, .int .i64 0, .int .i64 0, .int .i64 0, .int .i64 0, .bool true] [.int .i64 0, .int .i64 0] [.int .i64 q1, .int .i64 q2] [.bool false] (by rfl) (by rfl) (by simp [Value.oneCell']) (by kernel_rfl) rfl bR3 ?_; refine Hid.out ?_)
 refine Lib.hid ?_
 intro w4 bR4 ts4
 have bR4 : Blk w4 (y + 1) 46 #[.int .i64 0, .int .i64 0, .slice none 0 0, .slice none 0 0, .int .i64 0, .int .i64 0, .int .i64 0, .int .i64 0, .int .i64 0, .int .i64 0, .bool true, .int .i64 q1, .int .i64 q2, .bool false] := bR4
 have bA4 := bA3.keep ts4 (by omega)
 have bC4 := bC3.keep ts4 (by omega)
 have bO4 := bO3.keep ts4 (by omega)
 have T4 := T3.trans' ts4 (fun i hi => .inr (by have hi : i = y + 1 := hi; have := HZW.out; omega))
 clear bR3 bA3 bC3 bO3 T3 ts4
 go_wp2_with (refine wpList_store_cell rfl _ _ _ rfl (y + 1) 13 (.bool q3) (by rfl) (by rfl) rfl (by rfl) bR4 (by simp) ?_; refine Hid.out ?_)
 refine Lib.hid ?_
 intro w5 bR5 ts5
 (try simp only [List.setIfInBounds_toArray, List.set_cons_succ, List.set_cons_zero] at bR5)
 have bA5 := bA4.keep ts5 (by omega)
 have bC5 := bC4.keep ts5 (by omega)
 have bO5 := bO4.keep ts5 (by omega)
 have T5 := T4.trans' ts5 (fun i hi => .inr (by have hi : i = y + 1 := hi; have := HZW.out; omega))
 have p1 : w5.cell? ⟨y, 1, none⟩ = some (.int .i64 kd) := bA5.cell 1
 clear bR4 bA4 bC4 bO4 T4 ts5 bA5
 by_cases hkd : kd = 1
 ·subst hkd
  have HWI := Lib.hid (transwith_any bC5 2)
  have hrc := HRC2.out
  rw [if_pos rfl, if_neg (fun h => h.1 rfl)] at hrc
  have HRC3 := Lib.hid hrc
  clear hrc HRC2
  go_wp2_with fail
  refine HWI.out.mono ?_
  rintro _ w6 ⟨rfl, t6⟩
  have bR6 := bR5.keep t6 id
  have bO6 := bO5.keep t6 id
  have T6 := T5.trans t6
  clear HWI bR5 bO5 T5 t6 p1 bC5
  go_wp2_with (refine wpList_store_part rfl _ _ _ rfl (y + 1) [.int .i64 0, .int .i64 0, .slice none 0 0, .slice none 0 0] [.int .i64 0, .int .i64 0, .int .i64 0, .int .i64 0, .int .i64 0, .int .i64 0] [.int .i64 2, .int .i64 c2, .int .i64 c3, .int .i64 c4, .int .i64 0, .int .i64 c6] [.bool true, .int .i64 q1, .int .i64 q2, .bool q3] (by rfl) (by rfl) (by simp [Value.oneCell']) (by kernel_rfl) rfl bR6 ?_; refine Hid.out ?_)
  refine Lib.hid ?_
  intro w7 bR7 ts7
  have bR7 : Blk w7 (y + 1) 46 #[.int .i64 0, .int .i64 0, .slice none 0 0, .slice none 0 0, .int .i64 2, .int .i64 c2, .int .i64 c3, .int .i64 c4, .int .i64 0, .int .i64 c6, .bool true, .int .i64 q1, .int .i64 q2, .bool q3] := bR7
  have bO7 := bO6.keep ts7 (by omega)
  have T7 := T6.trans' ts7 (fun i hi => .inr (by have hi : i = y + 1 := hi; have := HZW.out; omega))
  have bRZ := bR7
  clear bR7 bR6 bO6 T6 ts7
  have f0 : w7.cell? ⟨y + 1, 0, none⟩ = some (.int .i64 0) := bRZ.cell 0
  have f1 : w7.cell? ⟨y + 1, 1, none⟩ = some (.int .i64 0) := bRZ.cell 1
  have f2 : w7.cell? ⟨y + 1, 2, none⟩ = some (.slice none 0 0) := bRZ.cell 2
  have f3 : w7.cell? ⟨y + 1, 3, none⟩ = some (.slice none 0 0) := bRZ.cell 3
  have f4 : w7.cell? ⟨y + 1, 4, none⟩ = some (.int .i64 2) := bRZ.cell 4
  have f5 : w7.cell? ⟨y + 1, 5, none⟩ = some (.int .i64 c2) := bRZ.cell 5
  have f6 : w7.cell? ⟨y + 1, 6, none⟩ = some (.int .i64 c3) := bRZ.cell 6
  have f7 : w7.cell? ⟨y + 1, 7, none⟩ = some (.int .i64 c4) := bRZ.cell 7
  have f8 : w7.cell? ⟨y + 1, 8, none⟩ = some (.int .i64 0) := bRZ.cell 8
  have f9 : w7.cell? ⟨y + 1, 9, none⟩ = some (.int .i64 c6) := bRZ.cell 9
  have f10 : w7.cell? ⟨y + 1, 10, none⟩ = some (.bool true) := bRZ.cell 10
  have f11 : w7.cell? ⟨y + 1, 11, none⟩ = some (.int .i64 q1) := bRZ.cell 11
  have f12 : w7.cell? ⟨y + 1, 12, none⟩ = some (.int .i64 q2) := bRZ.cell 12
  have f13 : w7.cell? ⟨y + 1, 13, none⟩ = some (.bool q3) := bRZ.cell 13
  clear bRZ 
  go_wp2_with (refine wpList_store_blk rfl _ _ _ rfl (z + 1) #[.int .i64 0, .int .i64 0, .slice none 0 0, .slice none 0 0, .int .i64 2, .int .i64 c2, .int .i64 c3, .int .i64 c4, .int .i64 0, .int .i64 c6, .bool true, .int .i64 q1, .int .i64 q2, .bool q3] (by rfl) (by rfl) bO7 (by kernel_rfl) rfl (by simp [Value.oneCell']) ?_; refine Hid.out ?_)
  refine Lib.hid ?_
  intro w9 hF tF
  have HBF := Lib.hid hF
  have HTF := Lib.hid tF
  clear hF tF bO7 f0 f1 f2 f3 f4 f5 f6 f7 f8 f9 f10 f11 f12 f13
  go_wp2
  (try simp only [Exit.inBlock, Exit.then])
  (try rw [Exit.noGoto_ret])
  refine bodyPost_ret (results_row_tmp (P := Tryz.prog) rfl _ _ (z + 1) 46 _ (0, 0) _ rfl HBF.out Tryz.underlying46 rfl (by kernel_rfl)) rfl ?_
  unfold TransOk
  rw [HLN.out, HRC3.out]
  exact ⟨_, rfl, ⟨_, _, rfl, Row.nil _ _ _, Row.nil _ _ _⟩, T7.trans' (F' := fun g => g = z + 1) HTF.out (fun i hi => .inr (by have hi : i = z + 1 := hi; have := HZW.out; omega))⟩
 by_cases hc4 : c4 > 0
 ·have hc4' : (0 : Int) < c4 := hc4
  have hrc := HRC2.out
  rw [if_neg hkd, if_pos ⟨hkd, hc4⟩] at hrc
  have HRC3 := Lib.hid hrc
  have hw4 : wrap64 (c4 - 1) = c4 - 1 := by unfold wrap64; have := HC4.out; omega
  have HWI := Lib.hid (transwith_any bC5 1)
  have hk1 : (kd == 1) = false := by simpa using hkd
  clear hrc HRC2 hkd hc4
  rcases Bool.eq_false_or_eq_true (kd == 2) with hk2 | hk2
  all_goals
   go_wp2_with fail
   refine HWI.out.mono ?_
   rintro _ w6 ⟨rfl, t6⟩
   have bR6 := bR5.keep t6 id
   have bO6 := bO5.keep t6 id
   have bC6 := bC5.keep t6 id
   have T6 := T5.trans t6
   clear HWI bR5 bO5 T5 t6 p1 bC5
   go_wp2_with (refine wpList_store_part rfl _ _ _ rfl (y + 1) [.int .i64 0, .int .i64 0, .slice none 0 0, .slice none 0 0] [.int .i64 0, .int .i64 0, .int .i64 0, .int .i64 0, .int .i64 0, .int .i64 0] [.int .i64 1, .int .i64 c2, .int .i64 c3, .int .i64 c4, .int .i64 0, .int .i64 c6] [.bool true, .int .i64 q1, .int .i64 q2, .bool q3] (by rfl) (by rfl) (by simp [Value.oneCell']) (by kernel_rfl) rfl bR6 ?_; refine Hid.out ?_)
   refine Lib.hid ?_
   intro w7 bR7 ts7
   have bR7 : Blk w7 (y + 1) 46 #[.int .i64 0, .int .i64 0, .slice none 0 0, .slice none 0 0, .int .i64 1, .int .i64 c2, .int .i64 c3, .int .i64 c4, .int .i64 0, .int .i64 c6, .bool true, .int .i64 q1, .int .i64 q2, .bool q3] := bR7
   have bO7 := bO6.keep ts7 (by omega)
   have T7 := T6.trans' ts7 (fun i hi => .inr (by have hi : i = y + 1 := hi; have := HZW.out; omega))
   have bC7 := bC6.keep ts7 (by omega)
   clear bR6 bO6 T6 ts7 bC6
   have tG := Tch.alloc (fun _ => False) w7 (.cells #[.int .i64 c1, .int .i64 c2, .int .i64 c3, .int .i64 (c4 - 1), .int .i64 c5, .int .i64 c6] 31)
   have tH := Tch.alloc (fun _ => False) (w7.alloc (.cells #[.int .i64 c1, .int .i64 c2, .int .i64 c3, .int .i64 (c4 - 1), .int .i64 c5, .int .i64 c6] 31)) (.cells #[.int .i64 c1, .int .i64 c2, .int .i64 c3, .int .i64 (c4 - 1), .int .i64 c5, .int .i64 c6] 31)
   have k0 : w7.cell? ⟨z, 0, none⟩ = some (.int .i64 c1) := bC7.cell 0
   have k1 : w7.cell? ⟨z, 1, none⟩ = some (.int .i64 c2) := bC7.cell 1
   have k2 : w7.cell? ⟨z, 2, none⟩ = some (.int .i64 c3) := bC7.cell 2
   have k3 : w7.cell? ⟨z, 3, none⟩ = some (.int .i64 c4) := bC7.cell 3
   have k4 : w7.cell? ⟨z, 4, none⟩ = some (.int .i64 c5) := bC7.cell 4
   have k5 : w7.cell? ⟨z, 5, none⟩ = some (.int .i64 c6) := bC7.cell 5
   have k3g : (w7.alloc (.cells #[.int .i64 c1, .int .i64 c2, .int .i64 c3, .int .i64 c4, .int .i64 c5, .int .i64 c6] 31)).cell? ⟨z, 3, none⟩ = some (.int .i64 c4) := (bC7.keep (Tch.alloc (fun _ => False) w7 (.cells #[.int .i64 c1, .int .i64 c2, .int .i64 c3, .int .i64 c4, .int .i64 c5, .int .i64 c6] 31)) id).cell 3
   have bRZ0 := (bR7.keep tG id).keep tH id
   have bO8 := (bO7.keep tG id).keep tH id
   have bH := Blk.new2 w7 (.cells #[.int .i64 c1, .int .i64 c2, .int .i64 c3, .int .i64 (c4 - 1), .int .i64 c5, .int .i64 c6] 31) 31 #[.int .i64 c1, .int .i64 c2, .int .i64 c3, .int .i64 (c4 - 1), .int .i64 c5, .int .i64 c6]
   have T8 := T7.trans (tG.trans tH)
   have hs7 := T7.size
   have hy7 := bR7.lt
   clear bC7 tG tH bR7 bO7 T7
   go_wp2_with (refine wpList_store_cell rfl _ _ _ rfl (y + 1) 2 (.slice (some ⟨w7.heap.size + 1, 0, none⟩) 1 1) (by rfl) (by rfl) rfl (by rfl) bRZ0 (by simp) ?_; refine Hid.out ?_)
   refine Lib.hid ?_
   intro w8 bRZ ts8
   (try simp only [List.setIfInBounds_toArray, List.set_cons_succ, List.set_cons_zero] at bRZ)
   generalize (w7.alloc (.cells #[.int .i64 c1, .int .i64 c2, .int .i64 c3, .int .i64 (c4 - 1), .int .i64 c5, .int .i64 c6] 31)).alloc _ = W7 at *
   generalize hy7e : w7.heap.size = y7 at *
   have bH8 := bH.keep ts8 (by omega)
   have bO9 := bO8.keep ts8 (by omega)
   have T9 := T8.trans' ts8 (fun i hi => .inr (by have hi : i = y + 1 := hi; have := HZW.out; omega))
   clear bRZ0 bO8 bH T8 ts8
   have f0 : w8.cell? ⟨y + 1, 0, none⟩ = some (.int .i64 0) := bRZ.cell 0
   have f1 : w8.cell? ⟨y + 1, 1, none⟩ = some (.int .i64 0) := bRZ.cell 1
   have f2 : w8.cell? ⟨y + 1, 2, none⟩ = some (.slice (some ⟨y7 + 1, 0, none⟩) 1 1) := bRZ.cell 2
   have f3 : w8.cell? ⟨y + 1, 3, none⟩ = some (.slice none 0 0) := bRZ.cell 3
   have f4 : w8.cell? ⟨y + 1, 4, none⟩ = some (.int .i64 1) := bRZ.cell 4
   have f5 : w8.cell? ⟨y + 1, 5, none⟩ = some (.int .i64 c2) := bRZ.cell 5
   have f6 : w8.cell? ⟨y + 1, 6, none⟩ = some (.int .i64 c3) := bRZ.cell 6
   have f7 : w8.cell? ⟨y + 1, 7, none⟩ = some (.int .i64 c4) := bRZ.cell 7
   have f8 : w8.cell? ⟨y + 1, 8, none⟩ = some (.int .i64 0) := bRZ.cell 8
   have f9 : w8.cell? ⟨y + 1, 9, none⟩ = some (.int .i64 c6) := bRZ.cell 9
   have f10 : w8.cell? ⟨y + 1, 10, none⟩ = some (.bool true) := bRZ.cell 10
   have f11 : w8.cell? ⟨y + 1, 11, none⟩ = some (.int .i64 q1) := bRZ.cell 11
   have f12 : w8.cell? ⟨y + 1, 12, none⟩ = some (.int .i64 q2) := bRZ.cell 12
   have f13 : w8.cell? ⟨y + 1, 13, none⟩ = some (.bool q3) := bRZ.cell 13
   clear bRZ 
   go_wp2_with (refine wpList_store_blk rfl _ _ _ rfl (z + 1) #[.int .i64 0, .int .i64 0, .slice (some ⟨y7 + 1, 0, none⟩) 1 1, .slice none 0 0, .int .i64 1, .int .i64 c2, .int .i64 c3, .int .i64 c4, .int .i64 0, .int .i64 c6, .bool true, .int .i64 q1, .int .i64 q2, .bool q3] (by rfl) (by rfl) bO9 (by kernel_rfl) rfl (by simp [Value.oneCell']) ?_; refine Hid.out ?_)
   refine Lib.hid ?_
   intro w9 hF tF
   have HBF := Lib.hid hF
   have HTF := Lib.hid tF
   have HBH := Lib.hid (bH8.keep tF (by omega))
   clear hF tF bO9 f0 f1 f2 f3 f4 f5 f6 f7 f8 f9 f10 f11 f12 f13
   go_wp2
   (try simp only [Exit.inBlock, Exit.then])
   (try rw [Exit.noGoto_ret])
   refine bodyPost_ret (results_row_tmp (P := Tryz.prog) rfl _ _ (z + 1) 46 _ (0, 0) _ rfl HBF.out Tryz.underlying46 rfl (by kernel_rfl)) rfl ?_
   unfold TransOk
   rw [HLN.out, HRC3.out]
   exact ⟨_, rfl, ⟨_, _, rfl, Row.blk HBH.out trivial rfl (by decide), Row.nil _ _ _⟩, T9.trans' (F' := fun g => g = z + 1) HTF.out (fun i hi => .inr (by have hi : i = z + 1 := hi; have := HZW.out; omega))⟩
 ·have hc4' : ¬ (0 : Int) < c4 := hc4
  have hrc := HRC2.out
  rw [if_neg hkd, if_neg (fun h => hc4 h.2)] at hrc
  have HRC3 := Lib.hid hrc
  have HWI := Lib.hid (transwith_any bC5 1)
  have hk1 : (kd == 1) = false := by simpa using hkd
  clear hrc HRC2 hkd hc4 HC4
  rcases Bool.eq_false_or_eq_true (kd == 2) with hk2 | hk2
  all_goals
   go_wp2_with fail
   refine HWI.out.mono ?_
   rintro _ w6 ⟨rfl, t6⟩
   have bR6 := bR5.keep t6 id
   have bO6 := bO5.keep t6 id
   have bC6 := bC5.keep t6 id
   have T6 := T5.trans t6
   clear HWI bR5 bO5 T5 t6 p1 bC5
   go_wp2_with (refine wpList_store_part rfl _ _ _ rfl (y + 1) [.int .i64 0, .int .i64 0, .slice none 0 0, .slice none 0 0] [.int .i64 0, .int .i64 0, .int .i64 0, .int .i64 0, .int .i64 0, .int .i64 0] [.int .i64 1, .int .i64 c2, .int .i64 c3, .int .i64 c4, .int .i64 0, .int .i64 c6] [.bool true, .int .i64 q1, .int .i64 q2, .bool q3] (by rfl) (by rfl) (by simp [Value.oneCell']) (by kernel_rfl) rfl bR6 ?_; refine Hid.out ?_)
   refine Lib.hid ?_
   intro w7 bR7 ts7
   have bR7 : Blk w7 (y + 1) 46 #[.int .i64 0, .int .i64 0, .slice none 0 0, .slice none 0 0, .int .i64 1, .int .i64 c2, .int .i64 c3, .int .i64 c4, .int .i64 0, .int .i64 c6, .bool true, .int .i64 q1, .int .i64 q2, .bool q3] := bR7
   have bO7 := bO6.keep ts7 (by omega)
   have T7 := T6.trans' ts7 (fun i hi => .inr (by have hi : i = y + 1 := hi; have := HZW.out; omega))
   have bC7 := bC6.keep ts7 (by omega)
   clear bR6 bO6 T6 ts7 bC6
   have tG := Tch.alloc (fun _ => False) w7 (.cells #[.int .i64 c1, .int .i64 c2, .int .i64 c3, .int .i64 c4, .int .i64 c5, .int .i64 c6] 31)
   have k0 : w7.cell? ⟨z, 0, none⟩ = some (.int .i64 c1) := bC7.cell 0
   have k1 : w7.cell? ⟨z, 1, none⟩ = some (.int .i64 c2) := bC7.cell 1
   have k2 : w7.cell? ⟨z, 2, none⟩ = some (.int .i64 c3) := bC7.cell 2
   have k3 : w7.cell? ⟨z, 3, none⟩ = some (.int .i64 c4) := bC7.cell 3
   have k4 : w7.cell? ⟨z, 4, none⟩ = some (.int .i64 c5) := bC7.cell 4
   have k5 : w7.cell? ⟨z, 5, none⟩ = some (.int .i64 c6) := bC7.cell 5
   have k3g : (w7.alloc (.cells #[.int .i64 c1, .int .i64 c2, .int .i64 c3, .int .i64 c4, .int .i64 c5, .int .i64 c6] 31)).cell? ⟨z, 3, none⟩ = some (.int .i64 c4) := (bC7.keep tG id).cell 3
   have bRZ := bR7.keep tG id
   have bO8 := bO7.keep tG id
   have T8 := T7.trans tG
   clear bC7 tG bR7 bO7 T7
   have f0 : (w7.alloc (.cells #[.int .i64 c1, .int .i64 c2, .int .i64 c3, .int .i64 c4, .int .i64 c5, .int .i64 c6] 31)).cell? ⟨y + 1, 0, none⟩ = some (.int .i64 0) := bRZ.cell 0
   have f1 : (w7.alloc (.cells #[.int .i64 c1, .int .i64 c2, .int .i64 c3, .int .i64 c4, .int .i64 c5, .int .i64 c6] 31)).cell? ⟨y + 1, 1, none⟩ = some (.int .i64 0) := bRZ.cell 1
   have f2 : (w7.alloc (.cells #[.int .i64 c1, .int .i64 c2, .int .i64 c3, .int .i64 c4, .int .i64 c5, .int .i64 c6] 31)).cell? ⟨y + 1, 2, none⟩ = some (.slice none 0 0) := bRZ.cell 2
   have f3 : (w7.alloc (.cells #[.int .i64 c1, .int .i64 c2, .int .i64 c3, .int .i64 c4, .int .i64 c5, .int .i64 c6] 31)).cell? ⟨y + 1, 3, none⟩ = some (.slice none 0 0) := bRZ.cell 3
   have f4 : (w7.alloc (.cells #[.int .i64 c1, .int .i64 c2, .int .i64 c3, .int .i64 c4, .int .i64 c5, .int .i64 c6] 31)).cell? ⟨y + 1, 4, none⟩ = some (.int .i64 1) := bRZ.cell 4
   have f5 : (w7.alloc (.cells #[.int .i64 c1, .int .i64 c2, .int .i64 c3, .int .i64 c4, .int .i64 c5, .int .i64 c6] 31)).cell? ⟨y + 1, 5, none⟩ = some (.int .i64 c2) := bRZ.cell 5
   have f6 : (w7.alloc (.cells #[.int .i64 c1, .int .i64 c2, .int .i64 c3, .int .i64 c4, .int .i64 c5, .int .i64 c6] 31)).cell? ⟨y + 1, 6, none⟩ = some (.int .i64 c3) := bRZ.cell 6
   have f7 : (w7.alloc (.cells #[.int .i64 c1, .int .i64 c2, .int .i64 c3, .int .i64 c4, .int .i64 c5, .int .i64 c6] 31)).cell? ⟨y + 1, 7, none⟩ = some (.int .i64 c4) := bRZ.cell 7
   have f8 : (w7.alloc (.cells #[.int .i64 c1, .int .i64 c2, .int .i64 c3, .int .i64 c4, .int .i64 c5, .int .i64 c6] 31)).cell? ⟨y + 1, 8, none⟩ = some (.int .i64 0) := bRZ.cell 8
   have f9 : (w7.alloc (.cells #[.int .i64 c1, .int .i64 c2, .int .i64 c3, .int .i64 c4, .int .i64 c5, .int .i64 c6] 31)).cell? ⟨y + 1, 9, none⟩ = some (.int .i64 c6) := bRZ.cell 9
   have f10 : (w7.alloc (.cells #[.int .i64 c1, .int .i64 c2, .int .i64 c3, .int .i64 c4, .int .i64 c5, .int .i64 c6] 31)).cell? ⟨y + 1, 10, none⟩ = some (.bool true) := bRZ.cell 10
   have f11 : (w7.alloc (.cells #[.int .i64 c1, .int .i64 c2, .int .i64 c3, .int .i64 c4, .int .i64 c5, .int .i64 c6] 31)).cell? ⟨y + 1, 11, none⟩ = some (.int .i64 q1) := bRZ.cell 11
   have f12 : (w7.alloc (.cells #[.int .i64 c1, .int .i64 c2, .int .i64 c3, .int .i64 c4, .int .i64 c5, .int .i64 c6] 31)).cell? ⟨y + 1, 12, none⟩ = some (.int .i64 q2) := bRZ.cell 12
   have f13 : (w7.alloc (.cells #[.int .i64 c1, .int .i64 c2, .int .i64 c3, .int .i64 c4, .int .i64 c5, .int .i64 c6] 31)).cell? ⟨y + 1, 13, none⟩ = some (.bool q3) := bRZ.cell 13
   clear bRZ 
   go_wp2_with (refine wpList_store_blk rfl _ _ _ rfl (z + 1) #[.int .i64 0, .int .i64 0, .slice none 0 0, .slice none 0 0, .int .i64 1, .int .i64 c2, .int .i64 c3, .int .i64 c4, .int .i64 0, .int .i64 c6, .bool true, .int .i64 q1, .int .i64 q2, .bool q3] (by rfl) (by rfl) bO8 (by kernel_rfl) rfl (by simp [Value.oneCell']) ?_; refine Hid.out ?_)
   refine Lib.hid ?_
   intro w9 hF tF
   have HBF := Lib.hid hF
   have HTF := Lib.hid tF
   clear hF tF bO8 f0 f1 f2 f3 f4 f5 f6 f7 f8 f9 f10 f11 f12 f13
   go_wp2
   (try simp only [Exit.inBlock, Exit.then])
   (try rw [Exit.noGoto_ret])
   refine bodyPost_ret (results_row_tmp (P := Tryz.prog) rfl _ _ (z + 1) 46 _ (0, 0) _ rfl HBF.out Tryz.underlying46 rfl (by kernel_rfl)) rfl ?_
   unfold TransOk
   rw [HLN.out, HRC3.out]
   exact ⟨_, rfl, ⟨_, _, rfl, Row.nil _ _ _, Row.nil _ _ _⟩, T8.trans' (F' := fun g => g = z + 1) HTF.out (fun i hi => .inr (by have hi : i = z + 1 := hi; have := HZW.out; omega))⟩
end
end Go.Proofs.YtdangnmeligfjaaGreatDoor
