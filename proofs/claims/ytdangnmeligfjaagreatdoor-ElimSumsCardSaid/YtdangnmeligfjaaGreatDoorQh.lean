/-
  Eliminations: the recipe.
-/
import Derived.Test.YtdangnmeligfjaaGreatDoorZ61
import Derived.Test.YtdangnmeligfjaaGreatDoorZ28
import Derived.Test.YtdangnmeligfjaaGreatDoorZ20
namespace Go.Gk.V33
open Go.RowKit
def v1 (v : Value) : List Value := [v]
theorem v1_len : ∀ v, (v1 v).length = 1 := fun _ => rfl
def CellsR (P : Nat → Prop) (f : Int → List Rt6) (w : World) (xs : List Int) (vs : List Value) : Prop := ∀ (i : Nat) (v : Value) (x : Int), vs[i]? = some v → xs[i]? = some x → RowsOf int6 6 P w v (f x)
theorem rows_one {P : Nat → Prop} {ys : List Rt6} {w : World} {v : Value} (h : RowsOf int6 6 P w v ys) : v.oneCell' = true := by
 obtain ⟨A, c, rfl, _, _⟩ := h.form
 rfl
theorem CellsR.snoc {P P' : Nat → Prop} {f : Int → List Rt6} {w w' : World} {xs : List Int} {vs : List Value} (h : CellsR P f w xs vs) {v : Value} {x : Int} (hx : xs[vs.length]? = some x) (hv : RowsOf int6 6 P w v (f x)) (hk : ∀ (u : Value) (ys : List Rt6), RowsOf int6 6 P w u ys → RowsOf int6 6 P' w' u ys) : CellsR P' f w' xs (vs ++ [v]) := by
 intro i u y hu hy
 by_cases hi : i < vs.length
 ·rw [List.getElem?_append_left hi] at hu
  exact hk _ _ (h i u y hu hy)
 ·rw [List.getElem?_append_right (by omega)] at hu
  have h0 : i - vs.length = 0 := by
   rcases Nat.eq_zero_or_pos (i - vs.length) with h0 | h0
   ·exact h0
   ·rw [List.getElem?_eq_none (by simp; omega)] at hu; cases hu
  rw [h0] at hu
  obtain rfl : v = u := by simpa using hu
  obtain rfl : i = vs.length := by omega
  rw [hx] at hy
  injection hy with hy
  subst hy
  exact hk _ _ hv
end Go.Gk.V33
namespace Go.Proofs.YtdangnmeligfjaaGreatDoor
open Go.RowKit Go.Gk Go.Gk.V33
theorem rowCellss : RowTy Tryz.prog 93 40 (.slice none 0 0) 1 24 := ⟨Tryz.underlying93, by kernel_rfl, rfl, by decide⟩
section
variable {w : World} {bv bi B t mr mp : Nat} {e a s r l n lv : Value} {fs : List Value} {b : Bks} {us : List (Ent × Value)}
set_option maxRecDepth 100000 in
set_option maxHeartbeats 1600000 in
theorem recc_x (h : Vw w bv bi B t mr mp e a s r l n lv fs b us) (hpo : (posts b.entries).length ≤ 10000) (hok : booksOK b = true) (c1 c2 c3 c4 c5 c6 : Int) {p : Nat} (hc4 : c4 = (p : Int)) (hp : p < 24) (hnode : 1 ≤ c2 ∧ c2 ≤ b.ents.length) {z1 z2 : Nat} {T : TypeId} (h1 : w.cell? ⟨z1, 0, none⟩ = some (.pointer (some ⟨bv, 0, none⟩))) (h2 : Blk w z2 T #[.int .i64 c1, .int .i64 c2, .int .i64 c3, .int .i64 c4, .int .i64 c5, .int .i64 c6]) (acc : Int) :
 Calls Tryz.prog 35 #[.int .i64 acc, .pointer (some ⟨z1, 0, none⟩), .pointer (some ⟨z2, 0, none⟩)] w fun x w' => ∃ u : Value, x = .returned u ∧ Outs int6 6 31 w w' u (sidesD b (c1, c2, c3, c4, c5, c6) acc) := by
 have HS := Lib.hid (sides_x h hpo hok c1 c2 c3 c4 c5 c6 acc hc4 hp hnode)
 generalize sidesD b (c1, c2, c3, c4, c5, c6) acc = ys at *
 have k0 : w.cell? ⟨z2, 0, none⟩ = some (.int .i64 c1) := h2.cell 0
 have k1 : w.cell? ⟨z2, 1, none⟩ = some (.int .i64 c2) := h2.cell 1
 have k2 : w.cell? ⟨z2, 2, none⟩ = some (.int .i64 c3) := h2.cell 2
 have k3 : w.cell? ⟨z2, 3, none⟩ = some (.int .i64 c4) := h2.cell 3
 have k4 : w.cell? ⟨z2, 4, none⟩ = some (.int .i64 c5) := h2.cell 4
 have k5 : w.cell? ⟨z2, 5, none⟩ = some (.int .i64 c6) := h2.cell 5
 clear h h2 hc4 hnode
 go_enter Tryz.func35, Tryz.ntmps35
 go_wp2_with fail
 refine HS.out.mono ?_
 rintro _ w1 ⟨u, rfl, hO⟩
 obtain ⟨O, co, rfl, _, _⟩ := hO.form
 have HO := Lib.hid hO
 clear HS hO
 go_wp2
 go_ret
 exact ⟨_, rfl, HO.out⟩
set_option maxRecDepth 100000 in
set_option maxHeartbeats 3200000 in
theorem each1_x {v : Value} {xs : List Int} (hv : RowsOf int1 1 (fun _ => True) w v xs) (hl : xs.length ≤ 1000) {z1 z2 : Nat} {f : Int → List Rt6} (HK0 : ∀ w' : World, Tch (fun _ => False) w w' → ∀ x : Int, Calls Tryz.prog 35 #[.int .i64 x, .pointer (some ⟨z1, 0, none⟩), .pointer (some ⟨z2, 0, none⟩)] w' fun y w'' => ∃ u : Value, y = .returned u ∧ Outs int6 6 31 w' w'' u (f x)) :
 Calls Tryz.prog 34 #[v, .func (.func 35) #[] #[.pointer (some ⟨z1, 0, none⟩), .pointer (some ⟨z2, 0, none⟩)]] w fun x w' => ∃ (u : Value) (vs : List Value), x = .returned u ∧ Outs v1 1 40 w w' u vs ∧ vs.length = xs.length ∧ CellsR (fun g => w.heap.size ≤ g) f w' xs vs := by
 have HK := Lib.hid HK0
 have HV := Lib.hid (fun w' (t : Tch (fun _ => False) w w') => hv.keep t)
 obtain ⟨A, c, rfl, hc1, hc2⟩ := hv.form
 clear HK0 hv
 go_enter Tryz.func34, Tryz.ntmps34
 go_wp2_with fail
 go_loopw [5, 10] (fun o i wr => ∃ (j : Nat) (vs : List Value), j ≤ xs.length ∧ i = .int .i64 (j : Int) ∧ vs.length = j ∧ Outs v1 1 40 w wr o vs ∧ CellsR (fun g => w.heap.size ≤ g ∧ o.ownBlock ≠ some g) f wr xs vs) (fun _ i _ => xs.length - (intOf i).toNat)
 case atStart => exact ⟨0, [], Nat.zero_le _, rfl, rfl, Outs.start _ _ _ (Tch.refl _ _), fun i v x hv => by simp at hv⟩
 case round =>
  obtain ⟨j, vs, hj, rfl, hvl, hO, hall⟩ := hrel
  subst hvl
  obtain ⟨O, co, rfl, ho1, ho2⟩ := hO.form
  have HALL := Lib.hid hall
  have hj0 : (0 : Int) ≤ (vs.length : Int) := Int.natCast_nonneg _
  clear hall
  by_cases hlt : vs.length < xs.length
  ·have hlt' : (vs.length : Int) < (xs.length : Int) := by omega
   have hl9 := HV.out wr hO.tch
   obtain ⟨g, o9, rfl⟩ := hl9.head (by omega)
   have q0 := Row.one hl9 int1_len hlt rfl
   have HXX := Lib.hid (List.getElem?_eq_getElem hlt)
   generalize xs[vs.length] = x at *
   have HK1 := Lib.hid (HK.out wr hO.tch x)
   clear hl9
   go_wp2_with fail
   refine HK1.out.mono ?_
   rintro _ w2 ⟨u, rfl, hOy⟩
   have HFX := Lib.hid (show f x = f x from rfl)
   generalize hfx : f x = ys at hOy
   have HFY := Lib.hid hfx
   clear hfx HFX
   have t2 := hOy.tch
   have hO2 := hO.keep t2
   have hob := fun g (hg : (Value.slice O vs.length co).ownBlock = some g) => (hO.own.lt g hg).2
   have hoy := fun g (hg : u.ownBlock = some g) => hOy.own.lt g hg
   have hsw := hO.tch.size
   have HNEW := Lib.hid (show RowsOf int6 6 (fun g => w.heap.size ≤ g ∧ (Value.slice O vs.length co).ownBlock ≠ some g) w2 u (f x) by rw [HFY.out]; exact Row.own hOy.own (fun g hg => ⟨by have := (hoy g hg).1; omega, fun h9 => by have h1 := hob g h9; have h2 := (hoy g hg).1; omega⟩))
   have HOLD := Lib.hid (show CellsR (fun g => w.heap.size ≤ g ∧ (Value.slice O vs.length co).ownBlock ≠ some g) f w2 xs vs from fun i v y h1 h2 => (HALL.out i v y h1 h2).keep t2)
   obtain ⟨Y, cy, rfl, _, _⟩ := hOy.form
   have hv9 : vs.length ≤ 1000 := by omega
   have HONE := Lib.hid (rows_one HNEW.out)
   have tA := Tch.alloc (fun _ => False) w2 (.cells #[(Value.slice Y ys.length cy)] 40)
   have HBE := Lib.hid (fun m9 => (Blk.new w2 40 #[(Value.slice Y ys.length cy)]).cell m9)
   have hO3 := hO2.keep tA
   clear HK1 q0 hOy hoy t2 hO2 hO
   go_wp2_with (at_builtin; refine Hid.out ?_)
   refine Lib.hid ?_
   refine wpList_append _ rfl _ _ 93 rfl rowCellss (own_base hO3.own) (by rfl) (Go.Gk.Src.one (news := v1 (Value.slice Y ys.length cy)) rfl (fun m9 y9 hy9 => by rw [HBE.out m9]; simpa [v1] using hy9)) (by rfl) (by intro y9 hy9; simp [v1] at hy9; subst hy9; exact HONE.out) (by unfold maxLen; omega) (by omega) ?_
   intro v2 w4 ho2 hg2 hl2
   have hO4 := hO3.step (x := (Value.slice Y ys.length cy)) (Tch.refl _ _) ho2 hg2 hl2
   have tg := Tch.grown (F := fun g => (Value.slice O vs.length co).ownBlock = some g) hg2 (fun k9 e9 => .inl e9)
   have hN4 := Lib.hid (show CellsR (fun g => w.heap.size ≤ g ∧ v2.ownBlock ≠ some g) f w4 xs (vs ++ [(Value.slice Y ys.length cy)]) from HOLD.out.snoc HXX.out HNEW.out fun u9 y9 h1 => Row.keepTo (P' := fun g => w.heap.size ≤ g ∧ v2.ownBlock ≠ some g) (h1.keep tA) tg (fun g hlt9 hg => ⟨hg.2, hg.1, fun h9 => by
    rcases hl2 g h9 with h8 | h8
    ·exact hg.2 h8
    ·omega⟩))
   obtain ⟨O2, co2, rfl, _, _⟩ := own_form ho2
   clear hO3 ho2 hg2 hl2 HBE tA tg HOLD HNEW
   go_wp2
   go_roundw
   case rel => exact ⟨vs.length + 1, vs ++ [(Value.slice Y ys.length cy)], by omega, by go_num, by simp, by simpa using hO4, hN4.out⟩
   case measure => simp [intOf] <;> omega
  ·have hlt' : ¬ (vs.length : Int) < (xs.length : Int) := by omega
   have HA2 := Lib.hid (show CellsR (fun g => w.heap.size ≤ g) f wr xs vs from fun i v y h1 h2 => (HALL.out i v y h1 h2).weak (fun g hg => hg.1))
   have HVE := Lib.hid (show vs.length = xs.length by omega)
   have hv9 : vs.length ≤ 1000 := by omega
   have HO := Lib.hid hO
   clear hO
   go_wp2
   go_ret
   exact ⟨_, rfl, vs, HO.out, HVE.out, HA2.out⟩
set_option maxRecDepth 100000 in
set_option maxHeartbeats 12800000 in
theorem elimrec_x (h : Vw w bv bi B t mr mp e a s r l n lv fs b us) (hn : (accLeaves b.accs).length ≤ 1000) (hpo : (posts b.entries).length ≤ 10000) (hok : booksOK b = true) (c1 c2 c3 c4 c5 c6 : Int) :
 Calls Tryz.prog 9 #[.pointer (some ⟨bv, 0, none⟩), .agg #[.int .i64 c1, .int .i64 c2, .int .i64 c3, .int .i64 c4, .int .i64 c5, .int .i64 c6]] w (ElimOk b (c1, c2, c3, c4, c5, c6) w) := by
 have HV := Lib.hid (fun w' (t9 : Tch (fun _ => False) w w') => h.keep t9)
 have ta := Tch.alloc (fun _ => False) w (.cells #[.pointer (some ⟨bv, 0, none⟩)] 34)
 have tb := Tch.alloc (fun _ => False) (w.alloc (.cells #[.pointer (some ⟨bv, 0, none⟩)] 34)) (.cells #[.int .i64 c1, .int .i64 c2, .int .i64 c3, .int .i64 c4, .int .i64 c5, .int .i64 c6] 31)
 have tc := Tch.alloc (fun _ => False) ((w.alloc (.cells #[.pointer (some ⟨bv, 0, none⟩)] 34)).alloc (.cells #[.int .i64 c1, .int .i64 c2, .int .i64 c3, .int .i64 c4, .int .i64 c5, .int .i64 c6] 31)) (.cells #[.int .i64 0, .int .i64 0, .slice none 0 0, .slice none 0 0, .int .i64 0, .int .i64 0, .int .i64 0, .int .i64 0, .int .i64 0, .int .i64 0, .bool false, .int .i64 0, .int .i64 0, .bool false] 46)
 have tw := (ta.trans tb).trans tc
 have bV := ((Blk.new w 34 #[.pointer (some ⟨bv, 0, none⟩)]).keep tb id).keep tc id
 have bC := (Blk.new2 w (.cells #[.pointer (some ⟨bv, 0, none⟩)] 34) 31 #[.int .i64 c1, .int .i64 c2, .int .i64 c3, .int .i64 c4, .int .i64 c5, .int .i64 c6]).keep tc id
 have bO : Blk (((w.alloc (.cells #[.pointer (some ⟨bv, 0, none⟩)] 34)).alloc (.cells #[.int .i64 c1, .int .i64 c2, .int .i64 c3, .int .i64 c4, .int .i64 c5, .int .i64 c6] 31)).alloc (.cells #[.int .i64 0, .int .i64 0, .slice none 0 0, .slice none 0 0, .int .i64 0, .int .i64 0, .int .i64 0, .int .i64 0, .int .i64 0, .int .i64 0, .bool false, .int .i64 0, .int .i64 0, .bool false] 46)) (w.heap.size + 1 + 1) 46 #[.int .i64 0, .int .i64 0, .slice none 0 0, .slice none 0 0, .int .i64 0, .int .i64 0, .int .i64 0, .int .i64 0, .int .i64 0, .int .i64 0, .bool false, .int .i64 0, .int .i64 0, .bool false] := by simpa using Blk.new ((w.alloc (.cells #[.pointer (some ⟨bv, 0, none⟩)] 34)).alloc (.cells #[.int .i64 c1, .int .i64 c2, .int .i64 c3, .int .i64 c4, .int .i64 c5, .int .i64 c6] 31)) 46 #[.int .i64 0, .int .i64 0, .slice none 0 0, .slice none 0 0, .int .i64 0, .int .i64 0, .int .i64 0, .int .i64 0, .int .i64 0, .int .i64 0, .bool false, .int .i64 0, .int .i64 0, .bool false]
 have HM := Lib.hid (vwmay_any (HV.out _ tw) (c1, c2, c3, c4, c5, c6))
 have HFA := Lib.hid (fun h => may_facts (b := b) (c := (c1, c2, c3, c4, c5, c6)) (lo := 6) (hi := 6) h)
 obtain ⟨m, hm⟩ : ∃ m, mayOf b (c1, c2, c3, c4, c5, c6) 6 6 = m := ⟨_, rfl⟩
 have HEN := Lib.hid (show m ≠ 0 → elimOf b (c1, c2, c3, c4, c5, c6) = (Rcp.none, m) from fun h0 => by unfold elimOf; rw [hm, if_neg h0])
 have HEY0 := Lib.hid (show m = 0 → elimOf b (c1, c2, c3, c4, c5, c6) = ({ Rcp.none with plus := elimPlus b (c1, c2, c3, c4, c5, c6), minus := elimMinus b (c1, c2, c3, c4, c5, c6) }, 0) from fun h0 => by unfold elimOf; rw [hm, if_pos h0])
 have HMD := Lib.hid (show (if cellIn (c1, c2, c3, c4, c5, c6) b.ents.length b.accs.length = 0 then (if c1 < 6 ∨ 6 < c1 then 25 else if accLeaf b.accs c3 then 0 else 27) else cellIn (c1, c2, c3, c4, c5, c6) b.ents.length b.accs.length) = m from hm)
 rw [hm] at HFA
 unfold cellV at HM
 simp only at HM
 generalize cellIn (c1, c2, c3, c4, c5, c6) b.ents.length b.accs.length = ci at *
 clear ta tb tc h hm
 go_enter Tryz.func9, Tryz.ntmps9
 go_wp2_with fail
 generalize ((w.alloc (.cells #[.pointer (some ⟨bv, 0, none⟩)] 34)).alloc (.cells #[.int .i64 c1, .int .i64 c2, .int .i64 c3, .int .i64 c4, .int .i64 c5, .int .i64 c6] 31)).alloc _ = W at *
 generalize hzw : w.heap.size = z at *
 have HZW := Lib.hid hzw
 clear hzw
 refine HM.out.mono ?_
 rintro _ w1 ⟨rfl, t1⟩
 have bV1 := bV.keep t1 id
 have bC1 := bC.keep t1 id
 have bO1 := bO.keep t1 id
 have T1 := tw.trans t1
 clear HM bV bC bO tw t1
 have k0 : w1.cell? ⟨z + 1, 0, none⟩ = some (.int .i64 c1) := bC1.cell 0
 have k1 : w1.cell? ⟨z + 1, 1, none⟩ = some (.int .i64 c2) := bC1.cell 1
 have k2 : w1.cell? ⟨z + 1, 2, none⟩ = some (.int .i64 c3) := bC1.cell 2
 have k3 : w1.cell? ⟨z + 1, 3, none⟩ = some (.int .i64 c4) := bC1.cell 3
 have k4 : w1.cell? ⟨z + 1, 4, none⟩ = some (.int .i64 c5) := bC1.cell 4
 have k5 : w1.cell? ⟨z + 1, 5, none⟩ = some (.int .i64 c6) := bC1.cell 5
 have v0 : w1.cell? ⟨z, 0, none⟩ = some (.pointer (some ⟨bv, 0, none⟩)) := bV1.cell 0
 by_cases hci : ci = 0
 rotate_left
 ·have hcb : (ci != 0) = true := by simpa using hci
  obtain rfl : m = ci := by rw [← HMD.out, if_neg hci]
  have HNM := Lib.hid hci
  clear hci HMD HFA bC1 bV1
  go_wp2_with (refine wpList_store_blk rfl _ _ _ rfl (z + 1 + 1) #[.int .i64 0, .int .i64 0, .slice none 0 0, .slice none 0 0, .int .i64 0, .int .i64 0, .int .i64 0, .int .i64 0, .int .i64 0, .int .i64 0, .bool false, .int .i64 0, .int .i64 0, .bool false] (by rfl) (by rfl) bO1 (by kernel_rfl) rfl (by simp [Value.oneCell']) ?_; refine Hid.out ?_)
  refine Lib.hid ?_
  intro w9 hF tF
  have HF := Lib.hid hF
  have HTF := Lib.hid tF
  clear hF tF bO1
  go_wp2
  (try simp only [Exit.inBlock, Exit.then])
  (try rw [Exit.noGoto_ret])
  refine bodyPost_ret (results_row_tmp (P := Tryz.prog) rfl _ _ (z + 1 + 1) 46 _ (0, 0) _ rfl HF.out Tryz.underlying46 rfl (by kernel_rfl)) rfl ?_
  unfold ElimOk
  rw [HEN.out HNM.out]
  exact ⟨_, rfl, ⟨_, _, rfl, Row.nil _ _ _, Row.nil _ _ _⟩, T1.trans' (F' := fun g => g = z + 1 + 1) HTF.out (fun i hi => .inr (by have hi : i = z + 1 + 1 := hi; have := HZW.out; omega))⟩
 subst hci
 by_cases hr6 : c1 = 6
 rotate_left
 ·have hrb : (c1 != 6) = true := by simpa using hr6
  obtain rfl : m = 25 := by rw [← HMD.out, if_pos rfl, if_pos (by omega)]
  have HNM := Lib.hid (show (25 : Int) ≠ 0 by decide)
  clear hr6 HMD HFA bC1 bV1
  go_wp2_with (refine wpList_store_blk rfl _ _ _ rfl (z + 1 + 1) #[.int .i64 0, .int .i64 0, .slice none 0 0, .slice none 0 0, .int .i64 0, .int .i64 0, .int .i64 0, .int .i64 0, .int .i64 0, .int .i64 0, .bool false, .int .i64 0, .int .i64 0, .bool false] (by rfl) (by rfl) bO1 (by kernel_rfl) rfl (by simp [Value.oneCell']) ?_; refine Hid.out ?_)
  refine Lib.hid ?_
  intro w9 hF tF
  have HF := Lib.hid hF
  have HTF := Lib.hid tF
  clear hF tF bO1
  go_wp2
  (try simp only [Exit.inBlock, Exit.then])
  (try rw [Exit.noGoto_ret])
  refine bodyPost_ret (results_row_tmp (P := Tryz.prog) rfl _ _ (z + 1 + 1) 46 _ (0, 0) _ rfl HF.out Tryz.underlying46 rfl (by kernel_rfl)) rfl ?_
  unfold ElimOk
  rw [HEN.out HNM.out]
  exact ⟨_, rfl, ⟨_, _, rfl, Row.nil _ _ _, Row.nil _ _ _⟩, T1.trans' (F' := fun g => g = z + 1 + 1) HTF.out (fun i hi => .inr (by have hi : i = z + 1 + 1 := hi; have := HZW.out; omega))⟩
 subst hr6
 have HLF := Lib.hid (vwleaf_any (HV.out w1 T1) hn c3)
 rw [leaf_contains] at HLF
 go_wp2_with fail
 refine HLF.out.mono ?_
 rintro _ w2 ⟨rfl, t2⟩
 have bV2 := bV1.keep t2 id
 have bC2 := bC1.keep t2 id
 have bO2 := bO1.keep t2 id
 have T2 := T1.trans t2
 clear HLF k0 k1 k2 k3 k4 k5 v0 bV1 bC1 bO1 T1 t2
 by_cases hlf : accLeaf b.accs c3 = true
 rotate_left
 ·obtain rfl : m = 27 := by have h9 := HMD.out; simp only [if_true, hlf] at h9; simpa using h9.symm
  have HNM := Lib.hid (show (27 : Int) ≠ 0 by decide)
  have hlf2 : accLeaf b.accs c3 = false := by simpa using hlf
  rw [hlf2]
  clear hlf hlf2 HMD HFA bC2 bV2
  go_wp2_with (refine wpList_store_blk rfl _ _ _ rfl (z + 1 + 1) #[.int .i64 0, .int .i64 0, .slice none 0 0, .slice none 0 0, .int .i64 0, .int .i64 0, .int .i64 0, .int .i64 0, .int .i64 0, .int .i64 0, .bool false, .int .i64 0, .int .i64 0, .bool false] (by rfl) (by rfl) bO2 (by kernel_rfl) rfl (by simp [Value.oneCell']) ?_; refine Hid.out ?_)
  refine Lib.hid ?_
  intro w9 hF tF
  have HF := Lib.hid hF
  have HTF := Lib.hid tF
  clear hF tF bO2
  go_wp2
  (try simp only [Exit.inBlock, Exit.then])
  (try rw [Exit.noGoto_ret])
  refine bodyPost_ret (results_row_tmp (P := Tryz.prog) rfl _ _ (z + 1 + 1) 46 _ (0, 0) _ rfl HF.out Tryz.underlying46 rfl (by kernel_rfl)) rfl ?_
  unfold ElimOk
  rw [HEN.out HNM.out]
  exact ⟨_, rfl, ⟨_, _, rfl, Row.nil _ _ _, Row.nil _ _ _⟩, T2.trans' (F' := fun g => g = z + 1 + 1) HTF.out (fun i hi => .inr (by have hi : i = z + 1 + 1 := hi; have := HZW.out; omega))⟩
 obtain rfl : m = 0 := by have h9 := HMD.out; simp only [if_true, hlf] at h9; simpa using h9.symm
 rw [hlf]
 obtain ⟨_, ⟨hp0, hp1⟩, hnode, _⟩ := HFA.out rfl
 obtain ⟨p, hc4p⟩ : ∃ p : Nat, c4 = (p : Int) := ⟨c4.toNat, by have hp0 : 0 ≤ c4 := hp0; omega⟩
 have hp24 : p < 24 := by have hp1 : c4 ≤ 23 := hp1; omega
 have HEY := Lib.hid (HEY0.out rfl)
 have HEP := Lib.hid (show elimPlus b (6, c2, c3, c4, c5, c6) = if c3 = 3 then (accsP b).flatMap (sidesD b (6, c2, c3, c4, c5, c6)) else [] from rfl)
 have HEM := Lib.hid (show elimMinus b (6, c2, c3, c4, c5, c6) = if accPtn b c3 = true then sidesD b (6, c2, c3, c4, c5, c6) c3 else [] from rfl)
 have HSL := Lib.hid (fun x => sides_len (ok_stakes hok).1 (6, c2, c3, c4, c5, c6) x)
 obtain ⟨SD, hSD⟩ : ∃ SD : Int → List Rt6, sidesD b (6, c2, c3, c4, c5, c6) = SD := ⟨_, rfl⟩
 have HSD := Lib.hid (fun x => show sidesD b (6, c2, c3, c4, c5, c6) x = SD x by rw [← hSD])
 rw [hSD] at HEP HEM HSL
 clear hSD HEY0 HEN
 have hc4h := Lib.hid hc4p
 obtain ⟨k, hk, hkx, hka⟩ := accIs_at hlf
 have HPT := Lib.hid (ptn_is (hk := hk) hka)
 have tY := Tch.alloc (fun _ => False) w2 (.cells #[.int .i64 0, .int .i64 0, .slice none 0 0, .slice none 0 0, .int .i64 0, .int .i64 0, .int .i64 0, .int .i64 0, .int .i64 0, .int .i64 0, .bool false, .int .i64 0, .int .i64 0, .bool false] 46)
 have bY := Blk.new w2 46 #[.int .i64 0, .int .i64 0, .slice none 0 0, .slice none 0 0, .int .i64 0, .int .i64 0, .int .i64 0, .int .i64 0, .int .i64 0, .int .i64 0, .bool false, .int .i64 0, .int .i64 0, .bool false]
 have HAC := Lib.hid (vwaccount_any (HV.out _ (T2.trans tY)) hk c3 hkx)
 generalize b.accs[k] = ac at *
 obtain ⟨a1, kd, a3, a4⟩ := ac
 unfold acc4 at HAC
 simp only at HAC
 have bV3 := bV2.keep tY id
 have bC3 := bC2.keep tY id
 have bO3 := bO2.keep tY id
 have T3 := T2.trans tY
 have v0 : (w2.alloc (.cells #[.int .i64 0, .int .i64 0, .slice none 0 0, .slice none 0 0, .int .i64 0, .int .i64 0, .int .i64 0, .int .i64 0, .int .i64 0, .int .i64 0, .bool false, .int .i64 0, .int .i64 0, .bool false] 46)).cell? ⟨z, 0, none⟩ = some (.pointer (some ⟨bv, 0, none⟩)) := bV3.cell 0
 have k2 : (w2.alloc (.cells #[.int .i64 0, .int .i64 0, .slice none 0 0, .slice none 0 0, .int .i64 0, .int .i64 0, .int .i64 0, .int .i64 0, .int .i64 0, .int .i64 0, .bool false, .int .i64 0, .int .i64 0, .bool false] 46)).cell? ⟨z + 1, 2, none⟩ = some (.int .i64 c3) := bC3.cell 2
 have hzy : z + 3 ≤ w2.heap.size := by have := bO2.lt; omega
 have hnode : 1 ≤ c2 ∧ c2 ≤ (b.ents.length : Int) := hnode
 clear HMD HFA hlf hp0 hp1 hkx hk hka bV2 bC2 bO2 T2 tY hc4p
 go_wp2_with fail
 generalize w2.alloc _ = W2 at *
 generalize hyy : w2.heap.size = y at *
 have HYY := Lib.hid hyy
 clear hyy
 refine HAC.out.mono ?_
 rintro _ w3 ⟨rfl, t3⟩
 have tA := Tch.alloc (fun _ => False) w3 (.cells #[.int .i64 a1, .int .i64 kd, .bool a3, .bool a4] 89)
 have bA := Blk.new w3 89 #[.int .i64 a1, .int .i64 kd, .bool a3, .bool a4]
 have t3A := t3.trans tA
 have bV4 := bV3.keep t3A id
 have bC4 := bC3.keep t3A id
 have bO4 := bO3.keep t3A id
 have bY4 := bY.keep t3A id
 have T4 := T3.trans t3A
 have hy4 := bY.lt
 have hy5 := t3.size
 have p3 : (w3.alloc (.cells #[.int .i64 a1, .int .i64 kd, .bool a3, .bool a4] 89)).cell? ⟨w3.heap.size, 3, none⟩ = some (.bool a4) := bA.cell 3
 clear HAC v0 k2 bV3 bC3 bO3 bY T3 t3 tA t3A bA
 have HC4P := hc4h
 (try simp only at HPT)
 cases a4
 ·have k2 : (w3.alloc (.cells #[.int .i64 a1, .int .i64 kd, .bool a3, .bool false] 89)).cell? ⟨z + 1, 2, none⟩ = some (.int .i64 c3) := bC4.cell 2
  by_cases h33 : c3 = 3
  rotate_left
  ·have h33b : (c3 == 3) = false := by simpa using h33
   have H33 := Lib.hid h33
   clear h33
   have f0 : (w3.alloc (.cells #[.int .i64 a1, .int .i64 kd, .bool a3, .bool false] 89)).cell? ⟨y, 0, none⟩ = some (.int .i64 0) := bY4.cell 0
   have f1 : (w3.alloc (.cells #[.int .i64 a1, .int .i64 kd, .bool a3, .bool false] 89)).cell? ⟨y, 1, none⟩ = some (.int .i64 0) := bY4.cell 1
   have f2 : (w3.alloc (.cells #[.int .i64 a1, .int .i64 kd, .bool a3, .bool false] 89)).cell? ⟨y, 2, none⟩ = some (.slice none 0 0) := bY4.cell 2
   have f3 : (w3.alloc (.cells #[.int .i64 a1, .int .i64 kd, .bool a3, .bool false] 89)).cell? ⟨y, 3, none⟩ = some (.slice none 0 0) := bY4.cell 3
   have f4 : (w3.alloc (.cells #[.int .i64 a1, .int .i64 kd, .bool a3, .bool false] 89)).cell? ⟨y, 4, none⟩ = some (.int .i64 0) := bY4.cell 4
   have f5 : (w3.alloc (.cells #[.int .i64 a1, .int .i64 kd, .bool a3, .bool false] 89)).cell? ⟨y, 5, none⟩ = some (.int .i64 0) := bY4.cell 5
   have f6 : (w3.alloc (.cells #[.int .i64 a1, .int .i64 kd, .bool a3, .bool false] 89)).cell? ⟨y, 6, none⟩ = some (.int .i64 0) := bY4.cell 6
   have f7 : (w3.alloc (.cells #[.int .i64 a1, .int .i64 kd, .bool a3, .bool false] 89)).cell? ⟨y, 7, none⟩ = some (.int .i64 0) := bY4.cell 7
   have f8 : (w3.alloc (.cells #[.int .i64 a1, .int .i64 kd, .bool a3, .bool false] 89)).cell? ⟨y, 8, none⟩ = some (.int .i64 0) := bY4.cell 8
   have f9 : (w3.alloc (.cells #[.int .i64 a1, .int .i64 kd, .bool a3, .bool false] 89)).cell? ⟨y, 9, none⟩ = some (.int .i64 0) := bY4.cell 9
   have f10 : (w3.alloc (.cells #[.int .i64 a1, .int .i64 kd, .bool a3, .bool false] 89)).cell? ⟨y, 10, none⟩ = some (.bool false) := bY4.cell 10
   have f11 : (w3.alloc (.cells #[.int .i64 a1, .int .i64 kd, .bool a3, .bool false] 89)).cell? ⟨y, 11, none⟩ = some (.int .i64 0) := bY4.cell 11
   have f12 : (w3.alloc (.cells #[.int .i64 a1, .int .i64 kd, .bool a3, .bool false] 89)).cell? ⟨y, 12, none⟩ = some (.int .i64 0) := bY4.cell 12
   have f13 : (w3.alloc (.cells #[.int .i64 a1, .int .i64 kd, .bool a3, .bool false] 89)).cell? ⟨y, 13, none⟩ = some (.bool false) := bY4.cell 13
   clear bY4
   go_wp2_with (refine wpList_store_blk rfl _ _ _ rfl (z + 1 + 1) #[.int .i64 0, .int .i64 0, .slice none 0 0, .slice none 0 0, .int .i64 0, .int .i64 0, .int .i64 0, .int .i64 0, .int .i64 0, .int .i64 0, .bool false, .int .i64 0, .int .i64 0, .bool false] (by rfl) (by rfl) bO4 (by kernel_rfl) rfl (by simp [Value.oneCell']) ?_; refine Hid.out ?_)
   refine Lib.hid ?_
   intro w9 hF tF
   have HF := Lib.hid hF
   have HTF := Lib.hid tF
   clear hF tF bO4 f0 f1 f2 f3 f4 f5 f6 f7 f8 f9 f10 f11 f12 f13
   go_wp2
   (try simp only [Exit.inBlock, Exit.then])
   (try rw [Exit.noGoto_ret])
   refine bodyPost_ret (results_row_tmp (P := Tryz.prog) rfl _ _ (z + 1 + 1) 46 _ (0, 0) _ rfl HF.out Tryz.underlying46 rfl (by kernel_rfl)) rfl ?_
   unfold ElimOk
   rw [show elimOf b (6, c2, c3, c4, c5, c6) = ({ Rcp.none with plus := [], minus := [] }, 0) by rw [HEY.out, HEP.out, HEM.out]; rw [if_neg H33.out]; rw [if_neg (by rw [HPT.out]; simp)]]
   exact ⟨_, rfl, ⟨_, _, rfl, Row.nil _ _ _, Row.nil _ _ _⟩, T4.trans' (F' := fun g => g = z + 1 + 1) HTF.out (fun i hi => .inr (by have hi : i = z + 1 + 1 := hi; have := HZW.out; omega))⟩
  have h33b : (c3 == 3) = true := by simpa using h33
  have H33 := Lib.hid h33
  clear h33
  have v0 : (w3.alloc (.cells #[.int .i64 a1, .int .i64 kd, .bool a3, .bool false] 89)).cell? ⟨z, 0, none⟩ = some (.pointer (some ⟨bv, 0, none⟩)) := bV4.cell 0
  have HPA := Lib.hid (paccounts_x (HV.out (w3.alloc (.cells #[.int .i64 a1, .int .i64 kd, .bool a3, .bool false] 89)) T4) hn)
  have hzl : (accsP b).length ≤ 1000 := Nat.le_trans (List.length_filter_le _ _) hn
  go_wp2_with fail
  refine HPA.out.mono ?_
  rintro _ wa ⟨u1, rfl, hOz⟩
  generalize hzs : accsP b = zs at *
  have HZS := Lib.hid hzs
  clear hzs
  have bVa := bV4.keep hOz.tch id
  have bCa := bC4.keep hOz.tch id
  have Ta := T4.trans hOz.tch
  have HE1 := Lib.hid (each1_x (f := SD) hOz.row hzl (fun w' t9 x => by rw [← HSD.out x]; exact recc_x (T := 31) (HV.out w' (Ta.trans t9)) hpo hok 6 c2 c3 c4 c5 c6 HC4P.out hp24 hnode (t9.cell_some (bVa.cell 0) id) (bCa.keep t9 id) x))
  obtain ⟨Uz, cz, rfl, _, _⟩ := hOz.form
  have ta := hOz.tch
  clear HPA hOz k2 v0
  go_wp2_with fail
  refine HE1.out.mono ?_
  rintro _ wb ⟨u2, vs, rfl, hOv, hvl, hvs⟩
  have tab := ta.trans hOv.tch
  have hwbs := tab.size
  have HVS := Lib.hid hvs
  have hlow := ta.size
  have hyb0 := bY4.lt
  have HVR := Lib.hid (fun w' (t9 : Tch (fun g => g = y) wb w') => Row.keepTo (P' := fun _ => True) (Row.own hOv.own (P := fun g => wa.heap.size ≤ g) (fun g hg => (hOv.own.lt g hg).1)) t9 (fun g _ hg => ⟨fun e9 => by have e9 : g = y := e9; omega, trivial⟩))
  obtain ⟨Uv, cv, rfl, _, _⟩ := hOv.form
  have bRb := bY4.keep tab id
  have bOb := bO4.keep tab id
  have Tb := T4.trans tab
  have hvl2 : (vs.length : Int) ≤ 1000 := by omega
  have hvl3 : vs.length ≤ 1000 := by omega
  clear HE1 hOv hvs ta bVa bCa Ta
  go_wp2_with fail
  go_loopw [55] (fun i wr => ∃ (j : Nat) (xs : List Rt6) (O : Option Addr) (co : Nat), j ≤ vs.length ∧ i = .int .i64 (j : Int) ∧ Blk wr y 46 #[.int .i64 0, .int .i64 0, .slice O xs.length co, .slice none 0 0, .int .i64 0, .int .i64 0, .int .i64 0, .int .i64 0, .int .i64 0, .int .i64 0, .bool false, .int .i64 0, .int .i64 0, .bool false] ∧ wr.ownsRow wb.heap.size 31 6 (.slice O xs.length co) xs.length (xs.flatMap int6) ∧ xs.length ≤ 1600 * j ∧ (zs.take j).flatMap SD = xs ∧ Tch (fun g => g = y) wb wr) (fun i _ => vs.length - (intOf i).toNat)
  case atStart => exact ⟨0, [], none, 0, Nat.zero_le _, rfl, bRb, World.ownsRow_nil _ _ _ _, Nat.le_refl _, rfl, Tch.refl _ _⟩
  case round =>
   obtain ⟨j, xs, O, co, hj, rfl, hR, hown, hxl, hxlo, ht⟩ := hrel
   have HXLO := Lib.hid hxlo
   have hj0 : (0 : Int) ≤ (j : Int) := Int.natCast_nonneg _
   clear hxlo
   by_cases hlt : j < vs.length
   ·have hlt' : (j : Int) < (vs.length : Int) := by omega
    have hl9 := HVR.out wr ht
    obtain ⟨g9, o9, rfl⟩ := hl9.head (by omega)
    have q0 := Row.one hl9 v1_len hlt rfl
    have hjz : j < zs.length := by omega
    have hys := HVS.out j vs[j] zs[j] (List.getElem?_eq_getElem hlt) (List.getElem?_eq_getElem hjz)
    have HTK := Lib.hid (show (zs.take (j + 1)).flatMap SD = xs ++ SD zs[j] by rw [List.take_succ_eq_append_getElem hjz, List.flatMap_append, HXLO.out]; simp)
    have hyl2 : (SD zs[j]).length ≤ 1600 := HSL.out _
    generalize SD zs[j] = ys2 at *
    have hsrc : RowsOf int6 6 (fun _ => True) wr vs[j] ys2 := Row.keepTo (P' := fun _ => True) hys ht (fun g _ hg => ⟨fun e9 => by have e9 : g = y := e9; have hg : wa.heap.size ≤ g := hg; omega, trivial⟩)
    generalize vs[j] = v9 at *
    obtain ⟨Q, cq, rfl, hq1, hq2⟩ := hsrc.form
    have m2 : wr.cell? ⟨y, 1 + 1, none⟩ = some (.slice O xs.length co) := hR.cell 2
    have HLT := Lib.hid (fun g hg => hown.lt g hg)
    have hx9 : xs.length ≤ 1600000 := by omega
    have hszr := ht.size
    clear hl9 hys
    go_wp2_with (at_builtin; refine Hid.out ?_)
    refine Lib.hid ?_
    refine wpList_append _ rfl _ _ 40 rfl rowCells (own_base hown) (by rfl) hsrc.src (by rfl) (by intro u9 hu9; obtain ⟨x9, _, hx9⟩ := List.mem_flatMap.1 hu9; exact one6 x9 u9 hx9) (by unfold maxLen; omega) (by omega) ?_
    intro v2 wc ho2 hg2 hl2
    have tg : Tch (fun g => wb.heap.size ≤ g) wr wc := Tch.grown hg2 fun k9 hk9 => .inl (HLT.out k9 hk9).1
    have hR2 := hR.keep tg (by omega)
    have t3 := ht.trans' tg (fun i hi => .inr hi)
    have hob : ∀ g, v2.ownBlock = some g → wb.heap.size ≤ g := fun g hg => by
     rcases hl2 g hg with h9 | h9
     ·exact (HLT.out g h9).1
     ·omega
    obtain ⟨O2, co2, rfl, _, _⟩ := own_form ho2
    clear hR hown hsrc hg2 hl2 ht q0 m2 tg
    go_wp2_with (refine wpList_store_cell rfl _ _ _ rfl y 2 (.slice O2 (xs.length + ys2.length) co2) (by rfl) (by rfl) rfl (by rfl) hR2 (by simp) ?_; refine Hid.out ?_)
    refine Lib.hid ?_
    intro wd hR3 ts3
    (try simp only [List.setIfInBounds_toArray, List.set_cons_succ, List.set_cons_zero] at hR3)
    have hown3 := ts3.own (own_up ho2 hob) (fun g hg he => by have he : g = y := he; have := hob g hg; omega)
    have t4 := t3.trans ts3
    have HLL := Lib.hid (show xs.length + ys2.length = (xs ++ ys2).length by simp)
    have HN := HTK
    clear hR2 ho2 hob t3 ts3
    go_wp2
    go_roundw
    case rel => exact ⟨j + 1, xs ++ ys2, O2, co2, by omega, by go_num, by rw [← HLL.out]; exact hR3, by rw [← HLL.out]; simpa [List.flatMap_append] using hown3, by simp; omega, HN.out, t4⟩
    case measure => simp [intOf] <;> omega
   ·obtain rfl : j = vs.length := by omega
    have hlt' : ¬ (vs.length : Int) < (vs.length : Int) := by omega
    have bO9 := bOb.keep ht (by omega)
    have T9 := Tb.trans' ht (fun i hi => .inr (by have hi : i = y := hi; have := HZW.out; omega))
    have HRX := Lib.hid (fun w' (t9 : Tch (fun g => g = z + 1 + 1) wr w') => (show RowsOf int6 6 (fun _ => True) w' (.slice O xs.length co) xs from Row.keepTo (P' := fun _ => True) (Row.own hown (P := fun g => wb.heap.size ≤ g) (fun g hg => (hown.lt g hg).1)) t9 (fun g _ hg => ⟨fun e => by have e : g = z + 1 + 1 := e; have := hyb0; have hg : wb.heap.size ≤ g := hg; have := tab.size; omega, trivial⟩)))
    have HT9 := Lib.hid (fun w' (t9 : Tch (fun g => g = z + 1 + 1) wr w') => ((tab.mono (F' := fun g => g = y ∨ g = z + 1 + 1) (fun _ _ h => h.elim)).trans (ht.mono fun _ _ h => .inl h)).trans (t9.mono fun _ _ h => .inr h))
    have HXE := Lib.hid (show zs.flatMap SD = xs by rw [← HXLO.out, List.take_of_length_le (by omega)])
    clear hown hlt ht bRb bOb Tb
    have f0 : wr.cell? ⟨y, 0, none⟩ = some (.int .i64 0) := hR.cell 0
    have f1 : wr.cell? ⟨y, 1, none⟩ = some (.int .i64 0) := hR.cell 1
    have f2 : wr.cell? ⟨y, 2, none⟩ = some (.slice O xs.length co) := hR.cell 2
    have f3 : wr.cell? ⟨y, 3, none⟩ = some (.slice none 0 0) := hR.cell 3
    have f4 : wr.cell? ⟨y, 4, none⟩ = some (.int .i64 0) := hR.cell 4
    have f5 : wr.cell? ⟨y, 5, none⟩ = some (.int .i64 0) := hR.cell 5
    have f6 : wr.cell? ⟨y, 6, none⟩ = some (.int .i64 0) := hR.cell 6
    have f7 : wr.cell? ⟨y, 7, none⟩ = some (.int .i64 0) := hR.cell 7
    have f8 : wr.cell? ⟨y, 8, none⟩ = some (.int .i64 0) := hR.cell 8
    have f9 : wr.cell? ⟨y, 9, none⟩ = some (.int .i64 0) := hR.cell 9
    have f10 : wr.cell? ⟨y, 10, none⟩ = some (.bool false) := hR.cell 10
    have f11 : wr.cell? ⟨y, 11, none⟩ = some (.int .i64 0) := hR.cell 11
    have f12 : wr.cell? ⟨y, 12, none⟩ = some (.int .i64 0) := hR.cell 12
    have f13 : wr.cell? ⟨y, 13, none⟩ = some (.bool false) := hR.cell 13
    clear hR
    go_wp2_with (refine wpList_store_blk rfl _ _ _ rfl (z + 1 + 1) #[.int .i64 0, .int .i64 0, .slice O xs.length co, .slice none 0 0, .int .i64 0, .int .i64 0, .int .i64 0, .int .i64 0, .int .i64 0, .int .i64 0, .bool false, .int .i64 0, .int .i64 0, .bool false] (by rfl) (by rfl) bO9 (by kernel_rfl) rfl (by simp [Value.oneCell']) ?_; refine Hid.out ?_)
    refine Lib.hid ?_
    intro w9 hF tF
    have HF := Lib.hid hF
    have HTF := Lib.hid tF
    clear hF tF bO9 f0 f1 f2 f3 f4 f5 f6 f7 f8 f9 f10 f11 f12 f13
    go_wp2
    (try simp only [Exit.inBlock, Exit.then])
    (try rw [Exit.noGoto_ret])
    refine bodyPost_ret (results_row_tmp (P := Tryz.prog) rfl _ _ (z + 1 + 1) 46 _ (0, 0) _ rfl HF.out Tryz.underlying46 rfl (by kernel_rfl)) rfl ?_
    unfold ElimOk
    rw [show elimOf b (6, c2, c3, c4, c5, c6) = ({ Rcp.none with plus := xs, minus := [] }, 0) by rw [HEY.out, HEP.out, HEM.out]; rw [if_pos H33.out, HXE.out]; rw [if_neg (by rw [HPT.out]; simp)]]
    exact ⟨_, rfl, ⟨_, _, rfl, HRX.out w9 HTF.out, Row.nil _ _ _⟩, T9.trans' (F' := fun g => g = z + 1 + 1) HTF.out (fun i hi => .inr (by have hi : i = z + 1 + 1 := hi; have := HZW.out; omega))⟩
 ·have k0 : (w3.alloc (.cells #[.int .i64 a1, .int .i64 kd, .bool a3, .bool true] 89)).cell? ⟨z + 1, 0, none⟩ = some (.int .i64 6) := bC4.cell 0
  have k1 : (w3.alloc (.cells #[.int .i64 a1, .int .i64 kd, .bool a3, .bool true] 89)).cell? ⟨z + 1, 1, none⟩ = some (.int .i64 c2) := bC4.cell 1
  have k2 : (w3.alloc (.cells #[.int .i64 a1, .int .i64 kd, .bool a3, .bool true] 89)).cell? ⟨z + 1, 2, none⟩ = some (.int .i64 c3) := bC4.cell 2
  have k3 : (w3.alloc (.cells #[.int .i64 a1, .int .i64 kd, .bool a3, .bool true] 89)).cell? ⟨z + 1, 3, none⟩ = some (.int .i64 c4) := bC4.cell 3
  have k4 : (w3.alloc (.cells #[.int .i64 a1, .int .i64 kd, .bool a3, .bool true] 89)).cell? ⟨z + 1, 4, none⟩ = some (.int .i64 c5) := bC4.cell 4
  have k5 : (w3.alloc (.cells #[.int .i64 a1, .int .i64 kd, .bool a3, .bool true] 89)).cell? ⟨z + 1, 5, none⟩ = some (.int .i64 c6) := bC4.cell 5
  have v0 : (w3.alloc (.cells #[.int .i64 a1, .int .i64 kd, .bool a3, .bool true] 89)).cell? ⟨z, 0, none⟩ = some (.pointer (some ⟨bv, 0, none⟩)) := bV4.cell 0
  have HSI := Lib.hid (sides_x (HV.out _ T4) hpo hok 6 c2 c3 c4 c5 c6 c3 HC4P.out hp24 hnode)
  rw [HSD.out] at HSI
  have hyl := HSL.out c3
  obtain ⟨ys, hyse⟩ : ∃ ys, SD c3 = ys := ⟨_, rfl⟩
  have HYS := Lib.hid hyse
  rw [hyse] at HSI hyl
  clear hyse
  have hws : y < (w3.alloc (.cells #[.int .i64 a1, .int .i64 kd, .bool a3, .bool true] 89)).heap.size := bY4.lt
  go_wp2_with fail
  refine HSI.out.mono ?_
  rintro _ w5 ⟨u5, rfl, hOy⟩
  have t5 := hOy.tch
  have bV5 := bV4.keep t5 id
  have bC5 := bC4.keep t5 id
  have bO5 := bO4.keep t5 id
  have bY5 := bY4.keep t5 id
  have T5 := T4.trans t5
  have hsz5 := t5.size
  have HRW := Lib.hid (fun w' (t9 : Tch (fun g => g = y ∨ g = z + 1 + 1) w5 w') => Row.keepTo (P' := fun _ => True) (Row.own hOy.own (P := fun g => (w3.alloc (.cells #[.int .i64 a1, .int .i64 kd, .bool a3, .bool true] 89)).heap.size ≤ g) (fun g hg => (hOy.own.lt g hg).1)) t9 (fun g _ hg => ⟨fun e9 => by have hg : (w3.alloc (.cells #[.int .i64 a1, .int .i64 kd, .bool a3, .bool true] 89)).heap.size ≤ g := hg; rcases e9 with e9 | e9 <;> omega, trivial⟩))
  obtain ⟨M, cm, rfl, _, _⟩ := hOy.form
  clear HSI hOy k0 k1 k2 k3 k4 k5 v0 bV4 bC4 bO4 bY4 T4 t5 p3
  go_wp2_with (refine wpList_store_cell rfl _ _ _ rfl y 3 (.slice M ys.length cm) (by rfl) (by rfl) rfl (by rfl) bY5 (by simp) ?_; refine Hid.out ?_)
  refine Lib.hid ?_
  intro w6 bY6 ts6
  (try simp only [List.setIfInBounds_toArray, List.set_cons_succ, List.set_cons_zero] at bY6)
  have bV6 := bV5.keep ts6 (by omega)
  have bC6 := bC5.keep ts6 (by omega)
  have bO6 := bO5.keep ts6 (by omega)
  have T6 := T5.trans' ts6 (fun i hi => .inr (by have hi : i = y := hi; have := HZW.out; omega))
  have HMR := Lib.hid (fun w' (t9 : Tch (fun g => g = y ∨ g = z + 1 + 1) w6 w') => HRW.out w' ((ts6.mono fun _ _ h => .inl h).trans t9))
  clear bY5 bV5 bC5 bO5 T5 ts6
  have k2 : w6.cell? ⟨z + 1, 2, none⟩ = some (.int .i64 c3) := bC6.cell 2
  have h33 : ¬ c3 = 3 := fun h9 => by
   have h8 := HPT.out
   rw [h9, three_ptn hok] at h8
   cases h8
  have h33b : (c3 == 3) = false := by simpa using h33
  have H33 := Lib.hid h33
  clear h33
  have f0 : w6.cell? ⟨y, 0, none⟩ = some (.int .i64 0) := bY6.cell 0
  have f1 : w6.cell? ⟨y, 1, none⟩ = some (.int .i64 0) := bY6.cell 1
  have f2 : w6.cell? ⟨y, 2, none⟩ = some (.slice none 0 0) := bY6.cell 2
  have f3 : w6.cell? ⟨y, 3, none⟩ = some (.slice M ys.length cm) := bY6.cell 3
  have f4 : w6.cell? ⟨y, 4, none⟩ = some (.int .i64 0) := bY6.cell 4
  have f5 : w6.cell? ⟨y, 5, none⟩ = some (.int .i64 0) := bY6.cell 5
  have f6 : w6.cell? ⟨y, 6, none⟩ = some (.int .i64 0) := bY6.cell 6
  have f7 : w6.cell? ⟨y, 7, none⟩ = some (.int .i64 0) := bY6.cell 7
  have f8 : w6.cell? ⟨y, 8, none⟩ = some (.int .i64 0) := bY6.cell 8
  have f9 : w6.cell? ⟨y, 9, none⟩ = some (.int .i64 0) := bY6.cell 9
  have f10 : w6.cell? ⟨y, 10, none⟩ = some (.bool false) := bY6.cell 10
  have f11 : w6.cell? ⟨y, 11, none⟩ = some (.int .i64 0) := bY6.cell 11
  have f12 : w6.cell? ⟨y, 12, none⟩ = some (.int .i64 0) := bY6.cell 12
  have f13 : w6.cell? ⟨y, 13, none⟩ = some (.bool false) := bY6.cell 13
  clear bY6
  go_wp2_with (refine wpList_store_blk rfl _ _ _ rfl (z + 1 + 1) #[.int .i64 0, .int .i64 0, .slice none 0 0, .slice M ys.length cm, .int .i64 0, .int .i64 0, .int .i64 0, .int .i64 0, .int .i64 0, .int .i64 0, .bool false, .int .i64 0, .int .i64 0, .bool false] (by rfl) (by rfl) bO6 (by kernel_rfl) rfl (by simp [Value.oneCell']) ?_; refine Hid.out ?_)
  refine Lib.hid ?_
  intro w9 hF tF
  have HF := Lib.hid hF
  have HTF := Lib.hid tF
  clear hF tF bO6 f0 f1 f2 f3 f4 f5 f6 f7 f8 f9 f10 f11 f12 f13
  go_wp2
  (try simp only [Exit.inBlock, Exit.then])
  (try rw [Exit.noGoto_ret])
  refine bodyPost_ret (results_row_tmp (P := Tryz.prog) rfl _ _ (z + 1 + 1) 46 _ (0, 0) _ rfl HF.out Tryz.underlying46 rfl (by kernel_rfl)) rfl ?_
  unfold ElimOk
  rw [show elimOf b (6, c2, c3, c4, c5, c6) = ({ Rcp.none with plus := [], minus := ys }, 0) by rw [HEY.out, HEP.out, HEM.out]; rw [if_neg H33.out]; rw [if_pos HPT.out, HYS.out]]
  exact ⟨_, rfl, ⟨_, _, rfl, Row.nil _ _ _, HMR.out w9 (HTF.out.mono fun _ _ h => .inr h)⟩, T6.trans' (F' := fun g => g = z + 1 + 1) HTF.out (fun i hi => .inr (by have hi : i = z + 1 + 1 := hi; have := HZW.out; omega))⟩
end
end Go.Proofs.YtdangnmeligfjaaGreatDoor
