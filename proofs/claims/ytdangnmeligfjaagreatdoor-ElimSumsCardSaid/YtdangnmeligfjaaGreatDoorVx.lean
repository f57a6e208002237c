/-
  Values of translations, walked.
-/
import Derived.Test.YtdangnmeligfjaaGreatDoorTr
import Derived.Test.YtdangnmeligfjaaGreatDoorZ37
import Derived.Test.YtdangnmeligfjaaGreatDoorZ50
import Derived.Test.YtdangnmeligfjaaGreatDoorZ70
import Derived.Test.YtdangnmeligfjaaGreatDoorZ46
namespace Go.Gk.V32
open Go.RowKit
theorem rcpD_len (b : Bks) (c : Rt6) (hn : (accLeaves b.accs).length ≤ 1000) : (rcpD b c).1.plus.length + (rcpD b c).1.minus.length ≤ 5000 := by
 unfold rcpD
 split
 ·unfold transOf
  split
  ·unfold transRcp
   simp only
   split
   ·split
    ·simp [Rcp.none]
    ·simp only [Rcp.none, List.length_nil, List.length_map]
     have := List.length_filter_le (fun a => decide (a ≠ (1 : Int))) (accLeaves b.accs)
     omega
   ·split
    ·simp [Rcp.none]
    ·simp only [Rcp.none, List.length_nil]
     split <;> simp
  ·simp [Rcp.none]
 ·unfold localOf
  split
  ·simp only
   split
   ·simp [Rcp.none]
   ·simp only [Rcp.none, List.length_nil]
    unfold localPlus
    split <;> simp
  ·simp [Rcp.none]
theorem trans_none {b : Bks} {c : Rt6} (h : c.1 ≠ 3) : (transOf b c).1 = Rcp.none := by
 unfold transOf
 by_cases hm : mayOf b c 3 3 = 0
 ·have := (may_in hm).2.2.2.1
  omega
 ·rw [if_neg hm]
theorem local_minus (b : Bks) (c : Rt6) : (localOf b c).1.minus = [] := by
 unfold localOf
 split
 ·simp only
  split <;> rfl
 ·rfl
theorem row_nil_any {α : Type} {f : α → List Value} {size : Nat} {P P' : Nat → Prop} {w : World} {v : Value} {l : List α} (h : RowsOf f size P w v l) (hl : l = []) : RowsOf f size P' w v l := by
 subst hl
 exact Row.none h
theorem local_apart {b : Bks} {c : Rt6} {w : World} {v : Value} {y : Nat} {T : TypeId} {P1 M1 : Option Addr} {cp1 cm1 : Nat} (h : RowsOf int6 6 (fun _ => True) w v (localOf b c).1.plus) (hz : Blk w y T #[.int .i64 0, .int .i64 0, .slice P1 0 cp1, .slice M1 0 cm1, .int .i64 0, .int .i64 0, .int .i64 0, .int .i64 0, .int .i64 0, .int .i64 0, .bool false, .int .i64 0, .int .i64 0, .bool false]) : RowsOf int6 6 (fun g => g ≠ y) w v (localOf b c).1.plus := by
 have key : ∀ x : Int, x ≠ 0 → ∀ o : Nat, (#[.int .i64 0, .int .i64 0, .slice P1 0 cp1, .slice M1 0 cm1, .int .i64 0, .int .i64 0, .int .i64 0, .int .i64 0, .int .i64 0, .int .i64 0, .bool false, .int .i64 0, .int .i64 0, .bool false] : Array Value)[o]? ≠ some (.int .i64 x) := fun x hx o ho => by
  have hlt := (Array.getElem?_eq_some_iff.1 ho).1
  simp at hlt
  rcases (by omega : o = 0 ∨ o = 1 ∨ o = 2 ∨ o = 3 ∨ o = 4 ∨ o = 5 ∨ o = 6 ∨ o = 7 ∨ o = 8 ∨ o = 9 ∨ o = 10 ∨ o = 11 ∨ o = 12 ∨ o = 13) with rfl | rfl | rfl | rfl | rfl | rfl | rfl | rfl | rfl | rfl | rfl | rfl | rfl | rfl <;> simp at ho <;> exact hx ho.symm
 unfold localOf at h ⊢
 by_cases hm : mayOf b c 1 2 = 0
 ·rw [if_pos hm] at h ⊢
  by_cases h1 : c.1 = 1
  ·rw [if_pos h1] at h ⊢
   exact row_nil_any h rfl
  ·rw [if_neg h1] at h ⊢
   refine Row.apart h hz fun o hh => ?_
   unfold localPlus at hh
   by_cases hp : 0 < c.2.2.2.1
   ·rw [if_pos hp] at hh
    exact key 2 (by decide) (o + 0) (hh 0 (.int .i64 2) (by simp [int6]))
   ·rw [if_neg hp] at hh
    exact key 1 (by decide) (o + 0) (hh 0 (.int .i64 1) (by simp [int6]))
 ·rw [if_neg hm] at h ⊢
  exact row_nil_any h rfl
theorem rcpD_base (b : Bks) (c : Rt6) : Vl64 (rcpD b c).1.base := by
 have h0 : Vl64 (0, 0) := by simp [Vl64, I64]
 unfold rcpD
 split
 ·unfold transOf
  split
  ·unfold transRcp
   simp only
   split
   ·split <;> exact h0
   ·split <;> exact h0
  ·exact h0
 ·unfold localOf
  split
  ·simp only
   split
   ·exact told2_64 _
   ·exact h0
  ·exact h0
end Go.Gk.V32
namespace Go.Proofs.YtdangnmeligfjaaGreatDoor
open Go.RowKit Go.Gk Go.Gk.V32
section
variable {bv bi B t mr mp : Nat} {e a s r l n lv : Value} {fs : List Value} {b : Bks} {us : List (Ent × Value)}
set_option maxRecDepth 100000 in
set_option maxHeartbeats 25600000 in
theorem value32_any (hn : (accLeaves b.accs).length ≤ 1000) (hrl : b.rates.length ≤ 1000000) (hp : (posts b.entries).length ≤ 10000) (hq : ∀ p ∈ posts b.entries, I64 p.2.2.2.2) : ∀ (d : Nat) (w : World) (x : Int), x = (d : Int) ∧ d ≤ 100 → Vw w bv bi B t mr mp e a s r l n lv fs b us → Tab64 1 w → ∀ c1 c2 c3 c4 c5 c6 : Int,
 Calls Tryz.prog 42 #[.pointer (some ⟨bv, 0, none⟩), .agg #[.int .i64 c1, .int .i64 c2, .int .i64 c3, .int .i64 c4, .int .i64 c5, .int .i64 c6], .int .i64 x] w fun y w' => y = .returned (vlV (valD b d (c1, c2, c3, c4, c5, c6))) ∧ Tch (fun _ => False) w w' := by
 intro d
 induction d with
 | zero =>
  intro w x hx h hT c1 c2 c3 c4 c5 c6
  obtain ⟨hx1, _⟩ := hx
  obtain rfl : x = 0 := by simpa using hx1
  clear hx1
  have HV := Lib.hid (fun w' (t9 : Tch (fun _ => False) w w') => h.keep t9)
  have HTT := Lib.hid (fun w' (t9 : Tch (fun _ => False) w w') => hT.keep t9)
  have ta := Tch.alloc (fun _ => False) w (.cells #[.int .i64 c1, .int .i64 c2, .int .i64 c3, .int .i64 c4, .int .i64 c5, .int .i64 c6] 31)
  have tb := Tch.alloc (fun _ => False) (w.alloc (.cells #[.int .i64 c1, .int .i64 c2, .int .i64 c3, .int .i64 c4, .int .i64 c5, .int .i64 c6] 31)) (.cells #[.int .i64 0, .int .i64 0] 39)
  have tw := ta.trans tb
  have bC := (Blk.new w 31 #[.int .i64 c1, .int .i64 c2, .int .i64 c3, .int .i64 c4, .int .i64 c5, .int .i64 c6]).keep tb id
  have bO := Blk.new2 w (.cells #[.int .i64 c1, .int .i64 c2, .int .i64 c3, .int .i64 c4, .int .i64 c5, .int .i64 c6] 31) 39 #[.int .i64 0, .int .i64 0]
  have HTR := Lib.hid (transrec_any (HV.out _ tw) hn hrl (HTT.out _ tw) c1 c2 c3 c4 c5 c6)
  have HRD0 : Hid (rcpD b (c1, c2, c3, c4, c5, c6) = if c1 = 3 then transOf b (c1, c2, c3, c4, c5, c6) else localOf b (c1, c2, c3, c4, c5, c6)) := Lib.hid rfl
  unfold TransOk at HTR
  have HTN := Lib.hid (trans_none (b := b) (c := (c1, c2, c3, c4, c5, c6)))
  generalize transOf b (c1, c2, c3, c4, c5, c6) = to at *
  obtain ⟨R1, e1⟩ := to
  simp only at HTR
  clear ta tb h hT
  go_enter Tryz.func42, Tryz.ntmps42
  go_wp2_with fail
  generalize (w.alloc (.cells #[.int .i64 c1, .int .i64 c2, .int .i64 c3, .int .i64 c4, .int .i64 c5, .int .i64 c6] 31)).alloc _ = W at *
  generalize hzw : w.heap.size = z at *
  have HZW := Lib.hid hzw
  clear hzw
  refine HTR.out.mono ?_
  rintro _ w1 ⟨v1, rfl, ⟨p1, m1, rfl, hp1, hm1⟩, t1⟩
  obtain ⟨P1, cp1, rfl, _, _⟩ := hp1.form
  obtain ⟨M1, cm1, rfl, _, _⟩ := hm1.form
  have tG := Tch.alloc (fun _ => False) w1 (.cells #[.int .i64 R1.base.1, .int .i64 R1.base.2, .slice P1 R1.plus.length cp1, .slice M1 R1.minus.length cm1, .int .i64 R1.scaled.1, .int .i64 R1.scaled.2.1, .int .i64 R1.scaled.2.2.1, .int .i64 R1.scaled.2.2.2.1, .int .i64 R1.scaled.2.2.2.2.1, .int .i64 R1.scaled.2.2.2.2.2, .bool R1.rated, .int .i64 R1.ratio.1, .int .i64 R1.ratio.2, .bool R1.has] 46)
  have bG := Blk.new w1 46 #[.int .i64 R1.base.1, .int .i64 R1.base.2, .slice P1 R1.plus.length cp1, .slice M1 R1.minus.length cm1, .int .i64 R1.scaled.1, .int .i64 R1.scaled.2.1, .int .i64 R1.scaled.2.2.1, .int .i64 R1.scaled.2.2.2.1, .int .i64 R1.scaled.2.2.2.2.1, .int .i64 R1.scaled.2.2.2.2.2, .bool R1.rated, .int .i64 R1.ratio.1, .int .i64 R1.ratio.2, .bool R1.has]
  have t1G := t1.trans tG
  have bC1 := bC.keep t1G id
  have bO1 := bO.keep t1G id
  have T1 := tw.trans t1G
  have hp2 := hp1.keep tG
  have hm2 := hm1.keep tG
  have hlt := bO.lt
  have hsz := t1.size
  have k0 : (w1.alloc (.cells #[.int .i64 R1.base.1, .int .i64 R1.base.2, .slice P1 R1.plus.length cp1, .slice M1 R1.minus.length cm1, .int .i64 R1.scaled.1, .int .i64 R1.scaled.2.1, .int .i64 R1.scaled.2.2.1, .int .i64 R1.scaled.2.2.2.1, .int .i64 R1.scaled.2.2.2.2.1, .int .i64 R1.scaled.2.2.2.2.2, .bool R1.rated, .int .i64 R1.ratio.1, .int .i64 R1.ratio.2, .bool R1.has] 46)).cell? ⟨z, 0, none⟩ = some (.int .i64 c1) := bC1.cell 0
  have k1 : (w1.alloc (.cells #[.int .i64 R1.base.1, .int .i64 R1.base.2, .slice P1 R1.plus.length cp1, .slice M1 R1.minus.length cm1, .int .i64 R1.scaled.1, .int .i64 R1.scaled.2.1, .int .i64 R1.scaled.2.2.1, .int .i64 R1.scaled.2.2.2.1, .int .i64 R1.scaled.2.2.2.2.1, .int .i64 R1.scaled.2.2.2.2.2, .bool R1.rated, .int .i64 R1.ratio.1, .int .i64 R1.ratio.2, .bool R1.has] 46)).cell? ⟨z, 1, none⟩ = some (.int .i64 c2) := bC1.cell 1
  have k2 : (w1.alloc (.cells #[.int .i64 R1.base.1, .int .i64 R1.base.2, .slice P1 R1.plus.length cp1, .slice M1 R1.minus.length cm1, .int .i64 R1.scaled.1, .int .i64 R1.scaled.2.1, .int .i64 R1.scaled.2.2.1, .int .i64 R1.scaled.2.2.2.1, .int .i64 R1.scaled.2.2.2.2.1, .int .i64 R1.scaled.2.2.2.2.2, .bool R1.rated, .int .i64 R1.ratio.1, .int .i64 R1.ratio.2, .bool R1.has] 46)).cell? ⟨z, 2, none⟩ = some (.int .i64 c3) := bC1.cell 2
  have k3 : (w1.alloc (.cells #[.int .i64 R1.base.1, .int .i64 R1.base.2, .slice P1 R1.plus.length cp1, .slice M1 R1.minus.length cm1, .int .i64 R1.scaled.1, .int .i64 R1.scaled.2.1, .int .i64 R1.scaled.2.2.1, .int .i64 R1.scaled.2.2.2.1, .int .i64 R1.scaled.2.2.2.2.1, .int .i64 R1.scaled.2.2.2.2.2, .bool R1.rated, .int .i64 R1.ratio.1, .int .i64 R1.ratio.2, .bool R1.has] 46)).cell? ⟨z, 3, none⟩ = some (.int .i64 c4) := bC1.cell 3
  have k4 : (w1.alloc (.cells #[.int .i64 R1.base.1, .int .i64 R1.base.2, .slice P1 R1.plus.length cp1, .slice M1 R1.minus.length cm1, .int .i64 R1.scaled.1, .int .i64 R1.scaled.2.1, .int .i64 R1.scaled.2.2.1, .int .i64 R1.scaled.2.2.2.1, .int .i64 R1.scaled.2.2.2.2.1, .int .i64 R1.scaled.2.2.2.2.2, .bool R1.rated, .int .i64 R1.ratio.1, .int .i64 R1.ratio.2, .bool R1.has] 46)).cell? ⟨z, 4, none⟩ = some (.int .i64 c5) := bC1.cell 4
  have k5 : (w1.alloc (.cells #[.int .i64 R1.base.1, .int .i64 R1.base.2, .slice P1 R1.plus.length cp1, .slice M1 R1.minus.length cm1, .int .i64 R1.scaled.1, .int .i64 R1.scaled.2.1, .int .i64 R1.scaled.2.2.1, .int .i64 R1.scaled.2.2.2.1, .int .i64 R1.scaled.2.2.2.2.1, .int .i64 R1.scaled.2.2.2.2.2, .bool R1.rated, .int .i64 R1.ratio.1, .int .i64 R1.ratio.2, .bool R1.has] 46)).cell? ⟨z, 5, none⟩ = some (.int .i64 c6) := bC1.cell 5
  clear HTR bC bO tw t1 tG t1G hp1 hm1
  by_cases h3 : c1 = 3
  ·subst h3
   have HRD := Lib.hid (show rcpD b (3, c2, c3, c4, c5, c6) = (R1, e1) by rw [HRD0.out, if_pos rfl])
   clear HRD0 HTN k1 k2 k3 k4 k5
   unfold rcpV
   have HVD := Lib.hid (show valD b 0 (3, c2, c3, c4, c5, c6) = (0, 2) from rfl)
   clear HRD
   by_cases he : e1 = 0
   ·subst he
    clear bG hp2 hm2
    go_wp2_with (refine wpList_store_blk rfl _ _ _ rfl (z + 1) #[.int .i64 0, .int .i64 2] (by rfl) (by rfl) bO1 (by kernel_rfl) rfl (by simp [Value.oneCell']) ?_; refine Hid.out ?_)
    refine Lib.hid ?_
    intro w9 hF tF
    have HF := Lib.hid hF
    have HTF := Lib.hid tF
    clear hF tF bO1
    go_wp2
    (try simp only [Exit.inBlock, Exit.then])
    (try rw [Exit.noGoto_ret])
    refine bodyPost_ret (results_cell_row (P := Tryz.prog) rfl _ _ (z + 1) 39 _ (0, 0) _ rfl HF.out Tryz.underlying39 rfl (by kernel_rfl)) rfl ?_
    refine ⟨?_, T1.trans' (F' := fun g => g = z + 1) HTF.out (fun i hi => .inr (by have hi : i = z + 1 := hi; have := HZW.out; omega))⟩
    rw [HVD.out]
    rfl
   ·have heb : (e1 != 0) = true := by simpa using he
    clear bG hp2 hm2 he
    go_wp2_with (refine wpList_store_blk rfl _ _ _ rfl (z + 1) #[.int .i64 0, .int .i64 2] (by rfl) (by rfl) bO1 (by kernel_rfl) rfl (by simp [Value.oneCell']) ?_; refine Hid.out ?_)
    refine Lib.hid ?_
    intro w9 hF tF
    have HF := Lib.hid hF
    have HTF := Lib.hid tF
    clear hF tF bO1
    go_wp2
    (try simp only [Exit.inBlock, Exit.then])
    (try rw [Exit.noGoto_ret])
    refine bodyPost_ret (results_cell_row (P := Tryz.prog) rfl _ _ (z + 1) 39 _ (0, 0) _ rfl HF.out Tryz.underlying39 rfl (by kernel_rfl)) rfl ?_
    refine ⟨?_, T1.trans' (F' := fun g => g = z + 1) HTF.out (fun i hi => .inr (by have hi : i = z + 1 := hi; have := HZW.out; omega))⟩
    rw [HVD.out]
    rfl
  ·have h3b : (c1 != 3) = true := by simpa using h3
   have hrd := HRD0.out
   rw [if_neg h3] at hrd
   have HLR := Lib.hid (localrec_any (HV.out _ T1) hn hp hq c1 c2 c3 c4 c5 c6)
   unfold RecOk at HLR
   have HAP := Lib.hid (fun (w' : World) (v : Value) (y : Nat) (P1 M1 : Option Addr) (cp1 cm1 : Nat) h hz => local_apart (b := b) (c := (c1, c2, c3, c4, c5, c6)) (w := w') (v := v) (y := y) (T := 46) (P1 := P1) (M1 := M1) (cp1 := cp1) (cm1 := cm1) h hz)
   have HMN := Lib.hid (local_minus b (c1, c2, c3, c4, c5, c6))
   have hr1 := HTN.out h3
   (try simp only at hr1)
   subst hr1
   generalize localOf b (c1, c2, c3, c4, c5, c6) = lo at *
   obtain ⟨R2, e2⟩ := lo
   (try simp only at HLR)
   (try simp only at HAP)
   (try simp only at HMN)
   have HRD := Lib.hid hrd
   clear hrd HRD0 h3 hp2 hm2 HTN
   unfold rcpV
   go_wp2_with fail
   generalize w1.alloc _ = W1 at *
   generalize hyy : w1.heap.size = y at *
   have HYY := Lib.hid hyy
   clear hyy
   refine HLR.out.mono ?_
   rintro _ w2 ⟨v2, rfl, ⟨p2, m2, rfl, hp2, hm2⟩, t2⟩
   obtain ⟨P2, cp2, rfl, _, _⟩ := hp2.form
   obtain ⟨M2, cm2, rfl, _, _⟩ := hm2.form
   have bG2 : Blk w2 y 46 #[.int .i64 0, .int .i64 0, .slice P1 0 cp1, .slice M1 0 cm1, .int .i64 0, .int .i64 0, .int .i64 0, .int .i64 0, .int .i64 0, .int .i64 0, .bool false, .int .i64 0, .int .i64 0, .bool false] := bG.keep t2 id
   have bO2 := bO1.keep t2 id
   have T2 := T1.trans t2
   have hpA := HAP.out w2 _ y P1 M1 cp1 cm1 hp2 bG2
   unfold rcpV
   clear HLR k0 k1 k2 k3 k4 k5 bG bO1 bC1 HAP hp2
   go_wp2_with (refine wpList_store_blk rfl _ _ _ rfl y #[.int .i64 R2.base.1, .int .i64 R2.base.2, .slice P2 R2.plus.length cp2, .slice M2 R2.minus.length cm2, .int .i64 R2.scaled.1, .int .i64 R2.scaled.2.1, .int .i64 R2.scaled.2.2.1, .int .i64 R2.scaled.2.2.2.1, .int .i64 R2.scaled.2.2.2.2.1, .int .i64 R2.scaled.2.2.2.2.2, .bool R2.rated, .int .i64 R2.ratio.1, .int .i64 R2.ratio.2, .bool R2.has] (by rfl) (by rfl) bG2 (by kernel_rfl) rfl (by simp [Value.oneCell']) ?_; refine Hid.out ?_)
   refine Lib.hid ?_
   intro w3 bG3 ts3
   have bO3 := bO2.keep ts3 (by have := HYY.out; omega)
   have hp3 := Row.keepTo (P' := fun _ => True) hpA ts3 (fun g _ hg => ⟨hg, trivial⟩)
   have hm3 := Row.keepTo (P' := fun _ => True) (row_nil_any (P' := fun g => g ≠ y) hm2 HMN.out) ts3 (fun g _ hg => ⟨hg, trivial⟩)
   have T3 := T2.trans' ts3 (fun i hi => .inr (by have hi : i = y := hi; have := HYY.out; have := HZW.out; omega))
   clear bG2 bO2 T2 ts3 hpA hm2
   have HVD := Lib.hid (show valD b 0 (c1, c2, c3, c4, c5, c6) = (0, 2) from rfl)
   clear HRD
   by_cases he : e2 = 0
   ·subst he
    clear bG3 hp3 hm3
    go_wp2_with (refine wpList_store_blk rfl _ _ _ rfl (z + 1) #[.int .i64 0, .int .i64 2] (by rfl) (by rfl) bO3 (by kernel_rfl) rfl (by simp [Value.oneCell']) ?_; refine Hid.out ?_)
    refine Lib.hid ?_
    intro w9 hF tF
    have HF := Lib.hid hF
    have HTF := Lib.hid tF
    clear hF tF bO3
    go_wp2
    (try simp only [Exit.inBlock, Exit.then])
    (try rw [Exit.noGoto_ret])
    refine bodyPost_ret (results_cell_row (P := Tryz.prog) rfl _ _ (z + 1) 39 _ (0, 0) _ rfl HF.out Tryz.underlying39 rfl (by kernel_rfl)) rfl ?_
    refine ⟨?_, T3.trans' (F' := fun g => g = z + 1) HTF.out (fun i hi => .inr (by have hi : i = z + 1 := hi; have := HZW.out; omega))⟩
    rw [HVD.out]
    rfl
   ·have heb : (e2 != 0) = true := by simpa using he
    clear bG3 hp3 hm3 he
    go_wp2_with (refine wpList_store_blk rfl _ _ _ rfl (z + 1) #[.int .i64 0, .int .i64 2] (by rfl) (by rfl) bO3 (by kernel_rfl) rfl (by simp [Value.oneCell']) ?_; refine Hid.out ?_)
    refine Lib.hid ?_
    intro w9 hF tF
    have HF := Lib.hid hF
    have HTF := Lib.hid tF
    clear hF tF bO3
    go_wp2
    (try simp only [Exit.inBlock, Exit.then])
    (try rw [Exit.noGoto_ret])
    refine bodyPost_ret (results_cell_row (P := Tryz.prog) rfl _ _ (z + 1) 39 _ (0, 0) _ rfl HF.out Tryz.underlying39 rfl (by kernel_rfl)) rfl ?_
    refine ⟨?_, T3.trans' (F' := fun g => g = z + 1) HTF.out (fun i hi => .inr (by have hi : i = z + 1 := hi; have := HZW.out; omega))⟩
    rw [HVD.out]
    rfl
 | succ d ih =>
  intro w x hx h hT c1 c2 c3 c4 c5 c6
  have HV := Lib.hid (fun w' (t9 : Tch (fun _ => False) w w') => h.keep t9)
  have HTT := Lib.hid (fun w' (t9 : Tch (fun _ => False) w w') => hT.keep t9)
  have ta := Tch.alloc (fun _ => False) w (.cells #[.int .i64 c1, .int .i64 c2, .int .i64 c3, .int .i64 c4, .int .i64 c5, .int .i64 c6] 31)
  have tb := Tch.alloc (fun _ => False) (w.alloc (.cells #[.int .i64 c1, .int .i64 c2, .int .i64 c3, .int .i64 c4, .int .i64 c5, .int .i64 c6] 31)) (.cells #[.int .i64 0, .int .i64 0] 39)
  have tw := ta.trans tb
  have bC := (Blk.new w 31 #[.int .i64 c1, .int .i64 c2, .int .i64 c3, .int .i64 c4, .int .i64 c5, .int .i64 c6]).keep tb id
  have bO := Blk.new2 w (.cells #[.int .i64 c1, .int .i64 c2, .int .i64 c3, .int .i64 c4, .int .i64 c5, .int .i64 c6] 31) 39 #[.int .i64 0, .int .i64 0]
  have HTR := Lib.hid (transrec_any (HV.out _ tw) hn hrl (HTT.out _ tw) c1 c2 c3 c4 c5 c6)
  have HRD0 : Hid (rcpD b (c1, c2, c3, c4, c5, c6) = if c1 = 3 then transOf b (c1, c2, c3, c4, c5, c6) else localOf b (c1, c2, c3, c4, c5, c6)) := Lib.hid rfl
  unfold TransOk at HTR
  have HTN := Lib.hid (trans_none (b := b) (c := (c1, c2, c3, c4, c5, c6)))
  generalize transOf b (c1, c2, c3, c4, c5, c6) = to at *
  obtain ⟨R1, e1⟩ := to
  simp only at HTR
  have hx0 : ¬ x ≤ 0 := by omega
  have hw1 : wrap64 (x - 1) = x - 1 := by unfold wrap64; omega
  have HXD := Lib.hid (show x - 1 = (d : Int) ∧ d ≤ 100 by omega)
  have HIHH := Lib.hid ih
  clear ta tb h hT hx ih
  go_enter Tryz.func42, Tryz.ntmps42
  go_wp2_with fail
  generalize (w.alloc (.cells #[.int .i64 c1, .int .i64 c2, .int .i64 c3, .int .i64 c4, .int .i64 c5, .int .i64 c6] 31)).alloc _ = W at *
  generalize hzw : w.heap.size = z at *
  have HZW := Lib.hid hzw
  clear hzw
  refine HTR.out.mono ?_
  rintro _ w1 ⟨v1, rfl, ⟨p1, m1, rfl, hp1, hm1⟩, t1⟩
  obtain ⟨P1, cp1, rfl, _, _⟩ := hp1.form
  obtain ⟨M1, cm1, rfl, _, _⟩ := hm1.form
  have tG := Tch.alloc (fun _ => False) w1 (.cells #[.int .i64 R1.base.1, .int .i64 R1.base.2, .slice P1 R1.plus.length cp1, .slice M1 R1.minus.length cm1, .int .i64 R1.scaled.1, .int .i64 R1.scaled.2.1, .int .i64 R1.scaled.2.2.1, .int .i64 R1.scaled.2.2.2.1, .int .i64 R1.scaled.2.2.2.2.1, .int .i64 R1.scaled.2.2.2.2.2, .bool R1.rated, .int .i64 R1.ratio.1, .int .i64 R1.ratio.2, .bool R1.has] 46)
  have bG := Blk.new w1 46 #[.int .i64 R1.base.1, .int .i64 R1.base.2, .slice P1 R1.plus.length cp1, .slice M1 R1.minus.length cm1, .int .i64 R1.scaled.1, .int .i64 R1.scaled.2.1, .int .i64 R1.scaled.2.2.1, .int .i64 R1.scaled.2.2.2.1, .int .i64 R1.scaled.2.2.2.2.1, .int .i64 R1.scaled.2.2.2.2.2, .bool R1.rated, .int .i64 R1.ratio.1, .int .i64 R1.ratio.2, .bool R1.has]
  have t1G := t1.trans tG
  have bC1 := bC.keep t1G id
  have bO1 := bO.keep t1G id
  have T1 := tw.trans t1G
  have hp2 := hp1.keep tG
  have hm2 := hm1.keep tG
  have hlt := bO.lt
  have hsz := t1.size
  have k0 : (w1.alloc (.cells #[.int .i64 R1.base.1, .int .i64 R1.base.2, .slice P1 R1.plus.length cp1, .slice M1 R1.minus.length cm1, .int .i64 R1.scaled.1, .int .i64 R1.scaled.2.1, .int .i64 R1.scaled.2.2.1, .int .i64 R1.scaled.2.2.2.1, .int .i64 R1.scaled.2.2.2.2.1, .int .i64 R1.scaled.2.2.2.2.2, .bool R1.rated, .int .i64 R1.ratio.1, .int .i64 R1.ratio.2, .bool R1.has] 46)).cell? ⟨z, 0, none⟩ = some (.int .i64 c1) := bC1.cell 0
  have k1 : (w1.alloc (.cells #[.int .i64 R1.base.1, .int .i64 R1.base.2, .slice P1 R1.plus.length cp1, .slice M1 R1.minus.length cm1, .int .i64 R1.scaled.1, .int .i64 R1.scaled.2.1, .int .i64 R1.scaled.2.2.1, .int .i64 R1.scaled.2.2.2.1, .int .i64 R1.scaled.2.2.2.2.1, .int .i64 R1.scaled.2.2.2.2.2, .bool R1.rated, .int .i64 R1.ratio.1, .int .i64 R1.ratio.2, .bool R1.has] 46)).cell? ⟨z, 1, none⟩ = some (.int .i64 c2) := bC1.cell 1
  have k2 : (w1.alloc (.cells #[.int .i64 R1.base.1, .int .i64 R1.base.2, .slice P1 R1.plus.length cp1, .slice M1 R1.minus.length cm1, .int .i64 R1.scaled.1, .int .i64 R1.scaled.2.1, .int .i64 R1.scaled.2.2.1, .int .i64 R1.scaled.2.2.2.1, .int .i64 R1.scaled.2.2.2.2.1, .int .i64 R1.scaled.2.2.2.2.2, .bool R1.rated, .int .i64 R1.ratio.1, .int .i64 R1.ratio.2, .bool R1.has] 46)).cell? ⟨z, 2, none⟩ = some (.int .i64 c3) := bC1.cell 2
  have k3 : (w1.alloc (.cells #[.int .i64 R1.base.1, .int .i64 R1.base.2, .slice P1 R1.plus.length cp1, .slice M1 R1.minus.length cm1, .int .i64 R1.scaled.1, .int .i64 R1.scaled.2.1, .int .i64 R1.scaled.2.2.1, .int .i64 R1.scaled.2.2.2.1, .int .i64 R1.scaled.2.2.2.2.1, .int .i64 R1.scaled.2.2.2.2.2, .bool R1.rated, .int .i64 R1.ratio.1, .int .i64 R1.ratio.2, .bool R1.has] 46)).cell? ⟨z, 3, none⟩ = some (.int .i64 c4) := bC1.cell 3
  have k4 : (w1.alloc (.cells #[.int .i64 R1.base.1, .int .i64 R1.base.2, .slice P1 R1.plus.length cp1, .slice M1 R1.minus.length cm1, .int .i64 R1.scaled.1, .int .i64 R1.scaled.2.1, .int .i64 R1.scaled.2.2.1, .int .i64 R1.scaled.2.2.2.1, .int .i64 R1.scaled.2.2.2.2.1, .int .i64 R1.scaled.2.2.2.2.2, .bool R1.rated, .int .i64 R1.ratio.1, .int .i64 R1.ratio.2, .bool R1.has] 46)).cell? ⟨z, 4, none⟩ = some (.int .i64 c5) := bC1.cell 4
  have k5 : (w1.alloc (.cells #[.int .i64 R1.base.1, .int .i64 R1.base.2, .slice P1 R1.plus.length cp1, .slice M1 R1.minus.length cm1, .int .i64 R1.scaled.1, .int .i64 R1.scaled.2.1, .int .i64 R1.scaled.2.2.1, .int .i64 R1.scaled.2.2.2.1, .int .i64 R1.scaled.2.2.2.2.1, .int .i64 R1.scaled.2.2.2.2.2, .bool R1.rated, .int .i64 R1.ratio.1, .int .i64 R1.ratio.2, .bool R1.has] 46)).cell? ⟨z, 5, none⟩ = some (.int .i64 c6) := bC1.cell 5
  clear HTR bC bO tw t1 tG t1G hp1 hm1
  by_cases h3 : c1 = 3
  ·subst h3
   have HRD := Lib.hid (show rcpD b (3, c2, c3, c4, c5, c6) = (R1, e1) by rw [HRD0.out, if_pos rfl])
   clear HRD0 HTN k1 k2 k3 k4 k5
   unfold rcpV
   have HVD : Hid (valD b (d + 1) (3, c2, c3, c4, c5, c6) = if (rcpD b (3, c2, c3, c4, c5, c6)).2 = 0 then evalOf (rcpD b (3, c2, c3, c4, c5, c6)).1 ((readsOf (rcpD b (3, c2, c3, c4, c5, c6)).1).map (valD b d)) else (0, 2)) := Lib.hid rfl
   have hvd := HVD.out
   have HLE := Lib.hid (rcpD_len b (3, c2, c3, c4, c5, c6) hn)
   have HB64 := Lib.hid (rcpD_base b (3, c2, c3, c4, c5, c6))
   rw [HRD.out] at hvd HLE HB64
   simp only at hvd HLE HB64
   have HVL := Lib.hid hvd
   clear hvd HVD
   by_cases he : e1 = 0
   rotate_left
   ·have hvl := HVL.out
    rw [if_neg he] at hvl
    have HVV := Lib.hid hvl
    have heb : (e1 != 0) = true := by simpa using he
    clear bG hp2 hm2 he HVL hvl HLE HB64 HRD
    go_wp2_with (refine wpList_store_blk rfl _ _ _ rfl (z + 1) #[.int .i64 0, .int .i64 2] (by rfl) (by rfl) bO1 (by kernel_rfl) rfl (by simp [Value.oneCell']) ?_; refine Hid.out ?_)
    refine Lib.hid ?_
    intro w9 hF tF
    have HF := Lib.hid hF
    have HTF := Lib.hid tF
    clear hF tF bO1
    go_wp2
    (try simp only [Exit.inBlock, Exit.then])
    (try rw [Exit.noGoto_ret])
    refine bodyPost_ret (results_cell_row (P := Tryz.prog) rfl _ _ (z + 1) 39 _ (0, 0) _ rfl HF.out Tryz.underlying39 rfl (by kernel_rfl)) rfl ?_
    refine ⟨?_, T1.trans' (F' := fun g => g = z + 1) HTF.out (fun i hi => .inr (by have hi : i = z + 1 := hi; have := HZW.out; omega))⟩
    rw [HVV.out]
    rfl
   subst he
   have hvl := HVL.out
   rw [if_pos rfl] at hvl
   have HVL2 := Lib.hid hvl
   have HRI := Lib.hid (fun (w' : World) (t9 : Tch (fun _ => False) (w1.alloc (.cells #[.int .i64 R1.base.1, .int .i64 R1.base.2, .slice P1 R1.plus.length cp1, .slice M1 R1.minus.length cm1, .int .i64 R1.scaled.1, .int .i64 R1.scaled.2.1, .int .i64 R1.scaled.2.2.1, .int .i64 R1.scaled.2.2.2.1, .int .i64 R1.scaled.2.2.2.2.1, .int .i64 R1.scaled.2.2.2.2.2, .bool R1.rated, .int .i64 R1.ratio.1, .int .i64 R1.ratio.2, .bool R1.has] 46)) w') => (show RcpIs w' (.agg #[.int .i64 R1.base.1, .int .i64 R1.base.2, .slice P1 R1.plus.length cp1, .slice M1 R1.minus.length cm1, .int .i64 R1.scaled.1, .int .i64 R1.scaled.2.1, .int .i64 R1.scaled.2.2.1, .int .i64 R1.scaled.2.2.2.1, .int .i64 R1.scaled.2.2.2.2.1, .int .i64 R1.scaled.2.2.2.2.2, .bool R1.rated, .int .i64 R1.ratio.1, .int .i64 R1.ratio.2, .bool R1.has]) R1 from ⟨_, _, rfl, hp2.keep t9, hm2.keep t9⟩))
   have HRE := Lib.hid (reads_any (HRI.out (w1.alloc (.cells #[.int .i64 R1.base.1, .int .i64 R1.base.2, .slice P1 R1.plus.length cp1, .slice M1 R1.minus.length cm1, .int .i64 R1.scaled.1, .int .i64 R1.scaled.2.1, .int .i64 R1.scaled.2.2.1, .int .i64 R1.scaled.2.2.2.1, .int .i64 R1.scaled.2.2.2.2.1, .int .i64 R1.scaled.2.2.2.2.2, .bool R1.rated, .int .i64 R1.ratio.1, .int .i64 R1.ratio.2, .bool R1.has] 46)) (Tch.refl _ _)) (by have := HLE.out; omega))
   have f0 : (w1.alloc (.cells #[.int .i64 R1.base.1, .int .i64 R1.base.2, .slice P1 R1.plus.length cp1, .slice M1 R1.minus.length cm1, .int .i64 R1.scaled.1, .int .i64 R1.scaled.2.1, .int .i64 R1.scaled.2.2.1, .int .i64 R1.scaled.2.2.2.1, .int .i64 R1.scaled.2.2.2.2.1, .int .i64 R1.scaled.2.2.2.2.2, .bool R1.rated, .int .i64 R1.ratio.1, .int .i64 R1.ratio.2, .bool R1.has] 46)).cell? ⟨w1.heap.size, 0, none⟩ = some (.int .i64 R1.base.1) := bG.cell 0
   have f1 : (w1.alloc (.cells #[.int .i64 R1.base.1, .int .i64 R1.base.2, .slice P1 R1.plus.length cp1, .slice M1 R1.minus.length cm1, .int .i64 R1.scaled.1, .int .i64 R1.scaled.2.1, .int .i64 R1.scaled.2.2.1, .int .i64 R1.scaled.2.2.2.1, .int .i64 R1.scaled.2.2.2.2.1, .int .i64 R1.scaled.2.2.2.2.2, .bool R1.rated, .int .i64 R1.ratio.1, .int .i64 R1.ratio.2, .bool R1.has] 46)).cell? ⟨w1.heap.size, 1, none⟩ = some (.int .i64 R1.base.2) := bG.cell 1
   have f2 : (w1.alloc (.cells #[.int .i64 R1.base.1, .int .i64 R1.base.2, .slice P1 R1.plus.length cp1, .slice M1 R1.minus.length cm1, .int .i64 R1.scaled.1, .int .i64 R1.scaled.2.1, .int .i64 R1.scaled.2.2.1, .int .i64 R1.scaled.2.2.2.1, .int .i64 R1.scaled.2.2.2.2.1, .int .i64 R1.scaled.2.2.2.2.2, .bool R1.rated, .int .i64 R1.ratio.1, .int .i64 R1.ratio.2, .bool R1.has] 46)).cell? ⟨w1.heap.size, 2, none⟩ = some (.slice P1 R1.plus.length cp1) := bG.cell 2
   have f3 : (w1.alloc (.cells #[.int .i64 R1.base.1, .int .i64 R1.base.2, .slice P1 R1.plus.length cp1, .slice M1 R1.minus.length cm1, .int .i64 R1.scaled.1, .int .i64 R1.scaled.2.1, .int .i64 R1.scaled.2.2.1, .int .i64 R1.scaled.2.2.2.1, .int .i64 R1.scaled.2.2.2.2.1, .int .i64 R1.scaled.2.2.2.2.2, .bool R1.rated, .int .i64 R1.ratio.1, .int .i64 R1.ratio.2, .bool R1.has] 46)).cell? ⟨w1.heap.size, 3, none⟩ = some (.slice M1 R1.minus.length cm1) := bG.cell 3
   have f4 : (w1.alloc (.cells #[.int .i64 R1.base.1, .int .i64 R1.base.2, .slice P1 R1.plus.length cp1, .slice M1 R1.minus.length cm1, .int .i64 R1.scaled.1, .int .i64 R1.scaled.2.1, .int .i64 R1.scaled.2.2.1, .int .i64 R1.scaled.2.2.2.1, .int .i64 R1.scaled.2.2.2.2.1, .int .i64 R1.scaled.2.2.2.2.2, .bool R1.rated, .int .i64 R1.ratio.1, .int .i64 R1.ratio.2, .bool R1.has] 46)).cell? ⟨w1.heap.size, 4, none⟩ = some (.int .i64 R1.scaled.1) := bG.cell 4
   have f5 : (w1.alloc (.cells #[.int .i64 R1.base.1, .int .i64 R1.base.2, .slice P1 R1.plus.length cp1, .slice M1 R1.minus.length cm1, .int .i64 R1.scaled.1, .int .i64 R1.scaled.2.1, .int .i64 R1.scaled.2.2.1, .int .i64 R1.scaled.2.2.2.1, .int .i64 R1.scaled.2.2.2.2.1, .int .i64 R1.scaled.2.2.2.2.2, .bool R1.rated, .int .i64 R1.ratio.1, .int .i64 R1.ratio.2, .bool R1.has] 46)).cell? ⟨w1.heap.size, 5, none⟩ = some (.int .i64 R1.scaled.2.1) := bG.cell 5
   have f6 : (w1.alloc (.cells #[.int .i64 R1.base.1, .int .i64 R1.base.2, .slice P1 R1.plus.length cp1, .slice M1 R1.minus.length cm1, .int .i64 R1.scaled.1, .int .i64 R1.scaled.2.1, .int .i64 R1.scaled.2.2.1, .int .i64 R1.scaled.2.2.2.1, .int .i64 R1.scaled.2.2.2.2.1, .int .i64 R1.scaled.2.2.2.2.2, .bool R1.rated, .int .i64 R1.ratio.1, .int .i64 R1.ratio.2, .bool R1.has] 46)).cell? ⟨w1.heap.size, 6, none⟩ = some (.int .i64 R1.scaled.2.2.1) := bG.cell 6
   have f7 : (w1.alloc (.cells #[.int .i64 R1.base.1, .int .i64 R1.base.2, .slice P1 R1.plus.length cp1, .slice M1 R1.minus.length cm1, .int .i64 R1.scaled.1, .int .i64 R1.scaled.2.1, .int .i64 R1.scaled.2.2.1, .int .i64 R1.scaled.2.2.2.1, .int .i64 R1.scaled.2.2.2.2.1, .int .i64 R1.scaled.2.2.2.2.2, .bool R1.rated, .int .i64 R1.ratio.1, .int .i64 R1.ratio.2, .bool R1.has] 46)).cell? ⟨w1.heap.size, 7, none⟩ = some (.int .i64 R1.scaled.2.2.2.1) := bG.cell 7
   have f8 : (w1.alloc (.cells #[.int .i64 R1.base.1, .int .i64 R1.base.2, .slice P1 R1.plus.length cp1, .slice M1 R1.minus.length cm1, .int .i64 R1.scaled.1, .int .i64 R1.scaled.2.1, .int .i64 R1.scaled.2.2.1, .int .i64 R1.scaled.2.2.2.1, .int .i64 R1.scaled.2.2.2.2.1, .int .i64 R1.scaled.2.2.2.2.2, .bool R1.rated, .int .i64 R1.ratio.1, .int .i64 R1.ratio.2, .bool R1.has] 46)).cell? ⟨w1.heap.size, 8, none⟩ = some (.int .i64 R1.scaled.2.2.2.2.1) := bG.cell 8
   have f9 : (w1.alloc (.cells #[.int .i64 R1.base.1, .int .i64 R1.base.2, .slice P1 R1.plus.length cp1, .slice M1 R1.minus.length cm1, .int .i64 R1.scaled.1, .int .i64 R1.scaled.2.1, .int .i64 R1.scaled.2.2.1, .int .i64 R1.scaled.2.2.2.1, .int .i64 R1.scaled.2.2.2.2.1, .int .i64 R1.scaled.2.2.2.2.2, .bool R1.rated, .int .i64 R1.ratio.1, .int .i64 R1.ratio.2, .bool R1.has] 46)).cell? ⟨w1.heap.size, 9, none⟩ = some (.int .i64 R1.scaled.2.2.2.2.2) := bG.cell 9
   have f10 : (w1.alloc (.cells #[.int .i64 R1.base.1, .int .i64 R1.base.2, .slice P1 R1.plus.length cp1, .slice M1 R1.minus.length cm1, .int .i64 R1.scaled.1, .int .i64 R1.scaled.2.1, .int .i64 R1.scaled.2.2.1, .int .i64 R1.scaled.2.2.2.1, .int .i64 R1.scaled.2.2.2.2.1, .int .i64 R1.scaled.2.2.2.2.2, .bool R1.rated, .int .i64 R1.ratio.1, .int .i64 R1.ratio.2, .bool R1.has] 46)).cell? ⟨w1.heap.size, 10, none⟩ = some (.bool R1.rated) := bG.cell 10
   have f11 : (w1.alloc (.cells #[.int .i64 R1.base.1, .int .i64 R1.base.2, .slice P1 R1.plus.length cp1, .slice M1 R1.minus.length cm1, .int .i64 R1.scaled.1, .int .i64 R1.scaled.2.1, .int .i64 R1.scaled.2.2.1, .int .i64 R1.scaled.2.2.2.1, .int .i64 R1.scaled.2.2.2.2.1, .int .i64 R1.scaled.2.2.2.2.2, .bool R1.rated, .int .i64 R1.ratio.1, .int .i64 R1.ratio.2, .bool R1.has] 46)).cell? ⟨w1.heap.size, 11, none⟩ = some (.int .i64 R1.ratio.1) := bG.cell 11
   have f12 : (w1.alloc (.cells #[.int .i64 R1.base.1, .int .i64 R1.base.2, .slice P1 R1.plus.length cp1, .slice M1 R1.minus.length cm1, .int .i64 R1.scaled.1, .int .i64 R1.scaled.2.1, .int .i64 R1.scaled.2.2.1, .int .i64 R1.scaled.2.2.2.1, .int .i64 R1.scaled.2.2.2.2.1, .int .i64 R1.scaled.2.2.2.2.2, .bool R1.rated, .int .i64 R1.ratio.1, .int .i64 R1.ratio.2, .bool R1.has] 46)).cell? ⟨w1.heap.size, 12, none⟩ = some (.int .i64 R1.ratio.2) := bG.cell 12
   have f13 : (w1.alloc (.cells #[.int .i64 R1.base.1, .int .i64 R1.base.2, .slice P1 R1.plus.length cp1, .slice M1 R1.minus.length cm1, .int .i64 R1.scaled.1, .int .i64 R1.scaled.2.1, .int .i64 R1.scaled.2.2.1, .int .i64 R1.scaled.2.2.2.1, .int .i64 R1.scaled.2.2.2.2.1, .int .i64 R1.scaled.2.2.2.2.2, .bool R1.rated, .int .i64 R1.ratio.1, .int .i64 R1.ratio.2, .bool R1.has] 46)).cell? ⟨w1.heap.size, 13, none⟩ = some (.bool R1.has) := bG.cell 13
   clear hvl HVL HRD hp2 hm2
   go_wp2_with fail
   refine HRE.out.mono ?_
   rintro _ w5 ⟨u, rfl, hrow, t5⟩
   have bR5 := bG.keep t5 id
   have bO5 := bO1.keep t5 id
   have T5 := T1.trans t5
   have HLN := Lib.hid (show (readsOf R1).length ≤ 6000 by
    unfold readsOf rcpAll
    refine Nat.le_trans (uniq_len _) ?_
    rw [List.length_append, List.length_append]
    have := HLE.out
    split <;> simp <;> omega)
   obtain ⟨LL, hLL⟩ : ∃ LL, readsOf R1 = LL := ⟨_, rfl⟩
   rw [hLL] at hrow HVL2 HLN
   have hln := HLN.out
   have HROW := Lib.hid (fun (w' : World) (t9 : Tch (fun _ => False) w5 w') => hrow.keep t9)
   obtain ⟨U, cu, rfl, hu1, hu2⟩ := hrow.form
   have HT5 := Lib.hid (fun (w' : World) (t9 : Tch (fun _ => False) w5 w') => t5.trans t9)
   clear f0 f1 f2 f3 f4 f5 f6 f7 f8 f9 f10 f11 f12 f13 HRE hLL hrow bG bO1 t5
   go_wp2_with fail
   go_loopw [10, 11] (fun o i wr => ∃ (j : Nat) (xs : List Vl), j ≤ LL.length ∧ i = .int .i64 j ∧ (LL.take j).map (valD b d) = xs ∧ Outs val2 2 39 w5 wr o xs) (fun _ i _ => LL.length - (intOf i).toNat)
   case atStart => exact ⟨0, [], Nat.zero_le _, rfl, rfl, Outs.start _ _ _ (Tch.refl _ _)⟩
   case round =>
    obtain ⟨j, xs, hj, rfl, hxs, hO⟩ := hrel
    have HXS := Lib.hid hxs
    have HXL := Lib.hid (show xs.length = j by rw [← hxs, List.length_map, List.length_take]; omega)
    have hj0 : (0 : Int) ≤ (j : Int) := Int.natCast_nonneg _
    clear hxs
    obtain ⟨O, co, rfl, ho1, ho2⟩ := hO.form
    by_cases hlt : j < LL.length
    ·have hlt' : (j : Int) < (LL.length : Int) := by omega
     have hl9 := HROW.out wr hO.tch
     obtain ⟨g, o9, rfl⟩ := hl9.head (by omega)
     obtain ⟨q0, q1, q2, q3, q4, q5⟩ := Row.six hl9 int6_len hlt rfl
     have HXN := Lib.hid (show (LL.take (j + 1)).map (valD b d) = xs ++ [valD b d LL[j]] by rw [List.take_succ_eq_append_getElem hlt, List.map_append, HXS.out]; rfl)
     generalize LL[j] = cc at *
     obtain ⟨s1, s2, s3, s4, s5, s6⟩ := cc
     simp only at q0 q1 q2 q3 q4 q5
     have HIH := Lib.hid (HIHH.out wr (x - 1) HXD.out (HV.out wr (T5.trans hO.tch)) (HTT.out wr (T5.trans hO.tch)) s1 s2 s3 s4 s5 s6)
     generalize valD b d (s1, s2, s3, s4, s5, s6) = sv at *
     obtain ⟨sx, sy⟩ := sv
     unfold vlV at HIH
     simp only at HIH
     have hcl : xs.length ≤ 6000 := by have := HXL.out; omega
     clear hl9 HXS
     go_wp2_with fail
     refine HIH.out.mono ?_
     rintro _ wa ⟨rfl, ta⟩
     have hO2 := hO.keep ta
     clear HIH hO ta q0 q1 q2 q3 q4 q5
     go_wp2_with (at_builtin; refine wpList_append _ rfl _ _ 101 rfl rowVals (own_base (hO2.own.alloc _)) (by rfl) (Go.Gk.Src.one (news := val2 (sx, sy)) rfl (fun m9 u9 hu9 => by rw [(Blk.new wa 39 #[.int .i64 sx, .int .i64 sy]).cell m9]; simpa [val2] using hu9)) (by rfl) (by simpa using one_val2 [(sx, sy)]) (by unfold maxLen; omega) (by omega) ?_; intro v2 wc ho2 hg2 hl2; have hO3 := hO2.step (x := (sx, sy)) (Tch.alloc _ _ _) ho2 hg2 (fun g hg => by simpa using hl2 g hg); obtain ⟨O3, co3, rfl, _, _⟩ := own_form ho2)
     go_roundw
     case rel => exact ⟨j + 1, _, by omega, by go_num, HXN.out, by simpa using hO3⟩
     case measure => simp [intOf] <;> omega
    ·obtain rfl : j = LL.length := by omega
     have hxs := HXS.out
     rw [List.take_length] at hxs
     have hlt' : ¬ (LL.length : Int) < (LL.length : Int) := by omega
     have HRIw := Lib.hid (HRI.out wr (HT5.out wr hO.tch))
     have HEV := Lib.hid (eval_any HRIw.out hO.row (fun v hv => by rw [← hxs] at hv; obtain ⟨k9, _, rfl⟩ := List.mem_map.1 hv; exact val_64 b d k9) HB64.out HLE.out (by have := HXL.out; omega) (fun _ => scale_ok _ _ _ _))
     have HVL3 := Lib.hid (HVL2.out.trans (by rw [hxs]))
     have bR6 := bR5.keep hO.tch id
     have bO6 := bO5.keep hO.tch id
     have T6 := T5.trans hO.tch
     have f0 : wr.cell? ⟨w1.heap.size, 0, none⟩ = some (.int .i64 R1.base.1) := bR6.cell 0
     have f1 : wr.cell? ⟨w1.heap.size, 1, none⟩ = some (.int .i64 R1.base.2) := bR6.cell 1
     have f2 : wr.cell? ⟨w1.heap.size, 2, none⟩ = some (.slice P1 R1.plus.length cp1) := bR6.cell 2
     have f3 : wr.cell? ⟨w1.heap.size, 3, none⟩ = some (.slice M1 R1.minus.length cm1) := bR6.cell 3
     have f4 : wr.cell? ⟨w1.heap.size, 4, none⟩ = some (.int .i64 R1.scaled.1) := bR6.cell 4
     have f5 : wr.cell? ⟨w1.heap.size, 5, none⟩ = some (.int .i64 R1.scaled.2.1) := bR6.cell 5
     have f6 : wr.cell? ⟨w1.heap.size, 6, none⟩ = some (.int .i64 R1.scaled.2.2.1) := bR6.cell 6
     have f7 : wr.cell? ⟨w1.heap.size, 7, none⟩ = some (.int .i64 R1.scaled.2.2.2.1) := bR6.cell 7
     have f8 : wr.cell? ⟨w1.heap.size, 8, none⟩ = some (.int .i64 R1.scaled.2.2.2.2.1) := bR6.cell 8
     have f9 : wr.cell? ⟨w1.heap.size, 9, none⟩ = some (.int .i64 R1.scaled.2.2.2.2.2) := bR6.cell 9
     have f10 : wr.cell? ⟨w1.heap.size, 10, none⟩ = some (.bool R1.rated) := bR6.cell 10
     have f11 : wr.cell? ⟨w1.heap.size, 11, none⟩ = some (.int .i64 R1.ratio.1) := bR6.cell 11
     have f12 : wr.cell? ⟨w1.heap.size, 12, none⟩ = some (.int .i64 R1.ratio.2) := bR6.cell 12
     have f13 : wr.cell? ⟨w1.heap.size, 13, none⟩ = some (.bool R1.has) := bR6.cell 13
     clear hxs HXS HRI HROW hlt HVL2 HB64 HLE bR5 bO5 T5 hO bR6
     generalize hev : evalOf R1 xs = ev at *
     obtain ⟨ev1, ev2⟩ := ev
     have HEVE := Lib.hid hev
     clear hev
     unfold vlV at HEV
     simp only at HEV
     go_wp2_with fail
     refine HEV.out.mono ?_
     rintro _ w7 ⟨rfl, t7⟩
     have bO7 := bO6.keep t7 id
     have T7 := T6.trans t7
     clear HEV f0 f1 f2 f3 f4 f5 f6 f7 f8 f9 f10 f11 f12 f13 bO6 T6 t7
     go_wp2_with (refine wpList_store_blk rfl _ _ _ rfl (z + 1) #[.int .i64 ev1, .int .i64 ev2] (by rfl) (by rfl) bO7 (by kernel_rfl) rfl (by simp [Value.oneCell']) ?_; refine Hid.out ?_)
     refine Lib.hid ?_
     intro w9 hF tF
     have HF := Lib.hid hF
     have HTF := Lib.hid tF
     clear hF tF bO7
     go_wp2
     (try simp only [Exit.inBlock, Exit.then])
     (try rw [Exit.noGoto_ret])
     refine bodyPost_ret (results_cell_row (P := Tryz.prog) rfl _ _ (z + 1) 39 _ (0, 0) _ rfl HF.out Tryz.underlying39 rfl (by kernel_rfl)) rfl ?_
     refine ⟨?_, T7.trans' (F' := fun g => g = z + 1) HTF.out (fun i hi => .inr (by have hi : i = z + 1 := hi; have := HZW.out; omega))⟩
     rw [HVL3.out]
     rfl
  ·have h3b : (c1 != 3) = true := by simpa using h3
   have hrd := HRD0.out
   rw [if_neg h3] at hrd
   have HLR := Lib.hid (localrec_any (HV.out _ T1) hn hp hq c1 c2 c3 c4 c5 c6)
   unfold RecOk at HLR
   have HAP := Lib.hid (fun (w' : World) (v : Value) (y : Nat) (P1 M1 : Option Addr) (cp1 cm1 : Nat) h hz => local_apart (b := b) (c := (c1, c2, c3, c4, c5, c6)) (w := w') (v := v) (y := y) (T := 46) (P1 := P1) (M1 := M1) (cp1 := cp1) (cm1 := cm1) h hz)
   have HMN := Lib.hid (local_minus b (c1, c2, c3, c4, c5, c6))
   have hr1 := HTN.out h3
   (try simp only at hr1)
   subst hr1
   generalize localOf b (c1, c2, c3, c4, c5, c6) = lo at *
   obtain ⟨R2, e2⟩ := lo
   (try simp only at HLR)
   (try simp only at HAP)
   (try simp only at HMN)
   have HRD := Lib.hid hrd
   clear hrd HRD0 h3 hp2 hm2 HTN
   unfold rcpV
   go_wp2_with fail
   generalize w1.alloc _ = W1 at *
   generalize hyy : w1.heap.size = y at *
   have HYY := Lib.hid hyy
   clear hyy
   refine HLR.out.mono ?_
   rintro _ w2 ⟨v2, rfl, ⟨p2, m2, rfl, hp2, hm2⟩, t2⟩
   obtain ⟨P2, cp2, rfl, _, _⟩ := hp2.form
   obtain ⟨M2, cm2, rfl, _, _⟩ := hm2.form
   have bG2 : Blk w2 y 46 #[.int .i64 0, .int .i64 0, .slice P1 0 cp1, .slice M1 0 cm1, .int .i64 0, .int .i64 0, .int .i64 0, .int .i64 0, .int .i64 0, .int .i64 0, .bool false, .int .i64 0, .int .i64 0, .bool false] := bG.keep t2 id
   have bO2 := bO1.keep t2 id
   have T2 := T1.trans t2
   have hpA := HAP.out w2 _ y P1 M1 cp1 cm1 hp2 bG2
   unfold rcpV
   clear HLR k0 k1 k2 k3 k4 k5 bG bO1 bC1 HAP hp2
   go_wp2_with (refine wpList_store_blk rfl _ _ _ rfl y #[.int .i64 R2.base.1, .int .i64 R2.base.2, .slice P2 R2.plus.length cp2, .slice M2 R2.minus.length cm2, .int .i64 R2.scaled.1, .int .i64 R2.scaled.2.1, .int .i64 R2.scaled.2.2.1, .int .i64 R2.scaled.2.2.2.1, .int .i64 R2.scaled.2.2.2.2.1, .int .i64 R2.scaled.2.2.2.2.2, .bool R2.rated, .int .i64 R2.ratio.1, .int .i64 R2.ratio.2, .bool R2.has] (by rfl) (by rfl) bG2 (by kernel_rfl) rfl (by simp [Value.oneCell']) ?_; refine Hid.out ?_)
   refine Lib.hid ?_
   intro w3 bG3 ts3
   have bO3 := bO2.keep ts3 (by have := HYY.out; omega)
   have hp3 := Row.keepTo (P' := fun _ => True) hpA ts3 (fun g _ hg => ⟨hg, trivial⟩)
   have hm3 := Row.keepTo (P' := fun _ => True) (row_nil_any (P' := fun g => g ≠ y) hm2 HMN.out) ts3 (fun g _ hg => ⟨hg, trivial⟩)
   have T3 := T2.trans' ts3 (fun i hi => .inr (by have hi : i = y := hi; have := HYY.out; have := HZW.out; omega))
   clear bG2 bO2 T2 ts3 hpA hm2
   have HVD : Hid (valD b (d + 1) (c1, c2, c3, c4, c5, c6) = if (rcpD b (c1, c2, c3, c4, c5, c6)).2 = 0 then evalOf (rcpD b (c1, c2, c3, c4, c5, c6)).1 ((readsOf (rcpD b (c1, c2, c3, c4, c5, c6)).1).map (valD b d)) else (0, 2)) := Lib.hid rfl
   have hvd := HVD.out
   have HLE := Lib.hid (rcpD_len b (c1, c2, c3, c4, c5, c6) hn)
   have HB64 := Lib.hid (rcpD_base b (c1, c2, c3, c4, c5, c6))
   rw [HRD.out] at hvd HLE HB64
   simp only at hvd HLE HB64
   have HVL := Lib.hid hvd
   clear hvd HVD
   by_cases he : e2 = 0
   rotate_left
   ·have hvl := HVL.out
    rw [if_neg he] at hvl
    have HVV := Lib.hid hvl
    have heb : (e2 != 0) = true := by simpa using he
    clear bG3 hp3 hm3 he HVL hvl HLE HB64 HRD
    go_wp2_with (refine wpList_store_blk rfl _ _ _ rfl (z + 1) #[.int .i64 0, .int .i64 2] (by rfl) (by rfl) bO3 (by kernel_rfl) rfl (by simp [Value.oneCell']) ?_; refine Hid.out ?_)
    refine Lib.hid ?_
    intro w9 hF tF
    have HF := Lib.hid hF
    have HTF := Lib.hid tF
    clear hF tF bO3
    go_wp2
    (try simp only [Exit.inBlock, Exit.then])
    (try rw [Exit.noGoto_ret])
    refine bodyPost_ret (results_cell_row (P := Tryz.prog) rfl _ _ (z + 1) 39 _ (0, 0) _ rfl HF.out Tryz.underlying39 rfl (by kernel_rfl)) rfl ?_
    refine ⟨?_, T3.trans' (F' := fun g => g = z + 1) HTF.out (fun i hi => .inr (by have hi : i = z + 1 := hi; have := HZW.out; omega))⟩
    rw [HVV.out]
    rfl
   subst he
   have hvl := HVL.out
   rw [if_pos rfl] at hvl
   have HVL2 := Lib.hid hvl
   have HRI := Lib.hid (fun (w' : World) (t9 : Tch (fun _ => False) w3 w') => (show RcpIs w' (.agg #[.int .i64 R2.base.1, .int .i64 R2.base.2, .slice P2 R2.plus.length cp2, .slice M2 R2.minus.length cm2, .int .i64 R2.scaled.1, .int .i64 R2.scaled.2.1, .int .i64 R2.scaled.2.2.1, .int .i64 R2.scaled.2.2.2.1, .int .i64 R2.scaled.2.2.2.2.1, .int .i64 R2.scaled.2.2.2.2.2, .bool R2.rated, .int .i64 R2.ratio.1, .int .i64 R2.ratio.2, .bool R2.has]) R2 from ⟨_, _, rfl, hp3.keep t9, hm3.keep t9⟩))
   have HRE := Lib.hid (reads_any (HRI.out w3 (Tch.refl _ _)) (by have := HLE.out; omega))
   have f0 : w3.cell? ⟨y, 0, none⟩ = some (.int .i64 R2.base.1) := bG3.cell 0
   have f1 : w3.cell? ⟨y, 1, none⟩ = some (.int .i64 R2.base.2) := bG3.cell 1
   have f2 : w3.cell? ⟨y, 2, none⟩ = some (.slice P2 R2.plus.length cp2) := bG3.cell 2
   have f3 : w3.cell? ⟨y, 3, none⟩ = some (.slice M2 R2.minus.length cm2) := bG3.cell 3
   have f4 : w3.cell? ⟨y, 4, none⟩ = some (.int .i64 R2.scaled.1) := bG3.cell 4
   have f5 : w3.cell? ⟨y, 5, none⟩ = some (.int .i64 R2.scaled.2.1) := bG3.cell 5
   have f6 : w3.cell? ⟨y, 6, none⟩ = some (.int .i64 R2.scaled.2.2.1) := bG3.cell 6
   have f7 : w3.cell? ⟨y, 7, none⟩ = some (.int .i64 R2.scaled.2.2.2.1) := bG3.cell 7
   have f8 : w3.cell? ⟨y, 8, none⟩ = some (.int .i64 R2.scaled.2.2.2.2.1) := bG3.cell 8
   have f9 : w3.cell? ⟨y, 9, none⟩ = some (.int .i64 R2.scaled.2.2.2.2.2) := bG3.cell 9
   have f10 : w3.cell? ⟨y, 10, none⟩ = some (.bool R2.rated) := bG3.cell 10
   have f11 : w3.cell? ⟨y, 11, none⟩ = some (.int .i64 R2.ratio.1) := bG3.cell 11
   have f12 : w3.cell? ⟨y, 12, none⟩ = some (.int .i64 R2.ratio.2) := bG3.cell 12
   have f13 : w3.cell? ⟨y, 13, none⟩ = some (.bool R2.has) := bG3.cell 13
   clear hvl HVL HRD hp3 hm3
   go_wp2_with fail
   refine HRE.out.mono ?_
   rintro _ w5 ⟨u, rfl, hrow, t5⟩
   have bR5 := bG3.keep t5 id
   have bO5 := bO3.keep t5 id
   have T5 := T3.trans t5
   have HLN := Lib.hid (show (readsOf R2).length ≤ 6000 by
    unfold readsOf rcpAll
    refine Nat.le_trans (uniq_len _) ?_
    rw [List.length_append, List.length_append]
    have := HLE.out
    split <;> simp <;> omega)
   obtain ⟨LL, hLL⟩ : ∃ LL, readsOf R2 = LL := ⟨_, rfl⟩
   rw [hLL] at hrow HVL2 HLN
   have hln := HLN.out
   have HROW := Lib.hid (fun (w' : World) (t9 : Tch (fun _ => False) w5 w') => hrow.keep t9)
   obtain ⟨U, cu, rfl, hu1, hu2⟩ := hrow.form
   have HT5 := Lib.hid (fun (w' : World) (t9 : Tch (fun _ => False) w5 w') => t5.trans t9)
   clear f0 f1 f2 f3 f4 f5 f6 f7 f8 f9 f10 f11 f12 f13 HRE hLL hrow bG3 bO3 t5
   go_wp2_with fail
   go_loopw [10, 11] (fun o i wr => ∃ (j : Nat) (xs : List Vl), j ≤ LL.length ∧ i = .int .i64 j ∧ (LL.take j).map (valD b d) = xs ∧ Outs val2 2 39 w5 wr o xs) (fun _ i _ => LL.length - (intOf i).toNat)
   case atStart => exact ⟨0, [], Nat.zero_le _, rfl, rfl, Outs.start _ _ _ (Tch.refl _ _)⟩
   case round =>
    obtain ⟨j, xs, hj, rfl, hxs, hO⟩ := hrel
    have HXS := Lib.hid hxs
    have HXL := Lib.hid (show xs.length = j by rw [← hxs, List.length_map, List.length_take]; omega)
    have hj0 : (0 : Int) ≤ (j : Int) := Int.natCast_nonneg _
    clear hxs
    obtain ⟨O, co, rfl, ho1, ho2⟩ := hO.form
    by_cases hlt : j < LL.length
    ·have hlt' : (j : Int) < (LL.length : Int) := by omega
     have hl9 := HROW.out wr hO.tch
     obtain ⟨g, o9, rfl⟩ := hl9.head (by omega)
     obtain ⟨q0, q1, q2, q3, q4, q5⟩ := Row.six hl9 int6_len hlt rfl
     have HXN := Lib.hid (show (LL.take (j + 1)).map (valD b d) = xs ++ [valD b d LL[j]] by rw [List.take_succ_eq_append_getElem hlt, List.map_append, HXS.out]; rfl)
     generalize LL[j] = cc at *
     obtain ⟨s1, s2, s3, s4, s5, s6⟩ := cc
     simp only at q0 q1 q2 q3 q4 q5
     have HIH := Lib.hid (HIHH.out wr (x - 1) HXD.out (HV.out wr (T5.trans hO.tch)) (HTT.out wr (T5.trans hO.tch)) s1 s2 s3 s4 s5 s6)
     generalize valD b d (s1, s2, s3, s4, s5, s6) = sv at *
     obtain ⟨sx, sy⟩ := sv
     unfold vlV at HIH
     simp only at HIH
     have hcl : xs.length ≤ 6000 := by have := HXL.out; omega
     clear hl9 HXS
     go_wp2_with fail
     refine HIH.out.mono ?_
     rintro _ wa ⟨rfl, ta⟩
     have hO2 := hO.keep ta
     clear HIH hO ta q0 q1 q2 q3 q4 q5
     go_wp2_with (at_builtin; refine wpList_append _ rfl _ _ 101 rfl rowVals (own_base (hO2.own.alloc _)) (by rfl) (Go.Gk.Src.one (news := val2 (sx, sy)) rfl (fun m9 u9 hu9 => by rw [(Blk.new wa 39 #[.int .i64 sx, .int .i64 sy]).cell m9]; simpa [val2] using hu9)) (by rfl) (by simpa using one_val2 [(sx, sy)]) (by unfold maxLen; omega) (by omega) ?_; intro v2 wc ho2 hg2 hl2; have hO3 := hO2.step (x := (sx, sy)) (Tch.alloc _ _ _) ho2 hg2 (fun g hg => by simpa using hl2 g hg); obtain ⟨O3, co3, rfl, _, _⟩ := own_form ho2)
     go_roundw
     case rel => exact ⟨j + 1, _, by omega, by go_num, HXN.out, by simpa using hO3⟩
     case measure => simp [intOf] <;> omega
    ·obtain rfl : j = LL.length := by omega
     have hxs := HXS.out
     rw [List.take_length] at hxs
     have hlt' : ¬ (LL.length : Int) < (LL.length : Int) := by omega
     have HRIw := Lib.hid (HRI.out wr (HT5.out wr hO.tch))
     have HEV := Lib.hid (eval_any HRIw.out hO.row (fun v hv => by rw [← hxs] at hv; obtain ⟨k9, _, rfl⟩ := List.mem_map.1 hv; exact val_64 b d k9) HB64.out HLE.out (by have := HXL.out; omega) (fun _ => scale_ok _ _ _ _))
     have HVL3 := Lib.hid (HVL2.out.trans (by rw [hxs]))
     have bR6 := bR5.keep hO.tch id
     have bO6 := bO5.keep hO.tch id
     have T6 := T5.trans hO.tch
     have f0 : wr.cell? ⟨y, 0, none⟩ = some (.int .i64 R2.base.1) := bR6.cell 0
     have f1 : wr.cell? ⟨y, 1, none⟩ = some (.int .i64 R2.base.2) := bR6.cell 1
     have f2 : wr.cell? ⟨y, 2, none⟩ = some (.slice P2 R2.plus.length cp2) := bR6.cell 2
     have f3 : wr.cell? ⟨y, 3, none⟩ = some (.slice M2 R2.minus.length cm2) := bR6.cell 3
     have f4 : wr.cell? ⟨y, 4, none⟩ = some (.int .i64 R2.scaled.1) := bR6.cell 4
     have f5 : wr.cell? ⟨y, 5, none⟩ = some (.int .i64 R2.scaled.2.1) := bR6.cell 5
     have f6 : wr.cell? ⟨y, 6, none⟩ = some (.int .i64 R2.scaled.2.2.1) := bR6.cell 6
     have f7 : wr.cell? ⟨y, 7, none⟩ = some (.int .i64 R2.scaled.2.2.2.1) := bR6.cell 7
     have f8 : wr.cell? ⟨y, 8, none⟩ = some (.int .i64 R2.scaled.2.2.2.2.1) := bR6.cell 8
     have f9 : wr.cell? ⟨y, 9, none⟩ = some (.int .i64 R2.scaled.2.2.2.2.2) := bR6.cell 9
     have f10 : wr.cell? ⟨y, 10, none⟩ = some (.bool R2.rated) := bR6.cell 10
     have f11 : wr.cell? ⟨y, 11, none⟩ = some (.int .i64 R2.ratio.1) := bR6.cell 11
     have f12 : wr.cell? ⟨y, 12, none⟩ = some (.int .i64 R2.ratio.2) := bR6.cell 12
     have f13 : wr.cell? ⟨y, 13, none⟩ = some (.bool R2.has) := bR6.cell 13
     clear hxs HXS HRI HROW hlt HVL2 HB64 HLE bR5 bO5 T5 hO bR6
     generalize hev : evalOf R2 xs = ev at *
     obtain ⟨ev1, ev2⟩ := ev
     have HEVE := Lib.hid hev
     clear hev
     unfold vlV at HEV
     simp only at HEV
     go_wp2_with fail
     refine HEV.out.mono ?_
     rintro _ w7 ⟨rfl, t7⟩
     have bO7 := bO6.keep t7 id
     have T7 := T6.trans t7
     clear HEV f0 f1 f2 f3 f4 f5 f6 f7 f8 f9 f10 f11 f12 f13 bO6 T6 t7
     go_wp2_with (refine wpList_store_blk rfl _ _ _ rfl (z + 1) #[.int .i64 ev1, .int .i64 ev2] (by rfl) (by rfl) bO7 (by kernel_rfl) rfl (by simp [Value.oneCell']) ?_; refine Hid.out ?_)
     refine Lib.hid ?_
     intro w9 hF tF
     have HF := Lib.hid hF
     have HTF := Lib.hid tF
     clear hF tF bO7
     go_wp2
     (try simp only [Exit.inBlock, Exit.then])
     (try rw [Exit.noGoto_ret])
     refine bodyPost_ret (results_cell_row (P := Tryz.prog) rfl _ _ (z + 1) 39 _ (0, 0) _ rfl HF.out Tryz.underlying39 rfl (by kernel_rfl)) rfl ?_
     refine ⟨?_, T7.trans' (F' := fun g => g = z + 1) HTF.out (fun i hi => .inr (by have hi : i = z + 1 := hi; have := HZW.out; omega))⟩
     rw [HVL3.out]
     rfl
end
end Go.Proofs.YtdangnmeligfjaaGreatDoor
