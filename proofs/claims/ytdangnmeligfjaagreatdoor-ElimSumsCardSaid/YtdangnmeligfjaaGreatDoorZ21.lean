/-
  Recipes of movements and balances, made.
-/
import Derived.Test.YtdangnmeligfjaaGreatDoorZ20
namespace Go.Proofs.YtdangnmeligfjaaGreatDoor
open Go.RowKit Go.Gk
theorem one6 (x : Rt6) : ∀ u ∈ int6 x, u.oneCell' = true := by
 intro u hu
 unfold int6 at hu
 simp only [List.mem_cons, List.not_mem_nil, or_false] at hu
 rcases hu with rfl | rfl | rfl | rfl | rfl | rfl <;> rfl
theorem rowCells : RowTy Tryz.prog 40 31 (.agg #[.int .i64 0, .int .i64 0, .int .i64 0, .int .i64 0, .int .i64 0, .int .i64 0]) 6 48 := ⟨Tryz.underlying40, by kernel_rfl, rfl, by decide⟩
section
variable {w : World} {bv bi B t mr mp : Nat} {e a s r l n lv : Value} {fs : List Value} {b : Bks} {us : List (Ent × Value)}
def RecOk (b : Bks) (c : Rt6) (w : World) (x : Ending) (w' : World) : Prop := ∃ v, x = .returned (.tuple #[v, .int .i64 (localOf b c).2]) ∧ RcpIs w' v (localOf b c).1 ∧ Tch (fun _ => False) w w'
set_option maxRecDepth 100000 in
set_option maxHeartbeats 12800000 in
theorem localrec_any (h : Vw w bv bi B t mr mp e a s r l n lv fs b us) (hn : (accLeaves b.accs).length ≤ 1000) (hp : (posts b.entries).length ≤ 10000) (h64 : ∀ p ∈ posts b.entries, I64 p.2.2.2.2) (c1 c2 c3 c4 c5 c6 : Int) :
 Calls Tryz.prog 89 #[.pointer (some ⟨bv, 0, none⟩), .agg #[.int .i64 c1, .int .i64 c2, .int .i64 c3, .int .i64 c4, .int .i64 c5, .int .i64 c6]] w (RecOk b (c1, c2, c3, c4, c5, c6) w) := by
 have ta := Tch.alloc (fun _ => False) w (.cells #[.int .i64 c1, .int .i64 c2, .int .i64 c3, .int .i64 c4, .int .i64 c5, .int .i64 c6] 31)
 have tb := Tch.alloc (fun _ => False) (w.alloc (.cells #[.int .i64 c1, .int .i64 c2, .int .i64 c3, .int .i64 c4, .int .i64 c5, .int .i64 c6] 31)) (.cells rcpZero 46)
 have tw := ta.trans tb
 have hbC := (Blk.new w 31 #[.int .i64 c1, .int .i64 c2, .int .i64 c3, .int .i64 c4, .int .i64 c5, .int .i64 c6]).keep tb id
 have hbR := Blk.new2 w (.cells #[.int .i64 c1, .int .i64 c2, .int .i64 c3, .int .i64 c4, .int .i64 c5, .int .i64 c6] 31) 46 rcpZero
 have HM := Lib.hid (localmay_any (h.keep tw) hn (c1, c2, c3, c4, c5, c6))
 have HH := Lib.hid (h.keep tw)
 have hsz : ((w.alloc (.cells #[.int .i64 c1, .int .i64 c2, .int .i64 c3, .int .i64 c4, .int .i64 c5, .int .i64 c6] 31)).alloc (.cells rcpZero 46)).heap.size = w.heap.size + 2 := by simp
 unfold cellV at HM
 simp only at HM
 have HL : Hid (localOf b (c1, c2, c3, c4, c5, c6) = if mayOf b (c1, c2, c3, c4, c5, c6) 1 2 = 0 then (if c1 = 1 then { Rcp.none with base := localBase b (c1, c2, c3, c4, c5, c6) } else { Rcp.none with plus := localPlus (c1, c2, c3, c4, c5, c6) }, 0) else (Rcp.none, mayOf b (c1, c2, c3, c4, c5, c6) 1 2)) := Lib.hid rfl
 have HCU := Lib.hid (fun h => may_cur (b := b) (c := (c1, c2, c3, c4, c5, c6)) h)
 have HPR := Lib.hid (fun h => may_period (b := b) (c := (c1, c2, c3, c4, c5, c6)) h)
 generalize mayOf b (c1, c2, c3, c4, c5, c6) 1 2 = m at *
 unfold rcpZero at hbR tb tw hsz HM HH hbC
 clear ta tb h
 go_enter Tryz.func89, Tryz.ntmps89
 go_wp2_with fail
 generalize (w.alloc (.cells #[.int .i64 c1, .int .i64 c2, .int .i64 c3, .int .i64 c4, .int .i64 c5, .int .i64 c6] 31)).alloc _ = W at *
 generalize hzw : w.heap.size = z at *
 have HZW := Lib.hid hzw
 clear hzw
 refine HM.out.mono ?_
 rintro _ w1 ⟨rfl, t1⟩
 clear HM
 have b1 := hbC.keep t1 id
 have r1 := hbR.keep t1 id
 have h1 := HH.out.keep t1
 have tW := tw.trans t1
 have hlow : z + 2 ≤ w1.heap.size := by have := t1.size; omega
 clear hbC hbR HH tw t1 hsz
 by_cases hm : m = 0
 rotate_left
 ·have hm' : (m != 0) = true := by simpa using hm
  have HLN := Lib.hid (show localOf b (c1, c2, c3, c4, c5, c6) = (Rcp.none, m) by rw [HL.out, if_neg hm])
  have k0 := r1.cell 0
  have k1 := r1.cell 1
  have k2 := r1.cell 2
  have k3 := r1.cell 3
  have k4 := r1.cell 4
  have k5 := r1.cell 5
  have k6 := r1.cell 6
  have k7 := r1.cell 7
  have k8 := r1.cell 8
  have k9 := r1.cell 9
  have k10 := r1.cell 10
  have k11 := r1.cell 11
  have k12 := r1.cell 12
  have k13 := r1.cell 13
  simp at k0 k1 k2 k3 k4 k5 k6 k7 k8 k9 k10 k11 k12 k13
  have f0 := r1.frozen 0
  have f1 := r1.frozen 1
  have f2 := r1.frozen 2
  have f3 := r1.frozen 3
  have f4 := r1.frozen 4
  have f5 := r1.frozen 5
  have f6 := r1.frozen 6
  have f7 := r1.frozen 7
  have f8 := r1.frozen 8
  have f9 := r1.frozen 9
  have f10 := r1.frozen 10
  have f11 := r1.frozen 11
  have f12 := r1.frozen 12
  have f13 := r1.frozen 13
  clear hm
  have hbF : Blk ((((((((((((((w1.setCell ⟨z + 1, 0, none⟩ (.int .i64 0)).setCell ⟨z + 1, 1, none⟩ (.int .i64 0)).setCell ⟨z + 1, 2, none⟩ (.slice none 0 0)).setCell ⟨z + 1, 3, none⟩ (.slice none 0 0)).setCell ⟨z + 1, 4, none⟩ (.int .i64 0)).setCell ⟨z + 1, 5, none⟩ (.int .i64 0)).setCell ⟨z + 1, 6, none⟩ (.int .i64 0)).setCell ⟨z + 1, 7, none⟩ (.int .i64 0)).setCell ⟨z + 1, 8, none⟩ (.int .i64 0)).setCell ⟨z + 1, 9, none⟩ (.int .i64 0)).setCell ⟨z + 1, 10, none⟩ (.bool false)).setCell ⟨z + 1, 11, none⟩ (.int .i64 0)).setCell ⟨z + 1, 12, none⟩ (.int .i64 0)).setCell ⟨z + 1, 13, none⟩ (.bool false)) (z + 1) 46 [.int .i64 0, .int .i64 0, .slice none 0 0, .slice none 0 0, .int .i64 0, .int .i64 0, .int .i64 0, .int .i64 0, .int .i64 0, .int .i64 0, .bool false, .int .i64 0, .int .i64 0, .bool false].toArray := Blk.setAll (cs := [.int .i64 0, .int .i64 0, .slice none 0 0, .slice none 0 0, .int .i64 0, .int .i64 0, .int .i64 0, .int .i64 0, .int .i64 0, .int .i64 0, .bool false, .int .i64 0, .int .i64 0, .bool false]) r1 [.int .i64 0, .int .i64 0, .slice none 0 0, .slice none 0 0, .int .i64 0, .int .i64 0, .int .i64 0, .int .i64 0, .int .i64 0, .int .i64 0, .bool false, .int .i64 0, .int .i64 0, .bool false] rfl
  have tF : Tch (fun g => g = z + 1) w1 ((((((((((((((w1.setCell ⟨z + 1, 0, none⟩ (.int .i64 0)).setCell ⟨z + 1, 1, none⟩ (.int .i64 0)).setCell ⟨z + 1, 2, none⟩ (.slice none 0 0)).setCell ⟨z + 1, 3, none⟩ (.slice none 0 0)).setCell ⟨z + 1, 4, none⟩ (.int .i64 0)).setCell ⟨z + 1, 5, none⟩ (.int .i64 0)).setCell ⟨z + 1, 6, none⟩ (.int .i64 0)).setCell ⟨z + 1, 7, none⟩ (.int .i64 0)).setCell ⟨z + 1, 8, none⟩ (.int .i64 0)).setCell ⟨z + 1, 9, none⟩ (.int .i64 0)).setCell ⟨z + 1, 10, none⟩ (.bool false)).setCell ⟨z + 1, 11, none⟩ (.int .i64 0)).setCell ⟨z + 1, 12, none⟩ (.int .i64 0)).setCell ⟨z + 1, 13, none⟩ (.bool false)) := Tch.putAll (z + 1) [.int .i64 0, .int .i64 0, .slice none 0 0, .slice none 0 0, .int .i64 0, .int .i64 0, .int .i64 0, .int .i64 0, .int .i64 0, .int .i64 0, .bool false, .int .i64 0, .int .i64 0, .bool false] 0 w1
  have HBF := Lib.hid hbF
  have HTF := Lib.hid tF
  clear hbF tF
  go_wp2
  (try simp only [Exit.inBlock, Exit.then])
  (try rw [Exit.noGoto_ret])
  refine bodyPost_ret (results_row_tmp (P := Tryz.prog) rfl _ _ (z + 1) 46 _ (0, 0) _ rfl HBF.out Tryz.underlying46 rfl (by kernel_rfl)) rfl ?_
  unfold RecOk
  rw [HLN.out]
  exact ⟨_, rfl, ⟨_, _, rfl, Row.nil _ _ _, Row.nil _ _ _⟩, tW.trans' (F' := fun g => g = z + 1) HTF.out (fun i hi => .inr (by have hi : i = z + 1 := hi; have := HZW.out; omega))⟩
 subst hm
 obtain ⟨hr, hc5⟩ := HCU.out rfl
 (try simp only at hr hc5)
 subst hc5
 obtain ⟨hp0, hp1⟩ := HPR.out rfl
 (try simp only at hp0 hp1)
 clear HCU HPR
 have HLL := Lib.hid (show localOf b (c1, c2, c3, c4, 0, c6) = (if c1 = 1 then { Rcp.none with base := localBase b (c1, c2, c3, c4, 0, c6) } else { Rcp.none with plus := localPlus (c1, c2, c3, c4, 0, c6) }, 0) by rw [HL.out, if_pos rfl])
 clear HL
 have q3 : w1.cell? ⟨z, 3, none⟩ = some _ := b1.cell 3
 go_wp2_with fail
 refine (localwith_any c1 c2 c3 c4 0 c6 1 c4 b1).mono ?_
 rintro _ w2 ⟨rfl, t2⟩
 clear q3
 have tm := Tch.alloc (fun _ => False) w2 (.cells #[.int .i64 1, .int .i64 c2, .int .i64 c3, .int .i64 c4, .int .i64 0, .int .i64 c6] 31)
 have bM := Blk.new w2 31 #[.int .i64 1, .int .i64 c2, .int .i64 c3, .int .i64 c4, .int .i64 0, .int .i64 c6]
 have b2 := b1.keep (t2.trans tm) id
 have r2 := r1.keep (t2.trans tm) id
 have h2 := h1.keep (t2.trans tm)
 have tW2 := tW.trans (t2.trans tm)
 have q0 : (w2.alloc (.cells #[.int .i64 1, .int .i64 c2, .int .i64 c3, .int .i64 c4, .int .i64 0, .int .i64 c6] 31)).cell? ⟨z, 0, none⟩ = some _ := b2.cell 0
 have q1 : (w2.alloc (.cells #[.int .i64 1, .int .i64 c2, .int .i64 c3, .int .i64 c4, .int .i64 0, .int .i64 c6] 31)).cell? ⟨z, 1, none⟩ = some _ := b2.cell 1
 have q2 : (w2.alloc (.cells #[.int .i64 1, .int .i64 c2, .int .i64 c3, .int .i64 c4, .int .i64 0, .int .i64 c6] 31)).cell? ⟨z, 2, none⟩ = some _ := b2.cell 2
 have q3 : (w2.alloc (.cells #[.int .i64 1, .int .i64 c2, .int .i64 c3, .int .i64 c4, .int .i64 0, .int .i64 c6] 31)).cell? ⟨z, 3, none⟩ = some _ := b2.cell 3
 have q4 : (w2.alloc (.cells #[.int .i64 1, .int .i64 c2, .int .i64 c3, .int .i64 c4, .int .i64 0, .int .i64 c6] 31)).cell? ⟨z, 4, none⟩ = some _ := b2.cell 4
 have q5 : (w2.alloc (.cells #[.int .i64 1, .int .i64 c2, .int .i64 c3, .int .i64 c4, .int .i64 0, .int .i64 c6] 31)).cell? ⟨z, 5, none⟩ = some _ := b2.cell 5
 have hlow2 : z + 2 ≤ w2.heap.size := Nat.le_trans hlow t2.size
 clear b1 r1 h1 tW
 rcases hr with rfl | rfl
 ·have hcmp : ∀ w' : World, (binOp .eql 31 (.agg #[.int .i64 1, .int .i64 c2, .int .i64 c3, .int .i64 c4, .int .i64 0, .int .i64 c6]) (.agg #[.int .i64 1, .int .i64 c2, .int .i64 c3, .int .i64 c4, .int .i64 0, .int .i64 c6])).run Tryz.prog w' = .ok (.bool true) w' := fun w' => by rw [run_eq_Cell]; simp
  have HT := Lib.hid (vwtotal_any h2 hp h64 c2 c3 c4 c6)
  have HLB := Lib.hid (show localOf b (1, c2, c3, c4, 0, c6) = ({ Rcp.none with base := told2 (amtsAt (posts b.entries) (c2, c3, c4) c6).sum }, 0) from HLL.out.trans rfl)
  clear HLL
  generalize told2 (amtsAt (posts b.entries) (c2, c3, c4) c6).sum = R at *
  obtain ⟨R1, R2⟩ := R
  simp only at HT
  go_wp2_with fail
  refine HT.out.mono ?_
  rintro _ w3 ⟨rfl, t3⟩
  have r3 := r2.keep t3 id
  clear q0 q1 q2 q3 q4 q5 hcmp
  have k0 := r3.cell 0
  have k1 := r3.cell 1
  have k2 := r3.cell 2
  have k3 := r3.cell 3
  have k4 := r3.cell 4
  have k5 := r3.cell 5
  have k6 := r3.cell 6
  have k7 := r3.cell 7
  have k8 := r3.cell 8
  have k9 := r3.cell 9
  have k10 := r3.cell 10
  have k11 := r3.cell 11
  have k12 := r3.cell 12
  have k13 := r3.cell 13
  simp at k0 k1 k2 k3 k4 k5 k6 k7 k8 k9 k10 k11 k12 k13
  have f0 := r3.frozen 0
  have f1 := r3.frozen 1
  have f2 := r3.frozen 2
  have f3 := r3.frozen 3
  have f4 := r3.frozen 4
  have f5 := r3.frozen 5
  have f6 := r3.frozen 6
  have f7 := r3.frozen 7
  have f8 := r3.frozen 8
  have f9 := r3.frozen 9
  have f10 := r3.frozen 10
  have f11 := r3.frozen 11
  have f12 := r3.frozen 12
  have f13 := r3.frozen 13
  have hbF : Blk ((((((((((((((w3.setCell ⟨z + 1, 0, none⟩ (.int .i64 R1)).setCell ⟨z + 1, 1, none⟩ (.int .i64 R2)).setCell ⟨z + 1, 2, none⟩ (.slice none 0 0)).setCell ⟨z + 1, 3, none⟩ (.slice none 0 0)).setCell ⟨z + 1, 4, none⟩ (.int .i64 0)).setCell ⟨z + 1, 5, none⟩ (.int .i64 0)).setCell ⟨z + 1, 6, none⟩ (.int .i64 0)).setCell ⟨z + 1, 7, none⟩ (.int .i64 0)).setCell ⟨z + 1, 8, none⟩ (.int .i64 0)).setCell ⟨z + 1, 9, none⟩ (.int .i64 0)).setCell ⟨z + 1, 10, none⟩ (.bool false)).setCell ⟨z + 1, 11, none⟩ (.int .i64 0)).setCell ⟨z + 1, 12, none⟩ (.int .i64 0)).setCell ⟨z + 1, 13, none⟩ (.bool false)) (z + 1) 46 [.int .i64 R1, .int .i64 R2, .slice none 0 0, .slice none 0 0, .int .i64 0, .int .i64 0, .int .i64 0, .int .i64 0, .int .i64 0, .int .i64 0, .bool false, .int .i64 0, .int .i64 0, .bool false].toArray := Blk.setAll (cs := [.int .i64 0, .int .i64 0, .slice none 0 0, .slice none 0 0, .int .i64 0, .int .i64 0, .int .i64 0, .int .i64 0, .int .i64 0, .int .i64 0, .bool false, .int .i64 0, .int .i64 0, .bool false]) r3 [.int .i64 R1, .int .i64 R2, .slice none 0 0, .slice none 0 0, .int .i64 0, .int .i64 0, .int .i64 0, .int .i64 0, .int .i64 0, .int .i64 0, .bool false, .int .i64 0, .int .i64 0, .bool false] rfl
  have tF : Tch (fun g => g = z + 1) w3 ((((((((((((((w3.setCell ⟨z + 1, 0, none⟩ (.int .i64 R1)).setCell ⟨z + 1, 1, none⟩ (.int .i64 R2)).setCell ⟨z + 1, 2, none⟩ (.slice none 0 0)).setCell ⟨z + 1, 3, none⟩ (.slice none 0 0)).setCell ⟨z + 1, 4, none⟩ (.int .i64 0)).setCell ⟨z + 1, 5, none⟩ (.int .i64 0)).setCell ⟨z + 1, 6, none⟩ (.int .i64 0)).setCell ⟨z + 1, 7, none⟩ (.int .i64 0)).setCell ⟨z + 1, 8, none⟩ (.int .i64 0)).setCell ⟨z + 1, 9, none⟩ (.int .i64 0)).setCell ⟨z + 1, 10, none⟩ (.bool false)).setCell ⟨z + 1, 11, none⟩ (.int .i64 0)).setCell ⟨z + 1, 12, none⟩ (.int .i64 0)).setCell ⟨z + 1, 13, none⟩ (.bool false)) := Tch.putAll (z + 1) [.int .i64 R1, .int .i64 R2, .slice none 0 0, .slice none 0 0, .int .i64 0, .int .i64 0, .int .i64 0, .int .i64 0, .int .i64 0, .int .i64 0, .bool false, .int .i64 0, .int .i64 0, .bool false] 0 w3
  have HBF := Lib.hid hbF
  have HTF := Lib.hid tF
  clear hbF tF
  go_wp2
  (try simp only [Exit.inBlock, Exit.then])
  (try rw [Exit.noGoto_ret])
  refine bodyPost_ret (results_row_tmp (P := Tryz.prog) rfl _ _ (z + 1) 46 _ (0, 0) _ rfl HBF.out Tryz.underlying46 rfl (by kernel_rfl)) rfl ?_
  unfold RecOk
  rw [HLB.out]
  exact ⟨_, rfl, ⟨_, _, rfl, Row.nil _ _ _, Row.nil _ _ _⟩, (tW2.trans t3).trans' (F' := fun g => g = z + 1) HTF.out (fun i hi => .inr (by have hi : i = z + 1 := hi; have := HZW.out; omega))⟩
 ·have hcmp : ∀ w' : World, (binOp .eql 31 (.agg #[.int .i64 2, .int .i64 c2, .int .i64 c3, .int .i64 c4, .int .i64 0, .int .i64 c6]) (.agg #[.int .i64 1, .int .i64 c2, .int .i64 c3, .int .i64 c4, .int .i64 0, .int .i64 c6])).run Tryz.prog w' = .ok (.bool false) w' := fun w' => by rw [run_eq_Cell]; simp
  have HL2 := Lib.hid (show localOf b (2, c2, c3, c4, 0, c6) = ({ Rcp.none with plus := localPlus (2, c2, c3, c4, 0, c6) }, 0) by rw [HLL.out, if_neg (by decide)])
  clear HLL
  have tn := Tch.alloc (fun _ => False) (w2.alloc (.cells #[.int .i64 1, .int .i64 c2, .int .i64 c3, .int .i64 c4, .int .i64 0, .int .i64 c6] 31)) (.cells #[.int .i64 0, .int .i64 0, .slice none 0 0, .slice none 0 0, .int .i64 0, .int .i64 0, .int .i64 0, .int .i64 0, .int .i64 0, .int .i64 0, .bool false, .int .i64 0, .int .i64 0, .bool false] 46)
  have b3 := b2.keep tn id
  have r3 := r2.keep tn id
  have m3 := bM.keep tn id
  have n3 := Blk.new2 w2 (.cells #[.int .i64 1, .int .i64 c2, .int .i64 c3, .int .i64 c4, .int .i64 0, .int .i64 c6] 31) 46 #[.int .i64 0, .int .i64 0, .slice none 0 0, .slice none 0 0, .int .i64 0, .int .i64 0, .int .i64 0, .int .i64 0, .int .i64 0, .int .i64 0, .bool false, .int .i64 0, .int .i64 0, .bool false]
  have tW3 := tW2.trans tn
  have p3 : ((w2.alloc (.cells #[.int .i64 1, .int .i64 c2, .int .i64 c3, .int .i64 c4, .int .i64 0, .int .i64 c6] 31)).alloc (.cells #[.int .i64 0, .int .i64 0, .slice none 0 0, .slice none 0 0, .int .i64 0, .int .i64 0, .int .i64 0, .int .i64 0, .int .i64 0, .int .i64 0, .bool false, .int .i64 0, .int .i64 0, .bool false] 46)).cell? ⟨z, 3, none⟩ = some (.int .i64 c4) := b3.cell 3
  have hsz : ((w2.alloc (.cells #[.int .i64 1, .int .i64 c2, .int .i64 c3, .int .i64 c4, .int .i64 0, .int .i64 c6] 31)).alloc (.cells #[.int .i64 0, .int .i64 0, .slice none 0 0, .slice none 0 0, .int .i64 0, .int .i64 0, .int .i64 0, .int .i64 0, .int .i64 0, .int .i64 0, .bool false, .int .i64 0, .int .i64 0, .bool false] 46)).heap.size = w2.heap.size + 2 := by simp
  clear b2 r2 h2 bM tW2 tn tm t2 h64 hp hn
  by_cases hpos : 0 < c4
  ·go_wp2_with fail
   generalize (w2.alloc (.cells #[.int .i64 1, .int .i64 c2, .int .i64 c3, .int .i64 c4, .int .i64 0, .int .i64 c6] 31)).alloc (.cells #[.int .i64 0, .int .i64 0, .slice none 0 0, .slice none 0 0, .int .i64 0, .int .i64 0, .int .i64 0, .int .i64 0, .int .i64 0, .int .i64 0, .bool false, .int .i64 0, .int .i64 0, .bool false] 46) = W3 at *
   generalize w2.heap.size = m at *
   have y3 := within_cell (F := fun _ => False) p3 id
   have y2 := within_cell (F := fun _ => False) (show W3.cell? ⟨m + 1, 2, none⟩ = some (.slice none 0 0) from n3.cell 2) id
   refine wp_region_touch (fun _ => False) [] 8 [(6, .inl (.agg #[.int .i64 2, .int .i64 c2, .int .i64 c3, .int .i64 (c4 - 1), .int .i64 0, .int .i64 c6])), (7, .inr fun u w' => ∃ g, u = .slice (some ⟨g, 0, none⟩) 1 1 ∧ Blk w' g 31 #[.int .i64 2, .int .i64 c2, .int .i64 c3, .int .i64 (c4 - 1), .int .i64 0, .int .i64 c6])] [] (by kernel_rfl) rfl (by kernel_rfl) rfl (fun d _ _ _ _ h => by cases d <;> exact h) ?_ ?_
   ·exact ⟨fun _ _ _ hr ⟨g, h1, h2⟩ => ⟨g, h1, h2.keep hr id⟩, trivial⟩
   (intro bef ops hbef hops; clear hbef; subst hops; simp only [List.take_succ_cons, List.take_zero, List.drop_succ_cons, List.drop_zero])
   iterate 6 (refine t_det (by rfl) (by rfl) (by rfl) (by rfl) (fun K hK => ?_); go_big_quiet_op; (first | refine hK _ ?_ | refine ⟨_, fun _ => rfl, hK _ ?_⟩); clear hK K; (try simp only [Act.put, List.setIfInBounds_toArray, List.set_cons_succ, List.set_cons_zero]))
   refine t_fix (.agg #[.int .i64 2, .int .i64 c2, .int .i64 c3, .int .i64 (c4 - 1), .int .i64 0, .int .i64 c6]) (by rfl) (by rfl) (fun w4 hr hf => ?_) ?_
   ·refine yields_of_wp (d := 53) rfl (by simp) (fun K hK => ?_)
    go_step
    refine (localwith_any 2 c2 c3 c4 0 c6 2 (c4 - 1) (b3.keep ((Tch.drew _ W3).trans hr) id)).mono ?_
    rintro _ w5 ⟨rfl, t5⟩
    exact hK _ _ ⟨⟨rfl, t5⟩, newAt_no⟩
   simp only [Act.put, List.setIfInBounds_toArray, List.set_cons_succ, List.set_cons_zero]
   refine t_loose (by rfl) (by rfl) (fun w4 hr hf => ?_) (fun u => ?_)
   ·refine yields_of_wp (d := 54) rfl (by simp) (fun K hK => ?_)
    go_step
    exact hK _ _ ⟨⟨⟨_, rfl, Blk.new _ _ _⟩, Tch.alloc _ _ _⟩, newAt_no⟩
   simp only [Act.put, List.setIfInBounds_toArray, List.set_cons_succ, List.set_cons_zero]
   refine t_nil ?_
   intro w4 hr hp hap
   obtain ⟨g, rfl, hg⟩ := hp _ (List.Mem.head _)
   have t4 := (Tch.drew (fun _ => False) W3).trans hr
   clear hp hap hr y3 y2 p3
   have hO := (Outs.start int6 6 31 (Tch.refl (fun _ => False) W3)).keep t4
   have n4 := n3.keep t4 id
   refine wpList_append _ rfl _ _ 40 rfl rowCells (own_base hO.own) (by rfl) (Go.Gk.Src.one (news := int6 (2, c2, c3, c4 - 1, 0, c6)) rfl (fun m9 u9 hu9 => by rw [hg.cell m9]; simpa [int6] using hu9)) (by rfl) (one6 _) (by unfold maxLen; simp) (by simp) ?_
   intro v2 w5 ho2 hg2 hl2
   have hO2 := hO.step (x := (2, c2, c3, c4 - 1, 0, c6)) (Tch.refl _ _) ho2 hg2 hl2
   simp only [List.length_nil, List.flatMap_nil, List.nil_append, Nat.zero_add] at ho2 hO2
   obtain ⟨O2, co, rfl, _, _⟩ := own_form ho2
   have hs4 := t4.size
   have tg5 : Tch (fun _ => False) w4 w5 := Tch.grown hg2 fun k9 hk9 => by cases hk9
   have ob6 : ∀ g, (Value.slice O2 1 co).ownBlock = some g → m + 2 ≤ g := fun g9 hg9 => by
    rcases hl2 g9 hg9 with h9 | h9
    ·cases h9
    ·omega
   have n5 := n4.keep tg5 id
   have m5 := (m3.keep t4 id).keep tg5 id
   have r5 := (r3.keep t4 id).keep tg5 id
   have t5 := (tW3.trans t4).trans tg5
   have hs5 : m + 2 ≤ w5.heap.size := by have h1 := tg5.size; omega
   have HPL := Lib.hid (show localPlus (2, c2, c3, c4, 0, c6) = [(2, c2, c3, c4 - 1, 0, c6), (1, c2, c3, c4, 0, c6)] by simp [localPlus, hpos])
   clear hO hO2 hg2 hl2 n4 tg5 t4 tW3 r3 m3 n3 b3 hsz hs4 hg
   go_step
   go_step
   go_step
   refine wpList_store_cell rfl _ _ _ rfl (m + 1) 2 (.slice O2 1 co) (by rfl) (by rfl) rfl (by rfl) n5 (by decide) ?_
   intro w6 n6 ts6
   have own6 := ts6.own ho2 (fun g9 hg9 he9 => by have he9 : g9 = m + 1 := he9; have := ob6 g9 hg9; omega)
   have m6 := m5.keep ts6 (by omega)
   have r6 := r5.keep ts6 (by omega)
   have t6 := t5.trans' ts6 (fun i hi => .inr (by have hi : i = m + 1 := hi; have := HZW.out; omega))
   have hs6 : m + 2 ≤ w6.heap.size := by have h2 := ts6.size; omega
   clear n5 ts6 ho2 m5 r5 t5 hs5
   simp only [List.setIfInBounds_toArray, List.set_cons_succ, List.set_cons_zero] at n6
   have k2 : w6.cell? ⟨m + 1, 2, none⟩ = some (.slice O2 1 co) := n6.cell 2
   have a0 : w6.cell? ⟨m, 0, none⟩ = some _ := m6.cell 0
   have a1 : w6.cell? ⟨m, 1, none⟩ = some _ := m6.cell 1
   have a2 : w6.cell? ⟨m, 2, none⟩ = some _ := m6.cell 2
   have a3 : w6.cell? ⟨m, 3, none⟩ = some _ := m6.cell 3
   have a4 : w6.cell? ⟨m, 4, none⟩ = some _ := m6.cell 4
   have a5 : w6.cell? ⟨m, 5, none⟩ = some _ := m6.cell 5
   go_wp2_with (at_builtin; refine Hid.out ?_)
   refine Lib.hid ?_
   have bG := Blk.new w6 31 #[.int .i64 1, .int .i64 c2, .int .i64 c3, .int .i64 c4, .int .i64 0, .int .i64 c6]
   refine wpList_append _ rfl _ _ 40 rfl rowCells (own6.alloc _) (by rfl) (Go.Gk.Src.one (news := int6 (1, c2, c3, c4, 0, c6)) rfl (fun m9 u9 hu9 => by rw [bG.cell m9]; simpa [int6] using hu9)) (by rfl) (one6 _) (by unfold maxLen; simp) (by simp) ?_
   intro v3 w7 ho3 hg3 hl3
   obtain ⟨O3, k3, rfl, _, _⟩ := own_form ho3
   have ta7 := Tch.alloc (fun _ => False) w6 (.cells #[.int .i64 1, .int .i64 c2, .int .i64 c3, .int .i64 c4, .int .i64 0, .int .i64 c6] 31)
   have tg7 : Tch (fun g => m + 2 ≤ g) (w6.alloc (.cells #[.int .i64 1, .int .i64 c2, .int .i64 c3, .int .i64 c4, .int .i64 0, .int .i64 c6] 31)) w7 := Tch.grown hg3 fun k9 hk9 => .inl (ob6 k9 hk9)
   have hs7 := tg7.size
   have hs7a := ta7.size
   have n7 : Blk w7 (m + 1) 46 _ := (n6.keep ta7 id).keep tg7 (by omega)
   have r7 : Blk w7 (z + 1) 46 _ := (r6.keep ta7 id).keep tg7 (by omega)
   have t7 := (t6.trans ta7).trans' tg7 (fun i hi => .inr (by have hi : m + 2 ≤ i := hi; have := HZW.out; omega))
   have ob8 : ∀ g, (Value.slice O3 (1 + 1) k3).ownBlock = some g → m + 2 ≤ g := fun g9 hg9 => by
    rcases hl3 g9 hg9 with h9 | h9
    ·exact ob6 g9 h9
    ·omega
   clear hg3 hl3 tg7 ta7 k2 a0 a1 a2 a3 a4 a5 own6 ob6 n6 m6 r6 t6
   go_step
   go_step
   go_step
   refine wpList_store_cell rfl _ _ _ rfl (m + 1) 2 (.slice O3 (1 + 1) k3) (by rfl) (by rfl) rfl (by rfl) n7 (by simp) ?_
   intro w8 n8 ts8
   simp only [List.setIfInBounds_toArray, List.set_cons_succ, List.set_cons_zero] at n8
   have own8 := ts8.own ho3 (fun g9 hg9 he9 => by have he9 : g9 = m + 1 := he9; have := ob8 g9 hg9; omega)
   have r8 := r7.keep ts8 (by omega)
   have t8 := t7.trans' ts8 (fun i hi => .inr (by have hi : i = m + 1 := hi; have := HZW.out; omega))
   clear n7 r7 t7 ho3 ts8
   iterate 5 go_step
   refine wpList_load_row rfl _ _ rfl (m + 1) (by rfl) 46 #[.int .i64 0, .int .i64 0, .slice O3 (1 + 1) k3, .slice none 0 0, .int .i64 0, .int .i64 0, .int .i64 0, .int .i64 0, .int .i64 0, .int .i64 0, .bool false, .int .i64 0, .int .i64 0, .bool false] (0, 0) _ n8 Tryz.underlying46 rfl (by kernel_rfl) ?_
   refine wpList_store_blk rfl _ _ _ rfl (z + 1) #[.int .i64 0, .int .i64 0, .slice O3 (1 + 1) k3, .slice none 0 0, .int .i64 0, .int .i64 0, .int .i64 0, .int .i64 0, .int .i64 0, .int .i64 0, .bool false, .int .i64 0, .int .i64 0, .bool false] (by rfl) (by rfl) r8 (by kernel_rfl) rfl (by simp [Value.oneCell']) ?_
   intro w9 hF tF
   have HBF := Lib.hid hF
   have HTF := Lib.hid tF
   have T8 := Lib.hid t8
   have O8 := Lib.hid own8
   clear hF tF t8 own8 n8 r8
   go_wp2
   (try simp only [Exit.inBlock, Exit.then])
   (try rw [Exit.noGoto_ret])
   refine bodyPost_ret (results_row_tmp (P := Tryz.prog) rfl _ _ (z + 1) 46 _ (0, 0) _ rfl HBF.out Tryz.underlying46 rfl (by kernel_rfl)) rfl ?_
   unfold RecOk
   rw [HL2.out]
   refine ⟨_, rfl, ⟨_, _, rfl, ?_, Row.nil _ _ _⟩, T8.out.trans' HTF.out (fun i hi => .inr (by have hi : i = z + 1 := hi; have := HZW.out; omega))⟩
   simp only
   rw [HPL.out]
   exact Row.own ((HTF.out).own O8.out (fun g hg he => by have he : g = z + 1 := he; have := ob8 g hg; omega)) (fun _ _ => trivial)
  ·obtain rfl : c4 = 0 := by omega
   have hz2 : ((w2.alloc (.cells #[.int .i64 1, .int .i64 c2, .int .i64 c3, .int .i64 0, .int .i64 0, .int .i64 c6] 31)).alloc (.cells #[.int .i64 0, .int .i64 0, .slice none 0 0, .slice none 0 0, .int .i64 0, .int .i64 0, .int .i64 0, .int .i64 0, .int .i64 0, .int .i64 0, .bool false, .int .i64 0, .int .i64 0, .bool false] 46)).cell? ⟨w2.heap.size + 1, 2, none⟩ = some (.slice none 0 0) := n3.cell 2
   have a0 : ((w2.alloc (.cells #[.int .i64 1, .int .i64 c2, .int .i64 c3, .int .i64 0, .int .i64 0, .int .i64 c6] 31)).alloc (.cells #[.int .i64 0, .int .i64 0, .slice none 0 0, .slice none 0 0, .int .i64 0, .int .i64 0, .int .i64 0, .int .i64 0, .int .i64 0, .int .i64 0, .bool false, .int .i64 0, .int .i64 0, .bool false] 46)).cell? ⟨w2.heap.size, 0, none⟩ = some _ := m3.cell 0
   have a1 : ((w2.alloc (.cells #[.int .i64 1, .int .i64 c2, .int .i64 c3, .int .i64 0, .int .i64 0, .int .i64 c6] 31)).alloc (.cells #[.int .i64 0, .int .i64 0, .slice none 0 0, .slice none 0 0, .int .i64 0, .int .i64 0, .int .i64 0, .int .i64 0, .int .i64 0, .int .i64 0, .bool false, .int .i64 0, .int .i64 0, .bool false] 46)).cell? ⟨w2.heap.size, 1, none⟩ = some _ := m3.cell 1
   have a2 : ((w2.alloc (.cells #[.int .i64 1, .int .i64 c2, .int .i64 c3, .int .i64 0, .int .i64 0, .int .i64 c6] 31)).alloc (.cells #[.int .i64 0, .int .i64 0, .slice none 0 0, .slice none 0 0, .int .i64 0, .int .i64 0, .int .i64 0, .int .i64 0, .int .i64 0, .int .i64 0, .bool false, .int .i64 0, .int .i64 0, .bool false] 46)).cell? ⟨w2.heap.size, 2, none⟩ = some _ := m3.cell 2
   have a3 : ((w2.alloc (.cells #[.int .i64 1, .int .i64 c2, .int .i64 c3, .int .i64 0, .int .i64 0, .int .i64 c6] 31)).alloc (.cells #[.int .i64 0, .int .i64 0, .slice none 0 0, .slice none 0 0, .int .i64 0, .int .i64 0, .int .i64 0, .int .i64 0, .int .i64 0, .int .i64 0, .bool false, .int .i64 0, .int .i64 0, .bool false] 46)).cell? ⟨w2.heap.size, 3, none⟩ = some _ := m3.cell 3
   have a4 : ((w2.alloc (.cells #[.int .i64 1, .int .i64 c2, .int .i64 c3, .int .i64 0, .int .i64 0, .int .i64 c6] 31)).alloc (.cells #[.int .i64 0, .int .i64 0, .slice none 0 0, .slice none 0 0, .int .i64 0, .int .i64 0, .int .i64 0, .int .i64 0, .int .i64 0, .int .i64 0, .bool false, .int .i64 0, .int .i64 0, .bool false] 46)).cell? ⟨w2.heap.size, 4, none⟩ = some _ := m3.cell 4
   have a5 : ((w2.alloc (.cells #[.int .i64 1, .int .i64 c2, .int .i64 c3, .int .i64 0, .int .i64 0, .int .i64 c6] 31)).alloc (.cells #[.int .i64 0, .int .i64 0, .slice none 0 0, .slice none 0 0, .int .i64 0, .int .i64 0, .int .i64 0, .int .i64 0, .int .i64 0, .int .i64 0, .bool false, .int .i64 0, .int .i64 0, .bool false] 46)).cell? ⟨w2.heap.size, 5, none⟩ = some _ := m3.cell 5
   have HPL := Lib.hid (show localPlus (2, c2, c3, 0, 0, c6) = [(1, c2, c3, 0, 0, c6)] by simp [localPlus])
   go_wp2_with (at_builtin; refine Hid.out ?_)
   refine Lib.hid ?_
   clear hz2 a0 a1 a2 a3 a4 a5 q0 q1 q2 q3 q4 q5 hcmp p3
   generalize (w2.alloc (.cells #[.int .i64 1, .int .i64 c2, .int .i64 c3, .int .i64 0, .int .i64 0, .int .i64 c6] 31)).alloc (.cells #[.int .i64 0, .int .i64 0, .slice none 0 0, .slice none 0 0, .int .i64 0, .int .i64 0, .int .i64 0, .int .i64 0, .int .i64 0, .int .i64 0, .bool false, .int .i64 0, .int .i64 0, .bool false] 46) = W3 at *
   generalize w2.heap.size = m at *
   have own6 := World.ownsRow_nil W3 0 31 6
   have n6 := n3
   have m6 := m3
   have r6 := r3
   have t6 := tW3
   have hs6 : m + 2 ≤ W3.heap.size := by omega
   have ob6 : ∀ g, (Value.slice none 0 0).ownBlock = some g → m + 2 ≤ g := fun g9 hg9 => by cases hg9
   have bG := Blk.new W3 31 #[.int .i64 1, .int .i64 c2, .int .i64 c3, .int .i64 0, .int .i64 0, .int .i64 c6]
   rw [hsz] at bG
   refine wpList_append _ rfl _ _ 40 rfl rowCells (own6.alloc _) (by rfl) (Go.Gk.Src.one (news := int6 (1, c2, c3, 0, 0, c6)) rfl (fun m9 u9 hu9 => by rw [bG.cell m9]; simpa [int6] using hu9)) (by rfl) (one6 _) (by unfold maxLen; simp) (by simp) ?_
   intro v3 w7 ho3 hg3 hl3
   obtain ⟨O3, k3, rfl, _, _⟩ := own_form ho3
   have ta7 := Tch.alloc (fun _ => False) W3 (.cells #[.int .i64 1, .int .i64 c2, .int .i64 c3, .int .i64 0, .int .i64 0, .int .i64 c6] 31)
   have tg7 : Tch (fun g => m + 2 ≤ g) (W3.alloc (.cells #[.int .i64 1, .int .i64 c2, .int .i64 c3, .int .i64 0, .int .i64 0, .int .i64 c6] 31)) w7 := Tch.grown hg3 fun k9 hk9 => .inl (ob6 k9 hk9)
   have hs7 := tg7.size
   have hs7a := ta7.size
   have n7 : Blk w7 (m + 1) 46 _ := (n6.keep ta7 id).keep tg7 (by omega)
   have r7 : Blk w7 (z + 1) 46 _ := (r6.keep ta7 id).keep tg7 (by omega)
   have t7 := (t6.trans ta7).trans' tg7 (fun i hi => .inr (by have hi : m + 2 ≤ i := hi; have := HZW.out; omega))
   have ob8 : ∀ g, (Value.slice O3 (0 + 1) k3).ownBlock = some g → m + 2 ≤ g := fun g9 hg9 => by
    rcases hl3 g9 hg9 with h9 | h9
    ·exact ob6 g9 h9
    ·omega
   clear hg3 hl3 tg7 ta7 own6 ob6 n6 m6 r6 t6
   go_step
   go_step
   go_step
   refine wpList_store_cell rfl _ _ _ rfl (m + 1) 2 (.slice O3 (0 + 1) k3) (by rfl) (by rfl) rfl (by rfl) n7 (by simp) ?_
   intro w8 n8 ts8
   simp only [List.setIfInBounds_toArray, List.set_cons_succ, List.set_cons_zero] at n8
   have own8 := ts8.own ho3 (fun g9 hg9 he9 => by have he9 : g9 = m + 1 := he9; have := ob8 g9 hg9; omega)
   have r8 := r7.keep ts8 (by omega)
   have t8 := t7.trans' ts8 (fun i hi => .inr (by have hi : i = m + 1 := hi; have := HZW.out; omega))
   clear n7 r7 t7 ho3 ts8
   iterate 5 go_step
   refine wpList_load_row rfl _ _ rfl (m + 1) (by rfl) 46 #[.int .i64 0, .int .i64 0, .slice O3 (0 + 1) k3, .slice none 0 0, .int .i64 0, .int .i64 0, .int .i64 0, .int .i64 0, .int .i64 0, .int .i64 0, .bool false, .int .i64 0, .int .i64 0, .bool false] (0, 0) _ n8 Tryz.underlying46 rfl (by kernel_rfl) ?_
   refine wpList_store_blk rfl _ _ _ rfl (z + 1) #[.int .i64 0, .int .i64 0, .slice O3 (0 + 1) k3, .slice none 0 0, .int .i64 0, .int .i64 0, .int .i64 0, .int .i64 0, .int .i64 0, .int .i64 0, .bool false, .int .i64 0, .int .i64 0, .bool false] (by rfl) (by rfl) r8 (by kernel_rfl) rfl (by simp [Value.oneCell']) ?_
   intro w9 hF tF
   have HBF := Lib.hid hF
   have HTF := Lib.hid tF
   have T8 := Lib.hid t8
   have O8 := Lib.hid own8
   clear hF tF t8 own8 n8 r8
   go_wp2
   (try simp only [Exit.inBlock, Exit.then])
   (try rw [Exit.noGoto_ret])
   refine bodyPost_ret (results_row_tmp (P := Tryz.prog) rfl _ _ (z + 1) 46 _ (0, 0) _ rfl HBF.out Tryz.underlying46 rfl (by kernel_rfl)) rfl ?_
   unfold RecOk
   rw [HL2.out]
   refine ⟨_, rfl, ⟨_, _, rfl, ?_, Row.nil _ _ _⟩, T8.out.trans' HTF.out (fun i hi => .inr (by have hi : i = z + 1 := hi; have := HZW.out; omega))⟩
   simp only
   rw [HPL.out]
   exact Row.own ((HTF.out).own O8.out (fun g hg he => by have he : g = z + 1 := he; have := ob8 g hg; omega)) (fun _ _ => trivial)
end
end Go.Proofs.YtdangnmeligfjaaGreatDoor
