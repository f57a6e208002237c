/-
  The value of an elimination, by the recipes.
-/
import Derived.Test.YtdangnmeligfjaaGreatDoorZ64
import Derived.Test.YtdangnmeligfjaaGreatDoorQh
import Derived.Test.YtdangnmeligfjaaGreatDoorZ37
namespace Go.Gk.V33
theorem elim_flat (b : Bks) (c : Rt6) : (elimOf b c).1.rated = false := by
 unfold elimOf
 split <;> rfl
theorem elim_base (b : Bks) (c : Rt6) : Vl64 (elimOf b c).1.base := by
 unfold elimOf
 split <;> simp [Rcp.none, Vl64, I64]
end Go.Gk.V33
namespace Go.Proofs.YtdangnmeligfjaaGreatDoor
open Go.RowKit Go.Gk Go.Gk.V33
section
variable {bv bi B t mr mp : Nat} {e a s r l n lv : Value} {fs : List Value} {b : Bks} {us : List (Ent × Value)}
set_option maxRecDepth 100000 in
set_option maxHeartbeats 25600000 in
theorem value34_any {w : World} (h : Vw w bv bi B t mr mp e a s r l n lv fs b us) (hn : (accLeaves b.accs).length ≤ 1000) (hpo : (posts b.entries).length ≤ 3000) (hok : booksOK b = true) (c1 c2 c3 c4 c5 c6 : Int)
 (hq : ∀ w', Tch (fun _ => False) w w' → ∀ s1 s2 s3 s4 s5 s6 : Int, (s1, s2, s3, s4, s5, s6) ∈ readsOf (elimOf b (c1, c2, c3, c4, c5, c6)).1 → Calls Tryz.prog 42 #[.pointer (some ⟨bv, 0, none⟩), .agg #[.int .i64 s1, .int .i64 s2, .int .i64 s3, .int .i64 s4, .int .i64 s5, .int .i64 s6], .int .i64 20] w' fun y w'' => y = .returned (vlV (V32.valD b 20 (s1, s2, s3, s4, s5, s6))) ∧ Tch (fun _ => False) w' w'') :
 Calls Tryz.prog 15 #[.pointer (some ⟨bv, 0, none⟩), .agg #[.int .i64 c1, .int .i64 c2, .int .i64 c3, .int .i64 c4, .int .i64 c5, .int .i64 c6]] w fun y w' => y = .returned (vlV (valE b (c1, c2, c3, c4, c5, c6))) ∧ Tch (fun _ => False) w w' := by
 have HQ := Lib.hid hq
 have ta := Tch.alloc (fun _ => False) w (.cells #[.int .i64 c1, .int .i64 c2, .int .i64 c3, .int .i64 c4, .int .i64 c5, .int .i64 c6] 31)
 have tb := Tch.alloc (fun _ => False) (w.alloc (.cells #[.int .i64 c1, .int .i64 c2, .int .i64 c3, .int .i64 c4, .int .i64 c5, .int .i64 c6] 31)) (.cells #[.int .i64 0, .int .i64 0] 39)
 have tw := ta.trans tb
 have bC := (Blk.new w 31 #[.int .i64 c1, .int .i64 c2, .int .i64 c3, .int .i64 c4, .int .i64 c5, .int .i64 c6]).keep tb id
 have bO := Blk.new2 w (.cells #[.int .i64 c1, .int .i64 c2, .int .i64 c3, .int .i64 c4, .int .i64 c5, .int .i64 c6] 31) 39 #[.int .i64 0, .int .i64 0]
 have HTR := Lib.hid (elimrec_x (h.keep tw) hn (by omega) hok c1 c2 c3 c4 c5 c6)
 have HVE : Hid (valE b (c1, c2, c3, c4, c5, c6) = if (elimOf b (c1, c2, c3, c4, c5, c6)).2 = 0 then evalOf (elimOf b (c1, c2, c3, c4, c5, c6)).1 ((readsOf (elimOf b (c1, c2, c3, c4, c5, c6)).1).map (V32.valD b 20)) else (0, (elimOf b (c1, c2, c3, c4, c5, c6)).2)) := Lib.hid rfl
 have HLE := Lib.hid (elim_len hok hpo (c1, c2, c3, c4, c5, c6))
 have HB64 := Lib.hid (elim_base b (c1, c2, c3, c4, c5, c6))
 have HFL := Lib.hid (elim_flat b (c1, c2, c3, c4, c5, c6))
 have H64 := Lib.hid (fun k => V32.val_64 b 20 k)
 unfold ElimOk at HTR
 generalize valE b (c1, c2, c3, c4, c5, c6) = ve at *
 generalize elimOf b (c1, c2, c3, c4, c5, c6) = eo at *
 obtain ⟨R1, e1⟩ := eo
 simp only at HTR HVE HLE HB64 HFL
 generalize V32.valD b 20 = VD at *
 clear ta tb h hq hok hpo hn
 go_enter Tryz.func15, Tryz.ntmps15
 go_wp2_with fail
 generalize (w.alloc (.cells #[.int .i64 c1, .int .i64 c2, .int .i64 c3, .int .i64 c4, .int .i64 c5, .int .i64 c6] 31)).alloc _ = W at *
 generalize hzw : w.heap.size = z at *
 have HZW := Lib.hid hzw
 clear hzw
 refine HTR.out.mono ?_
 rintro _ w1 ⟨v1, rfl, ⟨p1, m1, rfl, hp1, hm1⟩, t1⟩
 obtain ⟨P1, cp1, rfl, _, _⟩ := hp1.form
 obtain ⟨M1, cm1, rfl, _, _⟩ := hm1.form
 have tG := Tch.alloc (fun _ => False) w1 (.cells #[.int .i64 R1.base.1, .int .i64 R1.base.2, .slice P1 R1.plus.length cp1, .slice M1 R1.minus.length cm1, .int .i64 R1.scaled.1, .int .i64 R1.scaled.2.1, .int .i64 R1.scaled.2.2.1, .int .i64 R1.scaled.2.2.2.1, .int .i64 R1.scaled.2.2.2.2.1, .int .i64 R1.scaled.2.2.2.2.2, .bool R1.rated, .int .i64 R1.ratio.1, .int .i64 R1.ratio.2, .bool R1.has] 46)
 have bG := Blk.new w1 46 #[.int .i64 R1.base.1, .int .i64 R1.base.2, .slice P1 R1.plus.length cp1, .slice M1 R1.minus.length cm1, .int .i64 R1.scaled.1, .int .i64 R1.scaled.2.1, .int .i64 R1.scaled.2.2.1, .int .i64 R1.scaled.2.2.2.1, .int .i64 R1.scaled.2.2.2.2.1, .int .i64 R1.scaled.2.2.2.2.2, .bool R1.rated, .int .i64 R1.ratio.1, .int .i64 R1.ratio.2, .bool R1.has]
 have t1G := t1.trans tG
 have bO1 := bO.keep t1G id
 have T1 := tw.trans t1G
 have hp2 := hp1.keep tG
 have hm2 := hm1.keep tG
 have hlt := bO.lt
 have hsz := t1.size
 clear HTR bC bO tw t1 tG t1G hp1 hm1
 unfold rcpV
 by_cases he : e1 = 0
 rotate_left
 ·have hvl := HVE.out
  rw [if_neg he] at hvl
  subst hvl
  have heb : (e1 != 0) = true := by simpa using he
  clear bG hp2 hm2 he HVE HLE HB64 HFL HQ
  go_wp2_with (refine wpList_store_blk rfl _ _ _ rfl (z + 1) #[.int .i64 0, .int .i64 e1] (by rfl) (by rfl) bO1 (by kernel_rfl) rfl (by simp [Value.oneCell']) ?_; refine Hid.out ?_)
  refine Lib.hid ?_
  intro w9 hF tF
  have HF := Lib.hid hF
  have HTF := Lib.hid tF
  clear hF tF bO1
  go_wp2
  (try simp only [Exit.inBlock, Exit.then])
  (try rw [Exit.noGoto_ret])
  refine bodyPost_ret (results_cell_row (P := Tryz.prog) rfl _ _ (z + 1) 39 _ (0, 0) _ rfl HF.out Tryz.underlying39 rfl (by kernel_rfl)) rfl ?_
  refine ⟨?_, T1.trans' (F' := fun g => g = z + 1) HTF.out (fun i hi => .inr (by have hi : i = z + 1 := hi; have := HZW.out; omega))⟩
  rfl
 subst he
 have hvl := HVE.out
 rw [if_pos rfl] at hvl
 have HVL2 := Lib.hid hvl
 have HRI := Lib.hid (fun (w' : World) (t9 : Tch (fun _ => False) (w1.alloc (.cells #[.int .i64 R1.base.1, .int .i64 R1.base.2, .slice P1 R1.plus.length cp1, .slice M1 R1.minus.length cm1, .int .i64 R1.scaled.1, .int .i64 R1.scaled.2.1, .int .i64 R1.scaled.2.2.1, .int .i64 R1.scaled.2.2.2.1, .int .i64 R1.scaled.2.2.2.2.1, .int .i64 R1.scaled.2.2.2.2.2, .bool R1.rated, .int .i64 R1.ratio.1, .int .i64 R1.ratio.2, .bool R1.has] 46)) w') => (show RcpIs w' (.agg #[.int .i64 R1.base.1, .int .i64 R1.base.2, .slice P1 R1.plus.length cp1, .slice M1 R1.minus.length cm1, .int .i64 R1.scaled.1, .int .i64 R1.scaled.2.1, .int .i64 R1.scaled.2.2.1, .int .i64 R1.scaled.2.2.2.1, .int .i64 R1.scaled.2.2.2.2.1, .int .i64 R1.scaled.2.2.2.2.2, .bool R1.rated, .int .i64 R1.ratio.1, .int .i64 R1.ratio.2, .bool R1.has]) R1 from ⟨_, _, rfl, hp2.keep t9, hm2.keep t9⟩))
 have HRE := Lib.hid (reads_any (HRI.out _ (Tch.refl _ _)) (by have := HLE.out; omega))
 have f0 : (w1.alloc (.cells #[.int .i64 R1.base.1, .int .i64 R1.base.2, .slice P1 R1.plus.length cp1, .slice M1 R1.minus.length cm1, .int .i64 R1.scaled.1, .int .i64 R1.scaled.2.1, .int .i64 R1.scaled.2.2.1, .int .i64 R1.scaled.2.2.2.1, .int .i64 R1.scaled.2.2.2.2.1, .int .i64 R1.scaled.2.2.2.2.2, .bool R1.rated, .int .i64 R1.ratio.1, .int .i64 R1.ratio.2, .bool R1.has] 46)).cell? ⟨w1.heap.size, 0, none⟩ = some (.int .i64 R1.base.1) := bG.cell 0
 have f1 : (w1.alloc (.cells #[.int .i64 R1.base.1, .int .i64 R1.base.2, .slice P1 R1.plus.length cp1, .slice M1 R1.minus.length cm1, .int .i64 R1.scaled.1, .int .i64 R1.scaled.2.1, .int .i64 R1.scaled.2.2.1, .int .i64 R1.scaled.2.2.2.1, .int .i64 R1.scaled.2.2.2.2.1, .int .i64 R1.scaled.2.2.2.2.2, .bool R1.rated, .int .i64 R1.ratio.1, .int .i64 R1.ratio.2, .bool R1.has] 46)).cell? ⟨w1.heap.size, 1, none⟩ = some (.int .i64 R1.base.2) := bG.cell 1
 have f2 : (w1.alloc (.cells #[.int .i64 R1.base.1, .int .i64 R1.base.2, .slice P1 R1.plus.length cp1, .slice M1 R1.minus.length cm1, .int .i64 R1.scaled.1, .int .i64 R1.scaled.2.1, .int .i64 R1.scaled.2.2.1, .int .i64 R1.scaled.2.2.2.1, .int .i64 R1.scaled.2.2.2.2.1, .int .i64 R1.scaled.2.2.2.2.2, .bool R1.rated, .int .i64 R1.ratio.1, .int .i64 R1.ratio.2, .bool R1.has] 46)).cell? ⟨w1.heap.size, 2, none⟩ = some (.slice P1 R1.plus.length cp1) := bG.cell 2
 have f3 : (w1.alloc (.cells #[.int .i64 R1.base.1, .int .i64 R1.base.2, .slice P1 R1.plus.length cp1, .slice M1 R1.minus.length cm1, .int .i64 R1.scaled.1, .int .i64 R1.scaled.2.1, .int .i64 R1.scaled.2.2.1, .int .i64 R1.scaled.2.2.2.1, .int .i64 R1.scaled.2.2.2.2.1, .int .i64 R1.scaled.2.2.2.2.2, .bool R1.rated, .int .i64 R1.ratio.1, .int .i64 R1.ratio.2, .bool R1.has] 46)).cell? ⟨w1.heap.size, 3, none⟩ = some (.slice M1 R1.minus.length cm1) := bG.cell 3
 have f4 : (w1.alloc (.cells #[.int .i64 R1.base.1, .int .i64 R1.base.2, .slice P1 R1.plus.length cp1, .slice M1 R1.minus.length cm1, .int .i64 R1.scaled.1, .int .i64 R1.scaled.2.1, .int .i64 R1.scaled.2.2.1, .int .i64 R1.scaled.2.2.2.1, .int .i64 R1.scaled.2.2.2.2.1, .int .i64 R1.scaled.2.2.2.2.2, .bool R1.rated, .int .i64 R1.ratio.1, .int .i64 R1.ratio.2, .bool R1.has] 46)).cell? ⟨w1.heap.size, 4, none⟩ = some (.int .i64 R1.scaled.1) := bG.cell 4
 have f5 : (w1.alloc (.cells #[.int .i64 R1.base.1, .int .i64 R1.base.2, .slice P1 R1.plus.length cp1, .slice M1 R1.minus.length cm1, .int .i64 R1.scaled.1, .int .i64 R1.scaled.2.1, .int .i64 R1.scaled.2.2.1, .int .i64 R1.scaled.2.2.2.1, .int .i64 R1.scaled.2.2.2.2.1, .int .i64 R1.scaled.2.2.2.2.2, .bool R1.rated, .int .i64 R1.ratio.1, .int .i64 R1.ratio.2, .bool R1.has] 46)).cell? ⟨w1.heap.size, 5, none⟩ = some (.int .i64 R1.scaled.2.1) := bG.cell 5
 have f6 : (w1.alloc (.cells #[.int .i64 R1.base.1, .int .i64 R1.base.2, .slice P1 R1.plus.length cp1, .slice M1 R1.minus.length cm1, .int .i64 R1.scaled.1, .int .i64 R1.scaled.2.1, .int .i64 R1.scaled.2.2.1, .int .i64 R1.scaled.2.2.2.1, .int .i64 R1.scaled.2.2.2.2.1, .int .i64 R1.scaled.2.2.2.2.2, .bool R1.rated, .int .i64 R1.ratio.1, .int .i64 R1.ratio.2, .bool R1.has] 46)).cell? ⟨w1.heap.size, 6, none⟩ = some (.int .i64 R1.scaled.2.2.1) := bG.cell 6
 have f7 : (w1.alloc (.cells #[.int .i64 R1.base.1, .int .i64 R1.base.2, .slice P1 R1.plus.length cp1, .slice M1 R1.minus.length cm1, .int .i64 R1.scaled.1, .int .i64 R1.scaled.2.1, .int .i64 R1.scaled.2.2.1, .int .i64 R1.scaled.2.2.2.1, .int .i64 R1.scaled.2.2.2.2.1, .int .i64 R1.scaled.2.2.2.2.2, .bool R1.rated, .int .i64 R1.ratio.1, .int .i64 R1.ratio.2, .bool R1.has] 46)).cell? ⟨w1.heap.size, 7, none⟩ = some (.int .i64 R1.scaled.2.2.2.1) := bG.cell 7
 have f8 : (w1.alloc (.cells #[.int .i64 R1.base.1, .int .i64 R1.base.2, .slice P1 R1.plus.length cp1, .slice M1 R1.minus.length cm1, .int .i64 R1.scaled.1, .int .i64 R1.scaled.2.1, .int .i64 R1.scaled.2.2.1, .int .i64 R1.scaled.2.2.2.1, .int .i64 R1.scaled.2.2.2.2.1, .int .i64 R1.scaled.2.2.2.2.2, .bool R1.rated, .int .i64 R1.ratio.1, .int .i64 R1.ratio.2, .bool R1.has] 46)).cell? ⟨w1.heap.size, 8, none⟩ = some (.int .i64 R1.scaled.2.2.2.2.1) := bG.cell 8
 have f9 : (w1.alloc (.cells #[.int .i64 R1.base.1, .int .i64 R1.base.2, .slice P1 R1.plus.length cp1, .slice M1 R1.minus.length cm1, .int .i64 R1.scaled.1, .int .i64 R1.scaled.2.1, .int .i64 R1.scaled.2.2.1, .int .i64 R1.scaled.2.2.2.1, .int .i64 R1.scaled.2.2.2.2.1, .int .i64 R1.scaled.2.2.2.2.2, .bool R1.rated, .int .i64 R1.ratio.1, .int .i64 R1.ratio.2, .bool R1.has] 46)).cell? ⟨w1.heap.size, 9, none⟩ = some (.int .i64 R1.scaled.2.2.2.2.2) := bG.cell 9
 have f10 : (w1.alloc (.cells #[.int .i64 R1.base.1, .int .i64 R1.base.2, .slice P1 R1.plus.length cp1, .slice M1 R1.minus.length cm1, .int .i64 R1.scaled.1, .int .i64 R1.scaled.2.1, .int .i64 R1.scaled.2.2.1, .int .i64 R1.scaled.2.2.2.1, .int .i64 R1.scaled.2.2.2.2.1, .int .i64 R1.scaled.2.2.2.2.2, .bool R1.rated, .int .i64 R1.ratio.1, .int .i64 R1.ratio.2, .bool R1.has] 46)).cell? ⟨w1.heap.size, 10, none⟩ = some (.bool R1.rated) := bG.cell 10
 have f11 : (w1.alloc (.cells #[.int .i64 R1.base.1, .int .i64 R1.base.2, .slice P1 R1.plus.length cp1, .slice M1 R1.minus.length cm1, .int .i64 R1.scaled.1, .int .i64 R1.scaled.2.1, .int .i64 R1.scaled.2.2.1, .int .i64 R1.scaled.2.2.2.1, .int .i64 R1.scaled.2.2.2.2.1, .int .i64 R1.scaled.2.2.2.2.2, .bool R1.rated, .int .i64 R1.ratio.1, .int .i64 R1.ratio.2, .bool R1.has] 46)).cell? ⟨w1.heap.size, 11, none⟩ = some (.int .i64 R1.ratio.1) := bG.cell 11
 have f12 : (w1.alloc (.cells #[.int .i64 R1.base.1, .int .i64 R1.base.2, .slice P1 R1.plus.length cp1, .slice M1 R1.minus.length cm1, .int .i64 R1.scaled.1, .int .i64 R1.scaled.2.1, .int .i64 R1.scaled.2.2.1, .int .i64 R1.scaled.2.2.2.1, .int .i64 R1.scaled.2.2.2.2.1, .int .i64 R1.scaled.2.2.2.2.2, .bool R1.rated, .int .i64 R1.ratio.1, .int .i64 R1.ratio.2, .bool R1.has] 46)).cell? ⟨w1.heap.size, 12, none⟩ = some (.int .i64 R1.ratio.2) := bG.cell 12
 have f13 : (w1.alloc (.cells #[.int .i64 R1.base.1, .int .i64 R1.base.2, .slice P1 R1.plus.length cp1, .slice M1 R1.minus.length cm1, .int .i64 R1.scaled.1, .int .i64 R1.scaled.2.1, .int .i64 R1.scaled.2.2.1, .int .i64 R1.scaled.2.2.2.1, .int .i64 R1.scaled.2.2.2.2.1, .int .i64 R1.scaled.2.2.2.2.2, .bool R1.rated, .int .i64 R1.ratio.1, .int .i64 R1.ratio.2, .bool R1.has] 46)).cell? ⟨w1.heap.size, 13, none⟩ = some (.bool R1.has) := bG.cell 13
 clear hvl HVE hp2 hm2
 go_wp2_with fail
 generalize w1.alloc _ = W1 at *
 generalize w1.heap.size = y at *
 refine HRE.out.mono ?_
 rintro _ w5 ⟨u, rfl, hrow, t5⟩
 have bR5 := bG.keep t5 id
 have bO5 := bO1.keep t5 id
 have T5 := T1.trans t5
 have HLN := Lib.hid (show (readsOf R1).length ≤ 6000 by
  unfold readsOf rcpAll
  refine Nat.le_trans (uniq_len _) ?_
  rw [List.length_append, List.length_append]
  have := HLE.out
  split <;> simp <;> omega)
 have HQ2 := HQ
 obtain ⟨LL, hLL⟩ : ∃ LL, readsOf R1 = LL := ⟨_, rfl⟩
 rw [hLL] at hrow HVL2 HLN HQ2
 have hln := HLN.out
 have HROW := Lib.hid (fun (w' : World) (t9 : Tch (fun _ => False) w5 w') => hrow.keep t9)
 obtain ⟨U, cu, rfl, hu1, hu2⟩ := hrow.form
 have HT5 := Lib.hid (fun (w' : World) (t9 : Tch (fun _ => False) w5 w') => t5.trans t9)
 clear f0 f1 f2 f3 f4 f5 f6 f7 f8 f9 f10 f11 f12 f13 HRE hLL hrow bG bO1 t5 HQ
 go_wp2_with fail
 go_loopw [8, 9] (fun o i wr => ∃ (j : Nat) (xs : List Vl), j ≤ LL.length ∧ i = .int .i64 j ∧ (LL.take j).map VD = xs ∧ Outs val2 2 39 w5 wr o xs) (fun _ i _ => LL.length - (intOf i).toNat)
 case atStart => exact ⟨0, [], Nat.zero_le _, rfl, rfl, Outs.start _ _ _ (Tch.refl _ _)⟩
 case round =>
  obtain ⟨j, xs, hj, rfl, hxs, hO⟩ := hrel
  have HXS := Lib.hid hxs
  have HXL := Lib.hid (show xs.length = j by rw [← hxs, List.length_map, List.length_take]; omega)
  have hj0 : (0 : Int) ≤ (j : Int) := Int.natCast_nonneg _
  clear hxs
  obtain ⟨O, co, rfl, ho1, ho2⟩ := hO.form
  by_cases hlt : j < LL.length
  ·have hlt' : (j : Int) < (LL.length : Int) := by omega
   have hl9 := HROW.out wr hO.tch
   obtain ⟨g, o9, rfl⟩ := hl9.head (by omega)
   obtain ⟨q0, q1, q2, q3, q4, q5⟩ := Row.six hl9 int6_len hlt rfl
   have HXN := Lib.hid (show (LL.take (j + 1)).map VD = xs ++ [VD LL[j]] by rw [List.take_succ_eq_append_getElem hlt, List.map_append, HXS.out]; rfl)
   have HMK := Lib.hid (show LL[j] ∈ LL from List.getElem_mem _)
   generalize LL[j] = cc at *
   obtain ⟨s1, s2, s3, s4, s5, s6⟩ := cc
   simp only at q0 q1 q2 q3 q4 q5
   have HIH := Lib.hid (HQ2.out wr (T5.trans hO.tch) s1 s2 s3 s4 s5 s6 HMK.out)
   generalize VD (s1, s2, s3, s4, s5, s6) = sv at *
   obtain ⟨sx, sy⟩ := sv
   unfold vlV at HIH
   simp only at HIH
   have hcl : xs.length ≤ 6000 := by have := HXL.out; omega
   clear hl9 HXS
   go_wp2_with fail
   refine HIH.out.mono ?_
   rintro _ wa ⟨rfl, ta⟩
   have hO2 := hO.keep ta
   clear HIH hO ta q0 q1 q2 q3 q4 q5
   go_wp2_with (at_builtin; refine wpList_append _ rfl _ _ 101 rfl rowVals (own_base (hO2.own.alloc _)) (by rfl) (Go.Gk.Src.one (news := val2 (sx, sy)) rfl (fun m9 u9 hu9 => by rw [(Blk.new wa 39 #[.int .i64 sx, .int .i64 sy]).cell m9]; simpa [val2] using hu9)) (by rfl) (by simpa using one_val2 [(sx, sy)]) (by unfold maxLen; omega) (by omega) ?_; intro v2 wc ho2 hg2 hl2; have hO3 := hO2.step (x := (sx, sy)) (Tch.alloc _ _ _) ho2 hg2 (fun g hg => by simpa using hl2 g hg); obtain ⟨O3, co3, rfl, _, _⟩ := own_form ho2)
   go_roundw
   case rel => exact ⟨j + 1, _, by omega, by go_num, HXN.out, by simpa using hO3⟩
   case measure => simp [intOf] <;> omega
  ·obtain rfl : j = LL.length := by omega
   have hxs := HXS.out
   rw [List.take_length] at hxs
   have hlt' : ¬ (LL.length : Int) < (LL.length : Int) := by omega
   have HRIw := Lib.hid (HRI.out wr (HT5.out wr hO.tch))
   have HEV := Lib.hid (eval_any HRIw.out hO.row (fun v hv => by rw [← hxs] at hv; obtain ⟨k9, _, rfl⟩ := List.mem_map.1 hv; exact H64.out k9) HB64.out HLE.out (by have := HXL.out; omega) (fun h9 => absurd (HFL.out.symm.trans h9) (by decide)))
   have HVL3 := Lib.hid (HVL2.out.trans (by rw [hxs]))
   have bR6 := bR5.keep hO.tch id
   have bO6 := bO5.keep hO.tch id
   have T6 := T5.trans hO.tch
   have f0 : wr.cell? ⟨y, 0, none⟩ = some (.int .i64 R1.base.1) := bR6.cell 0
   have f1 : wr.cell? ⟨y, 1, none⟩ = some (.int .i64 R1.base.2) := bR6.cell 1
   have f2 : wr.cell? ⟨y, 2, none⟩ = some (.slice P1 R1.plus.length cp1) := bR6.cell 2
   have f3 : wr.cell? ⟨y, 3, none⟩ = some (.slice M1 R1.minus.length cm1) := bR6.cell 3
   have f4 : wr.cell? ⟨y, 4, none⟩ = some (.int .i64 R1.scaled.1) := bR6.cell 4
   have f5 : wr.cell? ⟨y, 5, none⟩ = some (.int .i64 R1.scaled.2.1) := bR6.cell 5
   have f6 : wr.cell? ⟨y, 6, none⟩ = some (.int .i64 R1.scaled.2.2.1) := bR6.cell 6
   have f7 : wr.cell? ⟨y, 7, none⟩ = some (.int .i64 R1.scaled.2.2.2.1) := bR6.cell 7
   have f8 : wr.cell? ⟨y, 8, none⟩ = some (.int .i64 R1.scaled.2.2.2.2.1) := bR6.cell 8
   have f9 : wr.cell? ⟨y, 9, none⟩ = some (.int .i64 R1.scaled.2.2.2.2.2) := bR6.cell 9
   have f10 : wr.cell? ⟨y, 10, none⟩ = some (.bool R1.rated) := bR6.cell 10
   have f11 : wr.cell? ⟨y, 11, none⟩ = some (.int .i64 R1.ratio.1) := bR6.cell 11
   have f12 : wr.cell? ⟨y, 12, none⟩ = some (.int .i64 R1.ratio.2) := bR6.cell 12
   have f13 : wr.cell? ⟨y, 13, none⟩ = some (.bool R1.has) := bR6.cell 13
   clear hxs HXS HRI HROW hlt HVL2 HB64 HLE bR5 bO5 T5 hO bR6
   generalize hev : evalOf R1 xs = ev at *
   obtain ⟨ev1, ev2⟩ := ev
   have HEVE := Lib.hid hev
   clear hev
   unfold vlV at HEV
   simp only at HEV
   go_wp2_with fail
   refine HEV.out.mono ?_
   rintro _ w7 ⟨rfl, t7⟩
   have bO7 := bO6.keep t7 id
   have T7 := T6.trans t7
   clear HEV f0 f1 f2 f3 f4 f5 f6 f7 f8 f9 f10 f11 f12 f13 bO6 T6 t7
   go_wp2_with (refine wpList_store_blk rfl _ _ _ rfl (z + 1) #[.int .i64 ev1, .int .i64 ev2] (by rfl) (by rfl) bO7 (by kernel_rfl) rfl (by simp [Value.oneCell']) ?_; refine Hid.out ?_)
   refine Lib.hid ?_
   intro w9 hF tF
   have HF := Lib.hid hF
   have HTF := Lib.hid tF
   clear hF tF bO7
   go_wp2
   (try simp only [Exit.inBlock, Exit.then])
   (try rw [Exit.noGoto_ret])
   refine bodyPost_ret (results_cell_row (P := Tryz.prog) rfl _ _ (z + 1) 39 _ (0, 0) _ rfl HF.out Tryz.underlying39 rfl (by kernel_rfl)) rfl ?_
   refine ⟨?_, T7.trans' (F' := fun g => g = z + 1) HTF.out (fun i hi => .inr (by have hi : i = z + 1 := hi; have := HZW.out; omega))⟩
   rw [HVL3.out]
   rfl
end
end Go.Proofs.YtdangnmeligfjaaGreatDoor
