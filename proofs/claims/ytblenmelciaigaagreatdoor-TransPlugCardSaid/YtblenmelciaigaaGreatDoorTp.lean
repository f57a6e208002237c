/-
  TransPlug: the walk.
-/
import Derived.Test.YtblenmelciaigaaGreatDoorAw
import Derived.Test.YtblenmelciaigaaGreatDoorZ24
import Derived.Test.YtblenmelciaigaaGreatDoorVx
import Derived.Test.YtblenmelciaigaaGreatDoorTw
import Derived.Test.YtblenmelciaigaaGreatDoorZ7
namespace Go.Proofs.YtblenmelciaigaaGreatDoor
open Go.RowKit Go.Gk Go.Gk.V32

set_option maxRecDepth 100000 in
set_option maxHeartbeats 25600000 in
theorem transplug_any {w : World} {e a s r l n : Value} {b : Bks} {us : List (Ent × Value)} (h : BksAt w e a s r l n b us) (h64 : Bks64 b) (hT : Tab64 1 w) (c1 c2 c3 c4 c5 c6 : Int) :
    Calls Tryz.prog 4 #[.agg #[e, a, s, r, l, n], .agg #[.int .i64 c1, .int .i64 c2, .int .i64 c3, .int .i64 c4, .int .i64 c5, .int .i64 c6]] w fun x w' => x = .returned (.bool true) ∧ Tch (fun _ => False) w w' := by
  have HTA := Lib.hid (fun w' (t9 : Tch (fun _ => False) w w') => hT.keep t9)
  clear hT
  have ta := Tch.alloc (fun _ => False) w (.cells #[e, a, s, r, l, n] 29)
  have tb := Tch.alloc (fun _ => False) (w.alloc (.cells #[e, a, s, r, l, n] 29)) (.cells #[.int .i64 c1, .int .i64 c2, .int .i64 c3, .int .i64 c4, .int .i64 c5, .int .i64 c6] 31)
  have tw := ta.trans tb
  have hbB := (Blk.new w 29 #[e, a, s, r, l, n]).keep tb id
  have hbC := Blk.new2 w (.cells #[e, a, s, r, l, n] 29) 31 #[.int .i64 c1, .int .i64 c2, .int .i64 c3, .int .i64 c4, .int .i64 c5, .int .i64 c6]
  have HF := Lib.hid (few26_any (h.keep tw))
  have HW := Lib.hid (h.keep tw)
  have hsz : ((w.alloc (.cells #[e, a, s, r, l, n] 29)).alloc (.cells #[.int .i64 c1, .int .i64 c2, .int .i64 c3, .int .i64 c4, .int .i64 c5, .int .i64 c6] 31)).heap.size = w.heap.size + 2 := by simp
  obtain ⟨Ae, ce, rfl, _, _⟩ := h.ents.form
  obtain ⟨Aa, ca, rfl, _, _⟩ := h.accs.form
  obtain ⟨As, cs, rfl, _, _⟩ := h.stakes.form
  obtain ⟨Ar, cr, rfl, _, _⟩ := h.rates.form
  obtain ⟨Al, cl, rfl, _, _⟩ := h.locks.form
  obtain ⟨An, cn, rfl, _, _⟩ := h.ent.row.form
  clear ta tb h
  obtain ⟨fw, hfw⟩ : ∃ fw, few26 b = fw := ⟨_, rfl⟩
  rw [hfw] at HF
  go_enter Tryz.func4, Tryz.ntmps4
  go_wp2_with fail
  generalize (w.alloc (.cells #[.slice Ae b.ents.length ce, .slice Aa b.accs.length ca, .slice As b.stakes.length cs, .slice Ar b.rates.length cr, .slice Al b.locks.length cl, .slice An us.length cn] 29)).alloc (.cells #[.int .i64 c1, .int .i64 c2, .int .i64 c3, .int .i64 c4, .int .i64 c5, .int .i64 c6] 31) = W at *
  generalize hzw : w.heap.size = z at *
  have HZW := Lib.hid hzw
  clear hzw
  refine HF.out.mono ?_
  rintro _ w1 ⟨rfl, t1⟩
  clear HF
  have tt1 := tw.trans t1
  have hx1 := hbC.keep t1 id
  have w3c : w1.cell? ⟨z + 1, 3, none⟩ = some (.int .i64 c4) := hx1.cell 3
  cases fw
  · clear hfw w3c
    go_wp2_with fail
    refine (awake32_any w1 (HTA.out w1 tt1)).mono ?_
    rintro _ w2 ⟨rfl, t2⟩
    go_wp2
    go_ret
    exact ⟨rfl, tt1.trans t2⟩
  by_cases h5 : c4 > 5
  · have h5' : (5 : Int) < c4 := h5
    clear hfw
    go_wp2_with fail
    refine (awake32_any _ (HTA.out _ tt1)).mono ?_
    rintro _ wz ⟨rfl, tz⟩
    go_wp2
    go_ret
    exact ⟨rfl, tt1.trans tz⟩
  have h5' : ¬ (5 : Int) < c4 := h5
  have hfew := few26_few hfw
  have hB1 := hbB.keep t1 id
  have hC1 := hbC.keep t1 id
  have h1 := HW.out.keep t1
  have hk1 : z + 2 ≤ w1.heap.size := by have := t1.size; omega
  clear hbB hbC HW tw t1 hfw hsz hx1
  have g0 : w1.cell? ⟨z, 0, none⟩ = some (.slice Ae b.ents.length ce) := hB1.cell 0
  have g1 : w1.cell? ⟨z, 1, none⟩ = some (.slice Aa b.accs.length ca) := hB1.cell 1
  have g2 : w1.cell? ⟨z, 2, none⟩ = some (.slice As b.stakes.length cs) := hB1.cell 2
  have g3 : w1.cell? ⟨z, 3, none⟩ = some (.slice Ar b.rates.length cr) := hB1.cell 3
  have g4 : w1.cell? ⟨z, 4, none⟩ = some (.slice Al b.locks.length cl) := hB1.cell 4
  have g5 : w1.cell? ⟨z, 5, none⟩ = some (.slice An us.length cn) := hB1.cell 5
  go_wp2_with fail
  refine (see_far h1 hfew h64).mono ?_
  rintro _ w2 ⟨hsee, t2⟩
  have tt2 := tt1.trans t2
  rcases hsee with ⟨_, m, rfl, hm⟩ | ⟨hok, bv, bi, B, t, mr, mp, e', a', s', r', l', n', lv, fs, us', rfl, hV, hFar⟩
  · have hm2 : (m != 0) = true := by simpa using hm
    clear g0 g1 g2 g3 g4 g5 hm
    go_wp2_with fail
    refine (awake32_any w2 (HTA.out w2 tt2)).mono ?_
    rintro _ w3 ⟨rfl, t3⟩
    go_wp2
    go_ret
    exact ⟨rfl, tt2.trans t3⟩
  have hk5 : z + 2 ≤ w2.heap.size := Nat.le_trans hk1 t2.size
  have hC2 := hC1.keep t2 id
  clear g0 g1 g2 g3 g4 g5 hB1 hC1 h1 tt1 t2 h5 h5' w3c
  have hn := leaves_few hfew
  have hpo := posts_few hfew
  have hqo := posts_64 h64
  have hrl : b.rates.length ≤ 1000000 := by have := hfew.rates; omega
  have HOK := Lib.hid hok
  clear hfew h64 hok hFar
  have k0 : w2.cell? ⟨z + 1, 0, none⟩ = some (.int .i64 c1) := hC2.cell 0
  have k1 : w2.cell? ⟨z + 1, 1, none⟩ = some (.int .i64 c2) := hC2.cell 1
  have k2 : w2.cell? ⟨z + 1, 2, none⟩ = some (.int .i64 c3) := hC2.cell 2
  have k3 : w2.cell? ⟨z + 1, 3, none⟩ = some (.int .i64 c4) := hC2.cell 3
  have k4 : w2.cell? ⟨z + 1, 4, none⟩ = some (.int .i64 c5) := hC2.cell 4
  have k5 : w2.cell? ⟨z + 1, 5, none⟩ = some (.int .i64 c6) := hC2.cell 5
  have HOF := Lib.hid (fun x w' => of32_any c1 c2 c3 c4 c5 c6 x w')
  go_wp2_with fail
  refine (HOF.out 1 w2).mono ?_
  rintro _ w3 ⟨rfl, t3⟩
  have HMY := Lib.hid (vwmay_any (hV.keep t3) (trC c2 c4 c5 1))
  unfold trC cellV at HMY
  simp only at HMY
  have HIN := Lib.hid (show ∀ m, cellIn (3, c2, 1, c4, c5, 0) b.ents.length b.accs.length = m → cellIn (trC c2 c4 c5 1) b.ents.length b.accs.length = m from fun _ h => h)
  generalize hci : cellIn (3, c2, 1, c4, c5, 0) b.ents.length b.accs.length = ci at *
  have hC3 := hC2.keep t3 id
  have tt3 := tt2.trans t3
  have hV3 := hV.keep t3
  have HCI := Lib.hid (HIN.out ci rfl)
  clear k0 k1 k2 k3 k4 k5 hC2 hV hci HIN
  go_wp2_with fail
  refine HMY.out.mono ?_
  rintro _ w4 ⟨rfl, t4⟩
  have hC4 := hC3.keep t4 id
  have tt4 := tt3.trans t4
  have hV4 := hV3.keep t4
  clear HMY t3 hC3 tt3 hV3 t4 tt2
  by_cases hc0 : ci = 0
  rotate_left
  · have hcb : (ci != 0) = true := by simpa using hc0
    clear hc0 hC4 hV4
    go_wp2_with fail
    refine (awake32_any w4 (HTA.out w4 tt4)).mono ?_
    rintro _ wz ⟨rfl, tz⟩
    go_wp2
    (try rw [Exit.noGoto_ret])
    go_ret
    exact ⟨rfl, tt4.trans tz⟩
  subst hc0
  have tS := Tch.alloc (fun _ => False) w4 (.cells #[.bool false, .slice none 0 0] 59)
  have bS := Blk.new w4 59 #[.bool false, .slice none 0 0]
  have HLV := Lib.hid (vwleaves_any (hV4.keep tS) hn)
  have HV4 := Lib.hid (fun w' (t9 : Tch (fun _ => False) w4 w') => hV4.keep t9)
  have HYW := Lib.hid tt4.size
  have HYS := Lib.hid bS.lt
  have hC5 := hC4.keep tS id
  have tt5 := tt4.trans tS
  have hzz : z + 2 ≤ w4.heap.size := by have := hC4.lt; omega
  have HTS := Lib.hid tS
  clear hC4 tt4 hV4 tS
  go_wp2_with fail
  generalize w4.alloc _ = W4 at *
  generalize hyy : w4.heap.size = y at *
  have HYY := Lib.hid hyy
  clear hyy
  refine HLV.out.mono ?_
  rintro _ w5 ⟨u, rfl, hO⟩
  have hC6 := hC5.keep hO.tch id
  have tt6 := tt5.trans hO.tch
  have t45 := HTS.out.trans hO.tch
  have bS6 := bS.keep hO.tch id
  have HSM := Lib.hid (plug_sum (b := b) (e := c2) (p := c4) (u := c5) HOK.out HCI.out (by omega))
  have HFI := Lib.hid (fun a (ha : a ∈ accLeaves b.accs) => val_fine (accs_60 HOK.out).1 (books_rates HOK.out) 13 (trC c2 c4 c5 a) (of_proper HOK.out HCI.out (by omega) (leaves_iff.1 ha)) (rank_le (of_proper HOK.out HCI.out (by omega) (leaves_iff.1 ha))))
  have HVA := Lib.hid (fun w' (t9 : Tch (fun _ => False) w4 w') (ht9 : Tch (fun _ => False) w w') a => value32_any hn hrl hpo hqo 20 w' 20 (by omega) (HV4.out w' t9) (HTA.out w' ht9) 3 c2 a c4 c5 0)
  have hlen : (accLeaves b.accs).length ≤ 1000 := hn
  obtain ⟨Vf, hVf⟩ : ∃ Vf : Int → Vl, (fun a => valD b 20 (trC c2 c4 c5 a)) = Vf := ⟨_, rfl⟩
  have HVE : ∀ a, valD b 20 (trC c2 c4 c5 a) = Vf a := fun a => by rw [← hVf]
  have HV64 := Lib.hid (fun a => show Vl64 (Vf a) by rw [← HVE a]; exact val_64 b 20 _)
  have HVA2 := Lib.hid (fun w' (t9 : Tch (fun _ => False) w4 w') (ht9 : Tch (fun _ => False) w w') a => show Calls Tryz.prog 16 #[.pointer (some ⟨bv, 0, none⟩), .agg #[.int .i64 3, .int .i64 c2, .int .i64 a, .int .i64 c4, .int .i64 c5, .int .i64 0], .int .i64 20] w' (fun y w'' => y = .returned (vlV (Vf a)) ∧ Tch (fun _ => False) w' w'') by rw [← HVE a]; exact HVA.out w' t9 ht9 a)
  simp only [HVE] at HSM HFI
  have HVE2 := Lib.hid HVE
  clear HLV hC5 tt5 bS hVf HVE HVA hn hrl hpo hqo HOK HCI HV4 HTS
  generalize accLeaves b.accs = L at *
  have hl := hO.row
  have HROW := Lib.hid (fun wr (ht : Tch (fun g => g = y) w5 wr) => Row.keepTo (P' := fun _ => True) (Row.own hO.own (P := fun g => W4.heap.size ≤ g) (fun g hg => (hO.own.lt g hg).1)) ht (fun g _ hg => ⟨fun e => by have e : g = y := e; have := HYS.out; omega, trivial⟩))
  obtain ⟨U, cu, rfl, hu1, hu2⟩ := hO.form
  have hys : y < W4.heap.size := HYS.out
  have hys5 := hO.tch.size
  have hln : (L.length : Int) ≤ 1000 := by omega
  clear hl hO
  go_wp2_with fail
  go_loopw [9] (fun i wr => ∃ (j : Nat) (S : Int), j ≤ L.length ∧ i = .int .i64 j ∧ (∀ a ∈ L.take j, (Vf a).2 = 0) ∧ S = ((L.take j).map fun a => (Vf a).1).sum ∧ S.natAbs ≤ j * 9223372036854775808 ∧ SumAt2 59 y y wr S ∧ Tch (fun g => g = y) w5 wr) (fun i _ => L.length - (intOf i).toNat)
  case atStart => exact ⟨0, 0, Nat.zero_le _, rfl, (fun a ha => by rw [List.take_zero] at ha; cases ha), rfl, by simp, SumAt2.zero bS6, Tch.refl _ _⟩
  case round =>
    obtain ⟨j, S, hj, rfl, hz, hS, hSb, hSM, ht⟩ := hrel
    obtain ⟨sg, D, nd, cd, hb, hbig⟩ := hSM
    have HZ := Lib.hid hz
    have HS := Lib.hid hS
    have HSB := Lib.hid hSb
    have hj0 : (0 : Int) ≤ (j : Int) := Int.natCast_nonneg _
    have hCr := hC6.keep ht (by omega)
    have Tr := tt6.trans' ht (fun i hi => .inr (by have hi : i = y := hi; have h8 := HYW.out; have h9 := HYY.out; omega))
    have T4r := t45.trans' ht (fun i hi => .inr (by have hi : i = y := hi; have := HYY.out; omega))
    clear hz hS hSb
    by_cases hlt : j < L.length
    · have hlt' : (j : Int) < (L.length : Int) := by omega
      have hl9 := HROW.out wr ht
      obtain ⟨g, o9, rfl⟩ := hl9.head (by omega)
      have q0 := Row.one hl9 int1_len hlt rfl
      have HTK := Lib.hid (show L.take (j + 1) = L.take j ++ [L[j]] from List.take_succ_eq_append_getElem hlt)
      have HME := Lib.hid (show L[j] ∈ L from List.getElem_mem _)
      generalize L[j] = x at *
      have HFX := Lib.hid (HFI.out x HME.out)
      have H64 := Lib.hid (HV64.out x)
      have HVX := Lib.hid (fun w' t9 ht9 => HVA2.out w' t9 ht9 x)
      generalize hvx : Vf x = vx at *
      have HEX := Lib.hid hvx
      obtain ⟨v1, v2⟩ := vx
      unfold vlV at HVX
      simp only at HVX
      have k0 : wr.cell? ⟨z + 1, 0, none⟩ = some (.int .i64 c1) := hCr.cell 0
      have X0 := within_cell (F := fun _ => False) k0 id
      have k1 : wr.cell? ⟨z + 1, 1, none⟩ = some (.int .i64 c2) := hCr.cell 1
      have X1 := within_cell (F := fun _ => False) k1 id
      have k2 : wr.cell? ⟨z + 1, 2, none⟩ = some (.int .i64 c3) := hCr.cell 2
      have X2 := within_cell (F := fun _ => False) k2 id
      have k3 : wr.cell? ⟨z + 1, 3, none⟩ = some (.int .i64 c4) := hCr.cell 3
      have X3 := within_cell (F := fun _ => False) k3 id
      have k4 : wr.cell? ⟨z + 1, 4, none⟩ = some (.int .i64 c5) := hCr.cell 4
      have X4 := within_cell (F := fun _ => False) k4 id
      have k5 : wr.cell? ⟨z + 1, 5, none⟩ = some (.int .i64 c6) := hCr.cell 5
      have X5 := within_cell (F := fun _ => False) k5 id
      have X6 := within_cell (F := fun _ => False) q0 id
      clear hl9 hvx
      go_wp2_with fail
      refine wp_region_touch (fun _ => False) [] 9 [(6, .inl (.agg #[.int .i64 3, .int .i64 c2, .int .i64 x, .int .i64 c4, .int .i64 c5, .int .i64 0])), (7, .inl (.agg #[.int .i64 v1, .int .i64 v2])), (8, .inr fun u w' => ∃ g, u = .pointer (some ⟨g, 0, none⟩) ∧ wr.heap.size ≤ g ∧ Blk w' g 39 #[.int .i64 0, .int .i64 0])] [] (by kernel_rfl) rfl (by kernel_rfl) rfl (fun d _ _ _ _ h => by cases d <;> exact h) ?_ ?_
      · exact ⟨fun _ _ _ hr ⟨g, h1, h2, h3⟩ => ⟨g, h1, h2, h3.keep hr id⟩, trivial⟩
      (intro bef ops hbef hops; clear hbef; subst hops; simp only [List.take_succ_cons, List.take_zero, List.drop_succ_cons, List.drop_zero])
      iterate 6 (refine t_det (by rfl) (by rfl) (by rfl) (by rfl) (fun K hK => ?_); go_big_quiet_op; (first | refine hK _ ?_ | refine ⟨_, fun _ => rfl, hK _ ?_⟩); clear hK K; (try simp only [Act.put, List.setIfInBounds_toArray, List.set_cons_succ, List.set_cons_zero]))
      refine t_fix (.agg #[.int .i64 3, .int .i64 c2, .int .i64 x, .int .i64 c4, .int .i64 c5, .int .i64 0]) (by rfl) (by rfl) (fun wa hr hf => ?_) ?_
      · refine yields_of_wp (d := 53) rfl (by simp) (fun K hK => ?_)
        go_step
        refine (HOF.out x wa).mono ?_
        rintro _ wb ⟨rfl, tb⟩
        exact hK _ _ ⟨⟨rfl, tb⟩, newAt_no⟩
      simp only [Act.put, List.setIfInBounds_toArray, List.set_cons_succ, List.set_cons_zero]
      refine t_fix (.agg #[.int .i64 v1, .int .i64 v2]) (by rfl) (by rfl) (fun wa hr hf => ?_) ?_
      · refine yields_of_wp (d := 54) rfl (by simp) (fun K hK => ?_)
        have t9 := (Tch.drew (fun _ => False) wr).trans hr
        go_step
        refine (HVX.out wa (T4r.trans t9) (Tr.trans t9)).mono ?_
        rintro _ wb ⟨rfl, tb⟩
        exact hK _ _ ⟨⟨rfl, tb⟩, newAt_no⟩
      simp only [Act.put, List.setIfInBounds_toArray, List.set_cons_succ, List.set_cons_zero]
      refine t_loose (by rfl) (by rfl) (fun wa hr hf => ?_) (fun u => ?_)
      · have hs9 := ((Tch.drew (fun _ => False) wr).trans hr).size
        refine yields_of_wp (d := 10) rfl (by simp) (fun K hK => ?_)
        go_step
        exact hK _ _ ⟨⟨⟨_, rfl, hs9, Blk.new _ _ _⟩, Tch.alloc _ _ _⟩, newAt_no⟩
      simp only [Act.put, List.setIfInBounds_toArray, List.set_cons_succ, List.set_cons_zero]
      refine t_nil ?_
      intro wc hr hp hap
      obtain ⟨gq, rfl, hgl, hgq⟩ := hp _ (List.Mem.head _)
      have t6 := (Tch.drew (fun _ => False) wr).trans hr
      have hb6 := hb.keep t6 id
      have hC7 := hCr.keep t6 id
      have ht6 := ht.trans (Exn.touch t6)
      have Tr6 := Tr.trans t6
      have hby := hb.lt
      clear hap hp hr k0 X0 k1 X1 k2 X2 k3 X3 k4 X4 k5 X5 X6 q0 HVX hCr hb
      go_wp2_with (refine wpList_store_blk rfl _ _ _ rfl gq #[.int .i64 v1, .int .i64 v2] (by rfl) (by rfl) hgq (by kernel_rfl) rfl (by simp [Value.oneCell']) ?_; refine Hid.out ?_)
      refine Lib.hid ?_
      intro wd hG tG
      have hby2 : y ≠ gq := by omega
      have hgs := Tr6.size
      have hgw5 := ht.size
      have hgt6 := t6.size
      have tG0 : Tch (fun _ => False) wr wd := t6.trans' tG (fun i hi => .inr (by have hi : i = gq := hi; omega))
      have hb7 := hb6.keep tG hby2
      have HBD := Lib.hid (hbig.beside tG0 (fun _ _ h => h.elim))
      have ht7 := ht.trans (Exn.touch tG0)
      have hw9 := Tr6.size
      have Tr7 := Tr6.trans' tG (fun i hi => .inr (by have hi : i = gq := hi; have := Tr.size; omega))
      have g0 : wd.cell? ⟨gq, 0, none⟩ = some (.int .i64 v1) := hG.cell 0
      have g1 : wd.cell? ⟨gq, 1, none⟩ = some (.int .i64 v2) := hG.cell 1
      clear hG tG hb6 hC7 ht6 Tr6 hgq hbig Tr t6
      have hfx := HFX.out
      by_cases hv2 : v2 = 0
      rotate_left
      · have hv2b : (v2 != 0) = true := by simpa using hv2
        unfold fine at hfx
        simp only at hfx
        have h1040 : v2 = 10 ∨ v2 = 40 := by omega
        clear hfx hv2 HBD hb7 ht7
        rcases h1040 with rfl | rfl
        · go_wp2_with fail
          refine (awake32_any wd (HTA.out wd Tr7)).mono ?_
          rintro _ wz ⟨rfl, tz⟩
          go_wp2
          (try rw [Exit.noGoto_ret])
          go_ret
          exact ⟨rfl, Tr7.trans tz⟩
        · go_wp2_with fail
          refine (awake32_any wd (HTA.out wd Tr7)).mono ?_
          rintro _ wz ⟨rfl, tz⟩
          go_wp2
          (try rw [Exit.noGoto_ret])
          go_ret
          exact ⟨rfl, Tr7.trans tz⟩
      subst hv2
      have h64 : -9223372036854775808 ≤ v1 ∧ v1 ≤ 9223372036854775807 := H64.out
      have HO1 := Lib.hid (fun wa (h9 : wd.heap.size ≤ wa.heap.size) => of_any (B := fun g => g ≠ y ∧ g ≠ y) (w := wa) (x := v1) h64.1 h64.2 (fun g hg => by have := tG0.size; omega))
      have y0 : wd.cell? ⟨y, 0, none⟩ = some (.bool sg) := hb7.cell 0
      have y1 : wd.cell? ⟨y, 1, none⟩ = some (.slice D nd cd) := hb7.cell 1
      have X0 := within_cell (F := fun _ => False) y0 id
      have X1 := within_cell (F := fun _ => False) y1 id
      have X2 := within_cell (F := fun _ => False) g0 id
      have HFS := Lib.hid (show (dg S.natAbs).length ≤ 50000 from dg_fits (Nat.le_trans HSB.out (Nat.mul_le_mul_right _ (by omega))))
      have HFV := Lib.hid (show (dg v1.natAbs).length ≤ 50000 from dg_fits (by have h1 := h64.1; have h2 := h64.2; omega))
      have HNB := Lib.hid (show (S + v1).natAbs ≤ (j + 1) * 9223372036854775808 by have h1 := h64.1; have h2 := h64.2; have := HSB.out; omega)
      have hyd := tG0.size
      clear hfx h64
      go_wp2_with fail
      refine wp_region_touch (fun _ => False) [] 4 [(3, .inr fun u w' => BigIs (fun g => g ≠ y ∧ g ≠ y) w' u v1)] [] (by kernel_rfl) rfl (by kernel_rfl) rfl (fun d _ _ _ _ h => by cases d <;> exact h) ?_ ?_
      · exact ⟨fun u a b hr h => h.beside hr (fun _ _ h => h.elim), trivial⟩
      (intro bef ops hbef hops; clear hbef; subst hops; simp only [List.take_succ_cons, List.take_zero, List.drop_succ_cons, List.drop_zero])
      iterate 3 (refine t_det (by rfl) (by rfl) (by rfl) (by rfl) (fun K hK => ?_); go_big_quiet_op; (first | refine hK _ ?_ | refine ⟨_, fun _ => rfl, hK _ ?_⟩); clear hK K; (try simp only [Act.put, List.setIfInBounds_toArray, List.set_cons_succ, List.set_cons_zero]))
      refine t_loose (by rfl) (by rfl) (fun wa hr hf => ?_) (fun dv => ?_)
      · have hs9 := ((Tch.drew (fun _ => False) wd).trans hr).size
        refine yields_of_wp (d := 72) rfl (by simp) (fun K hK => ?_)
        go_step
        refine (HO1.out wa hs9).mono ?_
        rintro _ wb ⟨v', rfl, ho, tb⟩
        exact hK _ _ ⟨⟨ho, tb⟩, newAt_no⟩
      simp only [Act.put, List.setIfInBounds_toArray, List.set_cons_succ, List.set_cons_zero]
      refine t_nil ?_
      intro we hr hp hap
      have hdv := hp (3, fun w' => BigIs (fun g => g ≠ y ∧ g ≠ y) w' dv v1) (List.mem_cons_self ..)
      simp only at hdv
      have te := (Tch.drew _ wd).trans hr
      have HPL := Lib.hid (plus_any (HBD.out.beside te (fun _ _ h => h.elim)) hdv HFS.out HFV.out (fun g hg => by have := te.size; omega))
      have hb8 := hb7.keep te id
      have ht8 := ht7.trans (Exn.touch te)
      have Tr8 := Tr7.trans te
      clear hap hp hr X0 X1 X2 y0 y1 hdv HO1 HBD hb7 ht7 Tr7 te g0 g1 tG0
      go_wp2_with fail
      refine HPL.out.mono ?_
      rintro _ wf ⟨v', rfl, hsum, tf⟩
      obtain ⟨sg2, D2, n2, cd2, rfl⟩ := hsum.form2
      have hb9 := hb8.keep tf id
      have ht9 := ht8.trans (Exn.touch tf)
      have HSU := Lib.hid hsum
      clear HPL hb8 ht8 tf hsum Tr8
      go_wp2_with (refine wpList_store_blk rfl _ _ _ rfl y #[.bool sg2, .slice D2 n2 cd2] (by rfl) (by rfl) hb9 (by kernel_rfl) rfl (by simp [Value.oneCell']) ?_; refine Hid.out ?_)
      refine Lib.hid ?_
      intro wg hbF tF
      have HSA := Lib.hid (show SumAt2 59 y y wg (S + v1) from ⟨sg2, D2, n2, cd2, hbF, HSU.out.beside tF (fun _ hg => hg.1)⟩)
      have htF := ht9.trans tF
      clear hb9 ht9 hbF tF
      have HZN := Lib.hid (show ∀ a ∈ L.take (j + 1), (Vf a).2 = 0 by
        rw [HTK.out]
        intro a ha
        rcases List.mem_append.1 ha with h | h
        · exact HZ.out a h
        · obtain rfl := List.mem_singleton.1 h
          rw [HEX.out])
      have HSN := Lib.hid (show S + v1 = ((L.take (j + 1)).map fun a => (Vf a).1).sum by
        rw [HTK.out, List.map_append, List.sum_append, ← HS.out]
        simp [HEX.out])
      go_wp2
      go_roundw
      case rel => exact ⟨j + 1, S + v1, by omega, by go_num, HZN.out, HSN.out, HNB.out, HSA.out, htF⟩
      case measure => simp [intOf] <;> omega
    · obtain rfl : j = L.length := by omega
      have hlt' : ¬ (L.length : Int) < (L.length : Int) := by omega
      have hz := HZ.out
      have hs := HS.out
      rw [List.take_length] at hz hs
      have hs0 := HSM.out hz
      rw [hs0] at hs
      subst hs
      obtain ⟨dv, hdv, hd⟩ := hbig
      obtain ⟨A0, c0, rfl, _, _⟩ := hd.form
      injection hdv with hdv
      have hd2 : sg = false ∧ D = A0 ∧ nd = (dg (0 : Int).natAbs).length ∧ cd = c0 := by simpa using (show #[Value.bool sg, .slice D nd cd] = #[.bool _, .slice A0 _ c0] from hdv)
      have hn0 : nd = 0 := by rw [hd2.2.2.1]; simp [dg_zero]
      subst hn0
      have y1 : wr.cell? ⟨y, 1, none⟩ = some (.slice D 0 cd) := hb.cell 1
      clear hz hs0 hdv hd2 hd hCr hb
      go_wp2_with fail
      refine (awake32_any wr (HTA.out wr Tr)).mono ?_
      rintro _ wz ⟨rfl, tz⟩
      go_wp2
      (try rw [Exit.noGoto_ret])
      go_ret
      exact ⟨rfl, Tr.trans tz⟩

theorem transplug_row {w : World} {u v : Value} (hT : Tab64 1 w) (hu : ∃ b, BooksIs (fun _ => True) w u b ∧ Bks64 b) (hv : ∃ c : Rt6, v = cellV c ∧ (I64 c.1 ∧ I64 c.2.1 ∧ I64 c.2.2.1 ∧ I64 c.2.2.2.1 ∧ I64 c.2.2.2.2.1 ∧ I64 c.2.2.2.2.2)) :
    Calls Tryz.prog 4 #[u, v] w fun x w' => x = .returned (.bool true) ∧ Tch (fun _ => False) w w' := by
  obtain ⟨b, hb, h64⟩ := hu
  obtain ⟨⟨c1, c2, c3, c4, c5, c6⟩, rfl, _⟩ := hv
  obtain ⟨e, a, s, r, l, n, us, rfl, h⟩ := hb.at
  exact transplug_any h h64 hT c1 c2 c3 c4 c5 c6
end Go.Proofs.YtblenmelciaigaaGreatDoor
