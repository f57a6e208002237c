/-
  TransSame: the walk.
-/
import Derived.Test.YtblenmelciaigaaGreatDoorAw
import Derived.Test.YtblenmelciaigaaGreatDoorZ24
import Derived.Test.YtblenmelciaigaaGreatDoorVx
import Derived.Test.YtblenmelciaigaaGreatDoorTw
import Derived.Test.YtblenmelciaigaaGreatDoorVsm
namespace Go.Proofs.YtblenmelciaigaaGreatDoor
open Go.RowKit Go.Gk Go.Gk.V32

set_option maxRecDepth 100000 in
set_option maxHeartbeats 25600000 in
theorem transsame_any {w : World} {e a s r l n : Value} {b : Bks} {us : List (Ent × Value)} (h : BksAt w e a s r l n b us) (h64 : Bks64 b) (hT : Tab64 1 w) (c1 c2 c3 c4 c5 c6 : Int) :
    Calls Tryz.prog 5 #[.agg #[e, a, s, r, l, n], .agg #[.int .i64 c1, .int .i64 c2, .int .i64 c3, .int .i64 c4, .int .i64 c5, .int .i64 c6]] w fun x w' => x = .returned (.bool true) ∧ Tch (fun _ => False) w w' := by
  have HTA := Lib.hid (fun w' (t9 : Tch (fun _ => False) w w') => hT.keep t9)
  clear hT
  have ta := Tch.alloc (fun _ => False) w (.cells #[e, a, s, r, l, n] 29)
  have tb := Tch.alloc (fun _ => False) (w.alloc (.cells #[e, a, s, r, l, n] 29)) (.cells #[.int .i64 c1, .int .i64 c2, .int .i64 c3, .int .i64 c4, .int .i64 c5, .int .i64 c6] 31)
  have tw := ta.trans tb
  have hbB := (Blk.new w 29 #[e, a, s, r, l, n]).keep tb id
  have hbC := Blk.new2 w (.cells #[e, a, s, r, l, n] 29) 31 #[.int .i64 c1, .int .i64 c2, .int .i64 c3, .int .i64 c4, .int .i64 c5, .int .i64 c6]
  have HF := Lib.hid (few26_any (h.keep tw))
  have HW := Lib.hid (h.keep tw)
  have hsz : ((w.alloc (.cells #[e, a, s, r, l, n] 29)).alloc (.cells #[.int .i64 c1, .int .i64 c2, .int .i64 c3, .int .i64 c4, .int .i64 c5, .int .i64 c6] 31)).heap.size = w.heap.size + 2 := by simp
  obtain ⟨Ae, ce, rfl, _, _⟩ := h.ents.form
  obtain ⟨Aa, ca, rfl, _, _⟩ := h.accs.form
  obtain ⟨As, cs, rfl, _, _⟩ := h.stakes.form
  obtain ⟨Ar, cr, rfl, _, _⟩ := h.rates.form
  obtain ⟨Al, cl, rfl, _, _⟩ := h.locks.form
  obtain ⟨An, cn, rfl, _, _⟩ := h.ent.row.form
  clear ta tb h
  obtain ⟨fw, hfw⟩ : ∃ fw, few26 b = fw := ⟨_, rfl⟩
  rw [hfw] at HF
  go_enter Tryz.func5, Tryz.ntmps5
  go_wp2_with fail
  generalize (w.alloc (.cells #[.slice Ae b.ents.length ce, .slice Aa b.accs.length ca, .slice As b.stakes.length cs, .slice Ar b.rates.length cr, .slice Al b.locks.length cl, .slice An us.length cn] 29)).alloc (.cells #[.int .i64 c1, .int .i64 c2, .int .i64 c3, .int .i64 c4, .int .i64 c5, .int .i64 c6] 31) = W at *
  generalize hzw : w.heap.size = z at *
  have HZW := Lib.hid hzw
  clear hzw
  refine HF.out.mono ?_
  rintro _ w1 ⟨rfl, t1⟩
  clear HF
  have tt1 := tw.trans t1
  have hx1 := hbC.keep t1 id
  have w3c : w1.cell? ⟨z + 1, 3, none⟩ = some (.int .i64 c4) := hx1.cell 3
  cases fw
  · clear hfw w3c
    go_wp2_with fail
    refine (awake32_any w1 (HTA.out w1 tt1)).mono ?_
    rintro _ w2 ⟨rfl, t2⟩
    go_wp2
    go_ret
    exact ⟨rfl, tt1.trans t2⟩
  by_cases h5 : c4 > 5
  · have h5' : (5 : Int) < c4 := h5
    clear hfw
    go_wp2_with fail
    refine (awake32_any _ (HTA.out _ tt1)).mono ?_
    rintro _ wz ⟨rfl, tz⟩
    go_wp2
    go_ret
    exact ⟨rfl, tt1.trans tz⟩
  have h5' : ¬ (5 : Int) < c4 := h5
  have hfew := few26_few hfw
  have hB1 := hbB.keep t1 id
  have hC1 := hbC.keep t1 id
  have h1 := HW.out.keep t1
  have hk1 : z + 2 ≤ w1.heap.size := by have := t1.size; omega
  clear hbB hbC HW tw t1 hfw hsz hx1
  have g0 : w1.cell? ⟨z, 0, none⟩ = some (.slice Ae b.ents.length ce) := hB1.cell 0
  have g1 : w1.cell? ⟨z, 1, none⟩ = some (.slice Aa b.accs.length ca) := hB1.cell 1
  have g2 : w1.cell? ⟨z, 2, none⟩ = some (.slice As b.stakes.length cs) := hB1.cell 2
  have g3 : w1.cell? ⟨z, 3, none⟩ = some (.slice Ar b.rates.length cr) := hB1.cell 3
  have g4 : w1.cell? ⟨z, 4, none⟩ = some (.slice Al b.locks.length cl) := hB1.cell 4
  have g5 : w1.cell? ⟨z, 5, none⟩ = some (.slice An us.length cn) := hB1.cell 5
  go_wp2_with fail
  refine (see_far h1 hfew h64).mono ?_
  rintro _ w2 ⟨hsee, t2⟩
  have tt2 := tt1.trans t2
  rcases hsee with ⟨_, m, rfl, hm⟩ | ⟨hok, bv, bi, B, t, mr, mp, e', a', s', r', l', n', lv, fs, us', rfl, hV, hFar⟩
  · have hm2 : (m != 0) = true := by simpa using hm
    clear g0 g1 g2 g3 g4 g5 hm
    go_wp2_with fail
    refine (awake32_any w2 (HTA.out w2 tt2)).mono ?_
    rintro _ w3 ⟨rfl, t3⟩
    go_wp2
    go_ret
    exact ⟨rfl, tt2.trans t3⟩
  have hk5 : z + 2 ≤ w2.heap.size := Nat.le_trans hk1 t2.size
  have hC2 := hC1.keep t2 id
  clear g0 g1 g2 g3 g4 g5 hB1 hC1 h1 tt1 t2 h5 h5' w3c
  have hn := leaves_few hfew
  have hpo := posts_few hfew
  have hqo := posts_64 h64
  have hrl : b.rates.length ≤ 1000000 := by have := hfew.rates; omega
  have HOK := Lib.hid hok
  clear hfew h64 hok
  have k0 : w2.cell? ⟨z + 1, 0, none⟩ = some (.int .i64 c1) := hC2.cell 0
  have k1 : w2.cell? ⟨z + 1, 1, none⟩ = some (.int .i64 c2) := hC2.cell 1
  have k2 : w2.cell? ⟨z + 1, 2, none⟩ = some (.int .i64 c3) := hC2.cell 2
  have k3 : w2.cell? ⟨z + 1, 3, none⟩ = some (.int .i64 c4) := hC2.cell 3
  have k4 : w2.cell? ⟨z + 1, 4, none⟩ = some (.int .i64 c5) := hC2.cell 4
  have k5 : w2.cell? ⟨z + 1, 5, none⟩ = some (.int .i64 c6) := hC2.cell 5
  have HCU := Lib.hid (vwcurrency_any hV c2)
  have HSI0 := Lib.hid (fun p a => same_is (b := b) (e := c2) (p := p) (a := a) HOK.out)
  have HSP0 := Lib.hid (fun p => same_plug (b := b) (e := c2) (p := p) HOK.out)
  have HBP0 := Lib.hid (fun p u a => bal_proper (b := b) (e := c2) (p := p) (u := u) (a := a) HOK.out)
  generalize curOf b c2 = cu at *
  go_wp2_with fail
  refine HCU.out.mono ?_
  rintro _ _ ⟨rfl, rfl⟩
  clear HCU k0 k1 k2 k3 k4 k5
  go_wp2_with (refine wpList_store_cell rfl _ _ _ rfl (z + 1) 4 (.int .i64 cu) (by rfl) (by rfl) rfl (by rfl) hC2 (by simp) ?_; refine Hid.out ?_)
  refine Lib.hid ?_
  intro w5 hC5 ts3
  (try simp only [List.setIfInBounds_toArray, List.set_cons_succ, List.set_cons_zero] at hC5)
  have tt5 := tt2.trans' ts3 (fun i hi => .inr (by have hi : i = z + 1 := hi; have := HZW.out; omega))
  obtain ⟨us5, hV5⟩ := hFar.view hV ts3 (fun g hg => by have hg : g = z + 1 := hg; omega)
  have HOF := Lib.hid (fun x w' => of32_any c1 c2 c3 c4 cu c6 x w')
  clear hV hFar hC2 ts3 tt2
  have k0 : w5.cell? ⟨z + 1, 0, none⟩ = some (.int .i64 c1) := hC5.cell 0
  have k1 : w5.cell? ⟨z + 1, 1, none⟩ = some (.int .i64 c2) := hC5.cell 1
  have k2 : w5.cell? ⟨z + 1, 2, none⟩ = some (.int .i64 c3) := hC5.cell 2
  have k3 : w5.cell? ⟨z + 1, 3, none⟩ = some (.int .i64 c4) := hC5.cell 3
  have k4 : w5.cell? ⟨z + 1, 4, none⟩ = some (.int .i64 cu) := hC5.cell 4
  have k5 : w5.cell? ⟨z + 1, 5, none⟩ = some (.int .i64 c6) := hC5.cell 5
  go_wp2_with fail
  refine (HOF.out 1 w5).mono ?_
  rintro _ w6 ⟨rfl, t6⟩
  have HMY := Lib.hid (vwmay_any (hV5.keep t6) (trC c2 c4 cu 1))
  unfold trC cellV at HMY
  simp only at HMY
  have HIN := Lib.hid (show ∀ m, cellIn (3, c2, 1, c4, cu, 0) b.ents.length b.accs.length = m → cellIn (trC c2 c4 cu 1) b.ents.length b.accs.length = m from fun _ h => h)
  generalize hci : cellIn (3, c2, 1, c4, cu, 0) b.ents.length b.accs.length = ci at *
  have hC6 := hC5.keep t6 id
  have tt6 := tt5.trans t6
  have hV6 := hV5.keep t6
  have HCI := Lib.hid (HIN.out ci rfl)
  clear k0 k1 k2 k3 k4 k5 hC5 hV5 hci HIN
  go_wp2_with fail
  refine HMY.out.mono ?_
  rintro _ w7 ⟨rfl, t7⟩
  have hC7 := hC6.keep t7 id
  have tt7 := tt6.trans t7
  have hV7 := hV6.keep t7
  clear HMY t6 hC6 tt6 hV6 t7 tt5
  by_cases hc0 : ci = 0
  rotate_left
  · have hcb : (ci != 0) = true := by simpa using hc0
    clear hc0 hC7 hV7
    go_wp2_with fail
    refine (awake32_any w7 (HTA.out w7 tt7)).mono ?_
    rintro _ wz ⟨rfl, tz⟩
    go_wp2
    (try rw [Exit.noGoto_ret])
    go_ret
    exact ⟨rfl, tt7.trans tz⟩
  subst hc0
  have HLV := Lib.hid (vwleaves_any hV7 hn)
  go_wp2_with fail
  refine HLV.out.mono ?_
  rintro _ w8 ⟨u, rfl, hO⟩
  have hC8 := hC7.keep hO.tch id
  have tt8 := tt7.trans hO.tch
  have HV8 := Lib.hid (fun w' (t9 : Tch (fun _ => False) w8 w') => hV7.keep (hO.tch.trans t9))
  have HSI := Lib.hid (fun a (ha : a ∈ accLeaves b.accs) h1 => HSI0.out c4 a HCI.out (by omega) (leaves_iff.1 ha) h1)
  have HSP := Lib.hid (HSP0.out c4 HCI.out (by omega))
  have hlen : (accLeaves b.accs).length ≤ 1000 := hn
  obtain ⟨Vf, hVf⟩ : ∃ Vf : Int → Vl, (fun a => valD b 20 (trC c2 c4 cu a)) = Vf := ⟨_, rfl⟩
  have HVE : ∀ a, valD b 20 (trC c2 c4 cu a) = Vf a := fun a => by rw [← hVf]
  obtain ⟨Bf, hBf⟩ : ∃ Bf : Int → Vl, (fun a => valD b 20 (balC c2 c4 a)) = Bf := ⟨_, rfl⟩
  have HBE : ∀ a, valD b 20 (balC c2 c4 a) = Bf a := fun a => by rw [← hBf]
  have HVA := Lib.hid (fun w' (t9 : Tch (fun _ => False) w8 w') (ht9 : Tch (fun _ => False) w w') a => show Calls Tryz.prog 16 #[.pointer (some ⟨bv, 0, none⟩), .agg #[.int .i64 3, .int .i64 c2, .int .i64 a, .int .i64 c4, .int .i64 cu, .int .i64 0], .int .i64 20] w' (fun y w'' => y = .returned (vlV (Vf a)) ∧ Tch (fun _ => False) w' w'') by rw [← HVE a]; exact value32_any hn hrl hpo hqo 20 w' 20 (by omega) (HV8.out w' t9) (HTA.out w' ht9) 3 c2 a c4 cu 0)
  have HVB := Lib.hid (fun w' (t9 : Tch (fun _ => False) w8 w') (ht9 : Tch (fun _ => False) w w') a => show Calls Tryz.prog 16 #[.pointer (some ⟨bv, 0, none⟩), .agg #[.int .i64 2, .int .i64 c2, .int .i64 a, .int .i64 c4, .int .i64 0, .int .i64 0], .int .i64 20] w' (fun y w'' => y = .returned (vlV (Bf a)) ∧ Tch (fun _ => False) w' w'') by rw [← HBE a]; exact value32_any hn hrl hpo hqo 20 w' 20 (by omega) (HV8.out w' t9) (HTA.out w' ht9) 2 c2 a c4 0 0)
  simp only [HVE, HBE] at HSI HSP
  clear HLV hC7 tt7 hV7 hVf HVE hBf HBE hn hrl hpo hqo HOK HCI HSI0 HSP0 HBP0 HV8
  generalize accLeaves b.accs = L at *
  have hl := hO.row
  have HROW := Lib.hid (fun wr (ht : Tch (fun _ => False) w8 wr) => hl.keep ht)
  obtain ⟨U, cu9, rfl, hu1, hu2⟩ := hO.form
  have hln : (L.length : Int) ≤ 1000 := by omega
  clear hl hO
  go_wp2_with fail
  go_loopw [8, 9] (fun bd i wr => ∃ (j : Nat) (bb : Bool), j ≤ L.length ∧ bd = .bool bb ∧ i = .int .i64 j ∧ (bb = false → ∀ a ∈ L.take j, (Bf a).2 = 0) ∧ Tch (fun _ => False) w8 wr) (fun _ i _ => L.length - (intOf i).toNat)
  case atStart => exact ⟨0, false, Nat.zero_le _, rfl, rfl, (fun _ a ha => by rw [List.take_zero] at ha; cases ha), Tch.refl _ _⟩
  case round =>
    obtain ⟨j, bb, hj, rfl, rfl, hz, ht⟩ := hrel
    have HZ := Lib.hid hz
    have hj0 : (0 : Int) ≤ (j : Int) := Int.natCast_nonneg _
    have hCr := hC8.keep ht id
    have Tr := tt8.trans ht
    clear hz
    by_cases hlt : j < L.length
    · have hlt' : (j : Int) < (L.length : Int) := by omega
      have hl9 := HROW.out wr ht
      obtain ⟨g, o9, rfl⟩ := hl9.head (by omega)
      have q0 := Row.one hl9 int1_len hlt rfl
      have HRK := Lib.hid (fun w' (t9 : Tch (fun _ => False) wr w') => (hl9.keep t9))
      have HTK := Lib.hid (show L.take (j + 1) = L.take j ++ [L[j]] from List.take_succ_eq_append_getElem hlt)
      have HSX := Lib.hid (fun (h1 : L[j] ≠ 1) => HSI.out L[j] (List.getElem_mem hlt) h1)
      have HQK := Lib.hid (fun w' (t9 : Tch (fun _ => False) wr w') => t9.cell_some q0 id)
      generalize L[j] = x at *
      have HVX := Lib.hid (fun w' t9 ht9 => HVA.out w' t9 ht9 x)
      have HBX := Lib.hid (fun w' t9 ht9 => HVB.out w' t9 ht9 x)
      generalize hvx : Vf x = vx at *
      obtain ⟨v1, v2⟩ := vx
      generalize hbx : Bf x = bx at *
      have HEB := Lib.hid hbx
      obtain ⟨u1, u2⟩ := bx
      unfold vlV at HVX HBX
      simp only at HVX HBX
      have k0 : wr.cell? ⟨z + 1, 0, none⟩ = some (.int .i64 c1) := hCr.cell 0
      have k1 : wr.cell? ⟨z + 1, 1, none⟩ = some (.int .i64 c2) := hCr.cell 1
      have k2 : wr.cell? ⟨z + 1, 2, none⟩ = some (.int .i64 c3) := hCr.cell 2
      have k3 : wr.cell? ⟨z + 1, 3, none⟩ = some (.int .i64 c4) := hCr.cell 3
      have k4 : wr.cell? ⟨z + 1, 4, none⟩ = some (.int .i64 cu) := hCr.cell 4
      have k5 : wr.cell? ⟨z + 1, 5, none⟩ = some (.int .i64 c6) := hCr.cell 5
      have X0 := within_cell (F := fun _ => False) k0 id
      have X1 := within_cell (F := fun _ => False) k1 id
      have X2 := within_cell (F := fun _ => False) k2 id
      have X3 := within_cell (F := fun _ => False) k3 id
      have X4 := within_cell (F := fun _ => False) k4 id
      have X5 := within_cell (F := fun _ => False) k5 id
      have X6 := within_cell (F := fun _ => False) q0 id
      clear hl9 hvx hbx HRK
      go_wp2_with fail
      refine wp_region_touch (fun _ => False) [] 9 [(6, .inl (.agg #[.int .i64 3, .int .i64 c2, .int .i64 x, .int .i64 c4, .int .i64 cu, .int .i64 0])), (7, .inl (.agg #[.int .i64 v1, .int .i64 v2])), (8, .inr fun u w' => ∃ g, u = .pointer (some ⟨g, 0, none⟩) ∧ wr.heap.size ≤ g ∧ Blk w' g 39 #[.int .i64 0, .int .i64 0])] [] (by kernel_rfl) rfl (by kernel_rfl) rfl (fun d _ _ _ _ h => by cases d <;> exact h) ?_ ?_
      · exact ⟨fun _ _ _ hr ⟨g, h1, h2, h3⟩ => ⟨g, h1, h2, h3.keep hr id⟩, trivial⟩
      (intro bef ops hbef hops; clear hbef; subst hops; simp only [List.take_succ_cons, List.take_zero, List.drop_succ_cons, List.drop_zero])
      iterate 6 (refine t_det (by rfl) (by rfl) (by rfl) (by rfl) (fun K hK => ?_); go_big_quiet_op; (first | refine hK _ ?_ | refine ⟨_, fun _ => rfl, hK _ ?_⟩); clear hK K; (try simp only [Act.put, List.setIfInBounds_toArray, List.set_cons_succ, List.set_cons_zero]))
      refine t_fix (.agg #[.int .i64 3, .int .i64 c2, .int .i64 x, .int .i64 c4, .int .i64 cu, .int .i64 0]) (by rfl) (by rfl) (fun wa hr hf => ?_) ?_
      · refine yields_of_wp (d := 59) rfl (by simp) (fun K hK => ?_)
        go_step
        refine (HOF.out x wa).mono ?_
        rintro _ wb ⟨rfl, tb⟩
        exact hK _ _ ⟨⟨rfl, tb⟩, newAt_no⟩
      simp only [Act.put, List.setIfInBounds_toArray, List.set_cons_succ, List.set_cons_zero]
      refine t_fix (.agg #[.int .i64 v1, .int .i64 v2]) (by rfl) (by rfl) (fun wa hr hf => ?_) ?_
      · refine yields_of_wp (d := 60) rfl (by simp) (fun K hK => ?_)
        have t9 := (Tch.drew (fun _ => False) wr).trans hr
        go_step
        refine (HVX.out wa (ht.trans t9) (Tr.trans t9)).mono ?_
        rintro _ wb ⟨rfl, tb⟩
        exact hK _ _ ⟨⟨rfl, tb⟩, newAt_no⟩
      simp only [Act.put, List.setIfInBounds_toArray, List.set_cons_succ, List.set_cons_zero]
      refine t_loose (by rfl) (by rfl) (fun wa hr hf => ?_) (fun u => ?_)
      · have hs9 := ((Tch.drew (fun _ => False) wr).trans hr).size
        refine yields_of_wp (d := 10) rfl (by simp) (fun K hK => ?_)
        go_step
        exact hK _ _ ⟨⟨⟨_, rfl, hs9, Blk.new _ _ _⟩, Tch.alloc _ _ _⟩, newAt_no⟩
      simp only [Act.put, List.setIfInBounds_toArray, List.set_cons_succ, List.set_cons_zero]
      refine t_nil ?_
      intro wc hr hp hap
      obtain ⟨gq, rfl, hgl, hgq⟩ := hp _ (List.Mem.head _)
      have t6 := (Tch.drew (fun _ => False) wr).trans hr
      clear hap hp hr k0 k1 k2 k3 k4 k5 X0 X1 X2 X3 X4 X5 X6 q0 HVX
      go_wp2_with (refine wpList_store_blk rfl _ _ _ rfl gq #[.int .i64 v1, .int .i64 v2] (by rfl) (by rfl) hgq (by kernel_rfl) rfl (by simp [Value.oneCell']) ?_; refine Hid.out ?_)
      refine Lib.hid ?_
      intro wd hG tG
      have tG0 : Tch (fun _ => False) wr wd := t6.trans' tG (fun i hi => .inr (by have hi : i = gq := hi; omega))
      have hCd := hCr.keep tG0 id
      have htd := ht.trans tG0
      have Trd := Tr.trans tG0
      have q0 := HQK.out wd tG0
      have k0 : wd.cell? ⟨z + 1, 0, none⟩ = some (.int .i64 c1) := hCd.cell 0
      have k1 : wd.cell? ⟨z + 1, 1, none⟩ = some (.int .i64 c2) := hCd.cell 1
      have k2 : wd.cell? ⟨z + 1, 2, none⟩ = some (.int .i64 c3) := hCd.cell 2
      have k3 : wd.cell? ⟨z + 1, 3, none⟩ = some (.int .i64 c4) := hCd.cell 3
      have k4 : wd.cell? ⟨z + 1, 4, none⟩ = some (.int .i64 cu) := hCd.cell 4
      have k5 : wd.cell? ⟨z + 1, 5, none⟩ = some (.int .i64 c6) := hCd.cell 5
      have X0 := within_cell (F := fun _ => False) k0 id
      have X1 := within_cell (F := fun _ => False) k1 id
      have X2 := within_cell (F := fun _ => False) k2 id
      have X3 := within_cell (F := fun _ => False) k3 id
      have X4 := within_cell (F := fun _ => False) k4 id
      have X5 := within_cell (F := fun _ => False) k5 id
      have X6 := within_cell (F := fun _ => False) q0 id
      clear hgq tG t6
      go_wp2_with fail
      refine wp_region_touch (fun _ => False) [] 12 [(10, .inl (.agg #[.int .i64 u1, .int .i64 u2])), (11, .inr fun u w' => ∃ g, u = .pointer (some ⟨g, 0, none⟩) ∧ wd.heap.size ≤ g ∧ Blk w' g 39 #[.int .i64 0, .int .i64 0])] [] (by kernel_rfl) rfl (by kernel_rfl) rfl (fun d _ _ _ _ h => by cases d <;> exact h) ?_ ?_
      · exact ⟨fun _ _ _ hr ⟨g, h1, h2, h3⟩ => ⟨g, h1, h2, h3.keep hr id⟩, trivial⟩
      (intro bef ops hbef hops; clear hbef; subst hops; simp only [List.take_succ_cons, List.take_zero, List.drop_succ_cons, List.drop_zero])
      iterate 10 (refine t_det (by rfl) (by rfl) (by rfl) (by rfl) (fun K hK => ?_); go_big_quiet_op; (first | refine hK _ ?_ | refine ⟨_, fun _ => rfl, hK _ ?_⟩); clear hK K; (try simp only [Act.put, List.setIfInBounds_toArray, List.set_cons_succ, List.set_cons_zero]))
      refine t_fix (.agg #[.int .i64 u1, .int .i64 u2]) (by rfl) (by rfl) (fun wa hr hf => ?_) ?_
      · refine yields_of_wp (d := 71) rfl (by simp) (fun K hK => ?_)
        have t9 := (Tch.drew (fun _ => False) wd).trans hr
        go_step
        refine (HBX.out wa (htd.trans t9) (Trd.trans t9)).mono ?_
        rintro _ wb ⟨rfl, tb⟩
        exact hK _ _ ⟨⟨rfl, tb⟩, newAt_no⟩
      simp only [Act.put, List.setIfInBounds_toArray, List.set_cons_succ, List.set_cons_zero]
      refine t_loose (by rfl) (by rfl) (fun wa hr hf => ?_) (fun u => ?_)
      · have hs9 := ((Tch.drew (fun _ => False) wd).trans hr).size
        refine yields_of_wp (d := 11) rfl (by simp) (fun K hK => ?_)
        go_step
        exact hK _ _ ⟨⟨⟨_, rfl, hs9, Blk.new _ _ _⟩, Tch.alloc _ _ _⟩, newAt_no⟩
      simp only [Act.put, List.setIfInBounds_toArray, List.set_cons_succ, List.set_cons_zero]
      refine t_nil ?_
      intro we hr hp hap
      obtain ⟨gr, rfl, hrl9, hgr⟩ := hp _ (List.Mem.head _)
      have t7 := (Tch.drew (fun _ => False) wd).trans hr
      have hG7 := hG.keep t7 id
      have hgd := hG.lt
      clear hap hp hr k0 k1 k2 k3 k4 k5 X0 X1 X2 X3 X4 X5 X6 q0 HBX hG
      go_wp2_with (refine wpList_store_blk rfl _ _ _ rfl gr #[.int .i64 u1, .int .i64 u2] (by rfl) (by rfl) hgr (by kernel_rfl) rfl (by simp [Value.oneCell']) ?_; refine Hid.out ?_)
      refine Lib.hid ?_
      intro wf hR tR
      have tR0 : Tch (fun _ => False) wd wf := t7.trans' tR (fun i hi => .inr (by have hi : i = gr := hi; omega))
      have hG8 := hG7.keep tR (by omega)
      have htf := htd.trans tR0
      have q0 := HQK.out wf (tG0.trans tR0)
      have g0 : wf.cell? ⟨gq, 0, none⟩ = some (.int .i64 v1) := hG8.cell 0
      have g1 : wf.cell? ⟨gq, 1, none⟩ = some (.int .i64 v2) := hG8.cell 1
      have r0 : wf.cell? ⟨gr, 0, none⟩ = some (.int .i64 u1) := hR.cell 0
      have r1 : wf.cell? ⟨gr, 1, none⟩ = some (.int .i64 u2) := hR.cell 1
      clear hgr hG7 tR t7 hG8 hR htd Trd tR0 tG0 hCd hCr Tr ht HQK
      have HEBB := Lib.hid (show ∀ bn : Bool, (bn = false → bb = false ∧ u2 = 0) → bn = false → ∀ a ∈ L.take (j + 1), (Bf a).2 = 0 by
        intro bn h1 h2 a ha
        rw [HTK.out] at ha
        rcases List.mem_append.1 ha with h | h
        · exact HZ.out (h1 h2).1 a h
        · obtain rfl := List.mem_singleton.1 h
          rw [HEB.out]
          exact (h1 h2).2)
      by_cases hx1 : x = 1
      · have hx1b : (x != 1) = false := by simpa using hx1
        clear hx1
        cases bb
        · by_cases hu2 : u2 = 0
          · subst hu2
            go_wp2
            go_roundw
            case rel => exact ⟨j + 1, false, by omega, rfl, by go_num, HEBB.out false (fun _ => ⟨rfl, rfl⟩), htf⟩
            case measure => simp [intOf] <;> omega
          · have hu2b : (u2 != 0) = true := by simpa using hu2
            clear hu2
            go_wp2
            go_roundw
            case rel => exact ⟨j + 1, true, by omega, rfl, by go_num, HEBB.out true (fun h => by cases h), htf⟩
            case measure => simp [intOf] <;> omega
        · go_wp2
          go_roundw
          case rel => exact ⟨j + 1, true, by omega, rfl, by go_num, HEBB.out true (fun h => by cases h), htf⟩
          case measure => simp [intOf] <;> omega
      have hx1b : (x != 1) = true := by simpa using hx1
      have hse := HSX.out hx1
      injection hse with hs1 hs2
      subst hs1 hs2
      clear hx1
      cases bb
      · by_cases hu2 : v2 = 0
        · subst hu2
          go_wp2
          go_roundw
          case rel => exact ⟨j + 1, false, by omega, rfl, by go_num, HEBB.out false (fun _ => ⟨rfl, rfl⟩), htf⟩
          case measure => simp [intOf] <;> omega
        · have hu2b : (v2 != 0) = true := by simpa using hu2
          clear hu2
          go_wp2
          go_roundw
          case rel => exact ⟨j + 1, true, by omega, rfl, by go_num, HEBB.out true (fun h => by cases h), htf⟩
          case measure => simp [intOf] <;> omega
      · go_wp2
        go_roundw
        case rel => exact ⟨j + 1, true, by omega, rfl, by go_num, HEBB.out true (fun h => by cases h), htf⟩
        case measure => simp [intOf] <;> omega
    · obtain rfl : j = L.length := by omega
      have hlt' : ¬ (L.length : Int) < (L.length : Int) := by omega
      have hz := HZ.out
      rw [List.take_length] at hz
      have HZF := Lib.hid (fun h9 => HSP.out (hz h9))
      have HVP := Lib.hid (HVA.out)
      clear hz
      have k0 : wr.cell? ⟨z + 1, 0, none⟩ = some (.int .i64 c1) := hCr.cell 0
      have k1 : wr.cell? ⟨z + 1, 1, none⟩ = some (.int .i64 c2) := hCr.cell 1
      have k2 : wr.cell? ⟨z + 1, 2, none⟩ = some (.int .i64 c3) := hCr.cell 2
      have k3 : wr.cell? ⟨z + 1, 3, none⟩ = some (.int .i64 c4) := hCr.cell 3
      have k4 : wr.cell? ⟨z + 1, 4, none⟩ = some (.int .i64 cu) := hCr.cell 4
      have k5 : wr.cell? ⟨z + 1, 5, none⟩ = some (.int .i64 c6) := hCr.cell 5
      go_wp2_with fail
      refine (HOF.out 1 wr).mono ?_
      rintro _ wa ⟨rfl, ta⟩
      have HV1 := Lib.hid (HVP.out wa (ht.trans ta) (Tr.trans ta) 1)
      generalize Vf 1 = pv at *
      obtain ⟨pv1, pv2⟩ := pv
      unfold vlV at HV1
      simp only at HV1
      clear k0 k1 k2 k3 k4 k5
      go_wp2_with fail
      refine HV1.out.mono ?_
      rintro _ wb ⟨rfl, tb⟩
      have tP := Tch.alloc (fun _ => False) wb (.cells #[.int .i64 pv1, .int .i64 pv2] 39)
      have bP := Blk.new wb 39 #[.int .i64 pv1, .int .i64 pv2]
      have Tb := (Tr.trans ta).trans (tb.trans tP)
      have p0 : (wb.alloc (.cells #[.int .i64 pv1, .int .i64 pv2] 39)).cell? ⟨wb.heap.size, 0, none⟩ = some (.int .i64 pv1) := bP.cell 0
      have p1 : (wb.alloc (.cells #[.int .i64 pv1, .int .i64 pv2] 39)).cell? ⟨wb.heap.size, 1, none⟩ = some (.int .i64 pv2) := bP.cell 1
      clear HV1 hCr Tr ta tb tP bP
      cases bb
      · have hpz := HZF.out rfl
        injection hpz with h1 h2
        subst h1 h2
        go_wp2_with fail
        refine (awake32_any _ (HTA.out _ Tb)).mono ?_
        rintro _ wz ⟨rfl, tz⟩
        go_wp2
        (try rw [Exit.noGoto_ret])
        go_ret
        exact ⟨rfl, Tb.trans tz⟩
      · go_wp2_with fail
        refine (awake32_any _ (HTA.out _ Tb)).mono ?_
        rintro _ wz ⟨rfl, tz⟩
        go_wp2
        (try rw [Exit.noGoto_ret])
        go_ret
        exact ⟨rfl, Tb.trans tz⟩

theorem transsame_row {w : World} {u v : Value} (hT : Tab64 1 w) (hu : ∃ b, BooksIs (fun _ => True) w u b ∧ Bks64 b) (hv : ∃ c : Rt6, v = cellV c ∧ (I64 c.1 ∧ I64 c.2.1 ∧ I64 c.2.2.1 ∧ I64 c.2.2.2.1 ∧ I64 c.2.2.2.2.1 ∧ I64 c.2.2.2.2.2)) :
    Calls Tryz.prog 5 #[u, v] w fun x w' => x = .returned (.bool true) ∧ Tch (fun _ => False) w w' := by
  obtain ⟨b, hb, h64⟩ := hu
  obtain ⟨⟨c1, c2, c3, c4, c5, c6⟩, rfl, _⟩ := hv
  obtain ⟨e, a, s, r, l, n, us, rfl, h⟩ := hb.at
  exact transsame_any h h64 hT c1 c2 c3 c4 c5 c6
end Go.Proofs.YtblenmelciaigaaGreatDoor
