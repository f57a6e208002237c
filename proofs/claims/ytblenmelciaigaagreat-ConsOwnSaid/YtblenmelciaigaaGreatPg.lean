/-
  Pairs that meet at a node.
-/
import Derived.Test.YtblenmelciaigaaGreatFw
import Derived.Test.YtblenmelciaigaaGreatPf
import Derived.Test.YtblenmelciaigaaGreatZ24
namespace Go.Gk.V33
def f2 (q : Int × Int) : List Value := [.int .i64 q.1, .int .i64 q.2]
theorem f2_len : ∀ q, (f2 q).length = 2 := fun _ => rfl
theorem f2_one (q : Int × Int) : ∀ u ∈ f2 q, u.oneCell' = true := fun u hu => by
  simp [f2] at hu
  rcases hu with rfl | rfl <;> rfl
end Go.Gk.V33
namespace Go.Proofs.YtblenmelciaigaaGreat
open Go.RowKit Go.Gk Go.Gk.V33

theorem rowP2 : RowTy Tryz.prog 149 148 (.agg #[.int .i64 0, .int .i64 0]) 2 16 := ⟨Tryz.underlying149, by kernel_rfl, rfl, by decide⟩

set_option maxRecDepth 100000 in
set_option maxHeartbeats 1600000 in
theorem pmeet_any {w : World} {g n : Nat} {l : List Stk4} {p : Nat} (h : Blk w g 141 (holdsCells l n p n).toArray) (h40 : n ≤ 40) (hok : stakesOK l n = true) (h400 : l.length ≤ 400) (hp : p < 24) {z1 z2 : Nat} {node : Int} (h1 : w.cell? ⟨z1, 0, none⟩ = some (.pointer (some ⟨g, 0, none⟩))) (h2 : w.cell? ⟨z2, 0, none⟩ = some (.int .i64 node)) (a b : Int) (ha : 1 ≤ a ∧ a ≤ n) (hb : 1 ≤ b ∧ b ≤ n) :
    Calls Tryz.prog 103 #[.int .i64 a, .int .i64 b, .pointer (some ⟨z1, 0, none⟩), .pointer (some ⟨z2, 0, none⟩)] w fun e w' => e = .returned (.bool (meetOf l p a b == node)) ∧ Tch (fun _ => False) w w' := by
  have HM := Lib.hid (fun w' (t : Tch (fun _ => False) w w') => fmeet_any (h.keep t id) h40 hok h400 hp a b)
  simp only [if_pos (show (1 ≤ a ∧ a ≤ (n : Int)) ∧ (1 ≤ b ∧ b ≤ (n : Int)) from ⟨ha, hb⟩)] at HM
  generalize meetOf l p a b = m at *
  have y1 := within_cell (F := fun _ => False) h1 id
  have y2 := within_cell (F := fun _ => False) h2 id
  clear h h1 h2 ha hb
  go_enter Tryz.func103, Tryz.ntmps103
  go_wp2_with fail
  refine wp_region_touch (fun _ => False) [] 5 [(3, .inl (.int .i64 m))] [] (by kernel_rfl) rfl (by kernel_rfl) rfl (fun d _ _ _ _ h => by cases d <;> exact h) ?_ ?_
  · exact trivial
  (intro bef ops hbef hops; clear hbef; subst hops; simp only [List.take_succ_cons, List.take_zero, List.drop_succ_cons, List.drop_zero])
  iterate 3 (refine t_det (by rfl) (by rfl) (by rfl) (by rfl) (fun K hK => ?_); go_big_quiet_op; (first | refine hK _ ?_ | refine ⟨_, fun _ => rfl, hK _ ?_⟩); clear hK K; (try simp only [Act.put, List.setIfInBounds_toArray, List.set_cons_succ, List.set_cons_zero]))
  refine t_fix (.int .i64 m) (by rfl) (by rfl) (fun w2 hr hf => ?_) ?_
  · refine yields_of_wp (d := 10) rfl (by simp) (fun K hK => ?_)
    go_step
    refine (HM.out w2 ((Tch.drew _ w).trans hr)).mono ?_
    rintro _ w3 ⟨rfl, t3⟩
    exact hK _ _ ⟨⟨rfl, t3⟩, newAt_no⟩
  simp only [Act.put, List.setIfInBounds_toArray, List.set_cons_succ, List.set_cons_zero]
  iterate 1 (refine t_det (by rfl) (by rfl) (by rfl) (by rfl) (fun K hK => ?_); go_big_quiet_op; (first | refine hK _ ?_ | refine ⟨_, fun _ => rfl, hK _ ?_⟩); clear hK K; (try simp only [Act.put, List.setIfInBounds_toArray, List.set_cons_succ, List.set_cons_zero]))
  refine t_nil ?_
  intro w2 hr hp1 hap
  have t2 := (Tch.drew (fun _ => False) w).trans hr
  clear hap hp1 hr y1 y2 HM
  go_wp2
  go_ret
  exact ⟨rfl, t2⟩

section
variable {w : World} {bv bi B t mr mp : Nat} {e a s r l n lv : Value} {fs : List Value} {b : Bks} {us : List (Ent × Value)}

set_option maxRecDepth 100000 in
set_option maxHeartbeats 6400000 in
theorem pairsof_any (h : Vw w bv bi B t mr mp e a s r l n lv fs b us) (hpo : (posts b.entries).length ≤ 10000) (hok : booksOK b = true) {p : Nat} (hp : p < 24) (node acc : Int) (hnode : 1 ≤ node ∧ node ≤ b.ents.length) :
    Calls Tryz.prog 73 #[.pointer (some ⟨bv, 0, none⟩), .int .i64 node, .int .i64 acc, .int .i64 (p : Int)] w fun x w' => ∃ (u : Value) (xs : List (Int × Int)), x = .returned u ∧ Outs f2 2 148 w w' u xs ∧ xs.length ≤ 1600 ∧ (Lone b p node → xs = []) := by
  obtain ⟨g, hg, hbg⟩ := h.forests p hp
  obtain ⟨h40, h400, hst⟩ := ok_stakes hok
  have ta := Tch.alloc (fun _ => False) w (.cells #[.int .i64 node] 3)
  have tb := Tch.alloc (fun _ => False) (w.alloc (.cells #[.int .i64 node] 3)) (.cells #[.pointer (some ⟨g, 0, none⟩)] 49)
  have tw := ta.trans tb
  have bN := (Blk.new w 3 #[.int .i64 node]).keep tb id
  have bF := Blk.new2 w (.cells #[.int .i64 node] 3) 49 #[.pointer (some ⟨g, 0, none⟩)]
  have HFO := Lib.hid (vwforest_at (h.keep ta) hp hg)
  have HUN := Lib.hid (fUnder_any (hbg.keep tw id) h40 hst h400 hp hnode)
  have HPM := Lib.hid (fun w' (t9 : Tch (fun _ => False) _ w') x y hx hy => pmeet_any ((hbg.keep tw id).keep t9 id) h40 hst h400 hp (t9.cell_some (bF.cell 0) id) (t9.cell_some (bN.cell 0) id) x y hx hy)
  have HPA := Lib.hid (fun w' (t9 : Tch (fun _ => False) w w') ent => vwpart_any (h.keep t9) hpo ent acc (p : Int))
  have HPF := Lib.hid (fun ent (zs : List Int) hn hm => parts_few (e := ent) (a := acc) (p := (p : Int)) (zs := zs) hok hn hm)
  have HLO := Lib.hid (fun (hl : Lone b p node) x q (hq : 1 ≤ q ∧ q ≤ (b.ents.length : Int)) (hne : q ≠ node) => meet_lone hst hnode.1 hl (a := x) hq hne)
  have HUL := Lib.hid (fun (hl : Lone b p node) x (hx : 1 ≤ x ∧ x ≤ (b.ents.length : Int)) (hu : underOf b.stakes p node x = true) => show x = node by
    by_cases e9 : x = node
    · exact e9
    · rw [under_lone hst hl hx e9] at hu; cases hu)
  generalize underOf b.stakes (p : Int) node = UN at *
  generalize hMF : (fun x q => meetOf b.stakes (p : Int) x q) = MF at *
  have HMF : ∀ x q, meetOf b.stakes (p : Int) x q = MF x q := fun x q => by rw [← hMF]
  simp only [HMF] at HPM HLO
  have hsz : ((w.alloc (.cells #[.int .i64 node] 3)).alloc (.cells #[.pointer (some ⟨g, 0, none⟩)] 49)).heap.size = w.heap.size + 2 := by simp
  have f0 : ((w.alloc (.cells #[.int .i64 node] 3)).alloc (.cells #[.pointer (some ⟨g, 0, none⟩)] 49)).cell? ⟨w.heap.size + 1, 0, none⟩ = some (.pointer (some ⟨g, 0, none⟩)) := bF.cell 0
  have f1 : ((w.alloc (.cells #[.int .i64 node] 3)).alloc (.cells #[.pointer (some ⟨g, 0, none⟩)] 49)).cell? ⟨w.heap.size, 0, none⟩ = some (.int .i64 node) := bN.cell 0
  have HTW := Lib.hid tw
  clear ta tb h hbg hMF HMF bN bF tw
  go_enter Tryz.func73, Tryz.ntmps73
  go_wp2_with fail
  refine HFO.out.mono ?_
  rintro _ _ ⟨rfl, rfl⟩
  clear HFO
  go_wp2_with fail
  refine HUN.out.mono ?_
  rintro _ w1 ⟨u, rfl, hU⟩
  have HR := Lib.hid (fun w' (t9 : Tch (fun _ => False) w1 w') => hU.row.keep t9)
  have T1 := HTW.out.trans hU.tch
  have t1 := hU.tch
  obtain ⟨O, co, rfl, ho1, ho2⟩ := hU.form
  have HEI := Lib.hid (show ∀ x ∈ (accIds b.ents.length).filter UN, (1 ≤ x ∧ x ≤ (b.ents.length : Int)) ∧ UN x = true from fun x hx => ⟨ids_iff.1 (List.mem_filter.1 hx).1, (List.mem_filter.1 hx).2⟩)
  have hel : ((accIds b.ents.length).filter UN).length ≤ 40 := Nat.le_trans (List.length_filter_le _ _) (by rw [accIds_len]; exact h40)
  generalize (accIds b.ents.length).filter UN = L at *
  clear HUN f0 f1 hU
  go_wp2_with fail
  go_loopw [11, 26] (fun o i wr => ∃ (j : Nat) (xs : List (Int × Int)), j ≤ L.length ∧ i = .int .i64 (j : Int) ∧ xs.length ≤ 40 * j ∧ (Lone b p node → xs = []) ∧ Outs f2 2 148 w1 wr o xs) (fun _ i _ => L.length - (intOf i).toNat)
  case atStart => exact ⟨0, [], Nat.zero_le _, rfl, Nat.le_refl _, fun _ => rfl, Outs.start _ _ _ (Tch.refl _ _)⟩
  case round =>
    obtain ⟨j, xs, hj, rfl, hxl, hlo, hO⟩ := hrel
    obtain ⟨wj, hwj⟩ : ∃ x, x = wr := ⟨_, rfl⟩
    subst hwj
    obtain ⟨Q, cq, rfl, hq1, hq2⟩ := hO.form
    have HLOX := Lib.hid hlo
    have hj0 : (0 : Int) ≤ (j : Int) := Int.natCast_nonneg _
    clear hlo
    by_cases hlt : j < L.length
    · have hlt' : (j : Int) < (L.length : Int) := by omega
      have hl9 := HR.out wj hO.tch
      obtain ⟨g9, o9, rfl⟩ := hl9.head (by omega)
      have q0 := Row.one hl9 int1_len hlt rfl
      have HEX := Lib.hid (HEI.out L[j] (List.getElem_mem hlt))
      generalize L[j] = x at *
      have HPT := Lib.hid (HPA.out wj (T1.trans hO.tch) x)
      clear hl9
      go_wp2_with fail
      refine HPT.out.mono ?_
      rintro _ w2 ⟨u2, zs, rfl, hzr, hzn, hzm, _, t2⟩
      obtain ⟨hzl, hzq⟩ := HPF.out x zs hzn hzm
      have HZQ := Lib.hid hzq
      have HZR := Lib.hid (fun w' (t9 : Tch (fun g => g < wj.heap.size) w2 w') => Row.keepTo (P' := fun _ => True) hzr t9 (fun g _ hg => ⟨by omega, trivial⟩))
      obtain ⟨Z, cz, rfl, hz1, hz2⟩ := hzr.form
      have hO2 := hO.keep t2
      have HOB0 := Lib.hid (fun g (hg : (Value.slice Q xs.length cq).ownBlock = some g) => (hO.own.lt g hg).2)
      have hsz2 := t2.size
      have hzl40 : zs.length ≤ 40 := by omega
      clear HPT q0 hzr hzn hzm hzq hO t2
      go_wp2_with fail
      go_loopw [11, 36] (fun o i wr => ∃ (k : Nat) (ys : List (Int × Int)), k ≤ zs.length ∧ i = .int .i64 (k : Int) ∧ ys.length ≤ 40 * j + k ∧ (Lone b p node → ys = []) ∧ Outs f2 2 148 w1 wr o ys ∧ (∀ g, o.ownBlock = some g → g < wj.heap.size ∨ w2.heap.size ≤ g) ∧ Tch (fun g => g < wj.heap.size) w2 wr) (fun _ i _ => zs.length - (intOf i).toNat)
      case atStart => exact ⟨0, xs, Nat.zero_le _, rfl, hxl, HLOX.out, hO2, (fun g hg => .inl (HOB0.out g hg)), Tch.refl _ _⟩
      case round =>
        obtain ⟨k, ys, hk, rfl, hyl, hylo, hOy, hob, hty⟩ := hrel
        obtain ⟨wk, hwk⟩ : ∃ x, x = wr := ⟨_, rfl⟩
        subst hwk
        obtain ⟨Qy, cqy, rfl, hqy1, hqy2⟩ := hOy.form
        have HYLO := Lib.hid hylo
        have HOB := Lib.hid hob
        have hk0 : (0 : Int) ≤ (k : Int) := Int.natCast_nonneg _
        clear hylo hob
        by_cases hkt : k < zs.length
        · have hkt' : (k : Int) < (zs.length : Int) := by omega
          have hz9 := HZR.out wk hty
          obtain ⟨g8, o8, rfl⟩ := hz9.head (by omega)
          have q0 := Row.one hz9 int1_len hkt rfl
          have HQX := Lib.hid (HZQ.out zs[k] (List.getElem_mem hkt))
          generalize zs[k] = q at *
          have HPX := Lib.hid (HPM.out wk (t1.trans hOy.tch) x q HEX.out.1 HQX.out.1)
          have HLX := Lib.hid (show Lone b p node → (MF x q == node) = false from fun hl => by
            have h1 := HUL.out hl x HEX.out.1 HEX.out.2
            have := HLO.out hl x q HQX.out.1 (fun e9 => HQX.out.2 (e9.trans h1.symm))
            simpa using this)
          generalize (MF x q == node) = mb at *
          have hyl9 : ys.length ≤ 1640 := by omega
          clear hz9
          go_wp2_with fail
          refine HPX.out.mono ?_
          rintro _ w3 ⟨rfl, t3⟩
          have hO3 := hOy.keep t3
          have hty3 := hty.trans (Exn.touch t3)
          clear HPX q0 hOy hty t3
          cases mb
          · go_wp2
            go_roundw
            case rel => exact ⟨k + 1, ys, by omega, by go_num, by omega, HYLO.out, hO3, HOB.out, hty3⟩
            case measure => simp [intOf] <;> omega
          · have HNL := Lib.hid (show ¬ Lone b p node from fun hl => by cases HLX.out hl)
            have hs3 := hty3.size
            have hO3a := hO3.keep (Tch.alloc (fun _ => False) w3 (.cells #[.int .i64 x, .int .i64 q] 148))
            have hty4 := hty3.trans (Exn.touch (Tch.alloc (fun _ => False) w3 (.cells #[.int .i64 x, .int .i64 q] 148)))
            have HBE := Lib.hid (fun m9 => (Blk.new w3 148 #[.int .i64 x, .int .i64 q]).cell m9)
            clear hO3 hty3
            go_wp2_with (at_builtin; refine Hid.out ?_)
            refine Lib.hid ?_
            refine wpList_append _ rfl _ _ 149 rfl rowP2 (own_base hO3a.own) (by rfl) (Go.Gk.Src.one (news := f2 (x, q)) rfl (fun m9 u9 hu9 => by rw [HBE.out m9]; simpa [f2] using hu9)) (by rfl) (f2_one _) (by unfold maxLen; omega) (by omega) ?_
            intro v2 w4 ho2 hg2 hl2
            have hO4 := hO3a.step (x := (x, q)) (Tch.refl _ _) ho2 hg2 hl2
            have hty5 := hty4.trans' (F' := fun g => g < wj.heap.size ∨ w2.heap.size ≤ g) (Tch.grown hg2 (fun k9 e9 => .inl (HOB.out k9 e9))) (fun i hi => hi)
            have HOB4 := Lib.hid (show ∀ g, v2.ownBlock = some g → g < wj.heap.size ∨ w2.heap.size ≤ g from fun g hg => by
              rcases hl2 g hg with h9 | h9
              · exact HOB.out g h9
              · have := hty4.size; exact .inr (by omega))
            obtain ⟨O2, co2, rfl, _, _⟩ := own_form ho2
            clear hO3a hty4 ho2 hg2 hl2 HBE
            go_wp2
            go_roundw
            case rel => exact ⟨k + 1, ys ++ [(x, q)], by omega, by go_num, by simp; omega, fun hl => absurd hl HNL.out, by simpa using hO4, HOB4.out, hty5⟩
            case measure => simp [intOf] <;> omega
        · obtain rfl : k = zs.length := by omega
          have hkt' : ¬ (zs.length : Int) < (zs.length : Int) := by omega
          clear hkt
          go_wp2
          go_roundw
          case rel => exact ⟨j + 1, ys, by omega, by go_num, by omega, HYLO.out, hOy⟩
          case measure => simp [intOf] <;> omega
    · obtain rfl : j = L.length := by omega
      have hlt' : ¬ (L.length : Int) < (L.length : Int) := by omega
      have HTB := Lib.hid (hO.base T1)
      have hx16 : xs.length ≤ 1600 := by omega
      clear hO
      go_wp2
      go_ret
      exact ⟨_, rfl, xs, HTB.out, hx16, HLOX.out⟩
end
end Go.Proofs.YtblenmelciaigaaGreat
