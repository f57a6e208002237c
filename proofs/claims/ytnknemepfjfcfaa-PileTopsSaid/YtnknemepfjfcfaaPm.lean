/-
  pile.Sorted[[2]int]: what it does.
-/
import Derived.Test.YtnknemepfjfcfaaPr
import Derived.Test.YtnknemepfjfcfaaPq
import Derived.Laws.MakeOwn
namespace Go.Gk
def sliceLen : Value → Nat
  | .slice _ n _ => n
  | _ => 0
def mrg : KV → KV → KV
  | [], b => b
  | a, [] => a
  | x :: a, y :: b => if y.1 < x.1 then y :: mrg (x :: a) b else x :: mrg a (y :: b)
def msort : Nat → KV → KV
  | 0, l => l
  | n + 1, l => if l.length < 2 then l else mrg (msort n (l.take (l.length / 2))) (msort n (l.drop (l.length / 2)))
theorem mrg_len (a b : KV) : (mrg a b).length = a.length + b.length := by
  fun_induction mrg a b <;> simp_all <;> omega
theorem msort_len : ∀ (n : Nat) (l : KV), (msort n l).length = l.length
  | 0, _ => rfl
  | n + 1, l => by
    rw [msort]
    split
    · rfl
    · rw [mrg_len, msort_len n, msort_len n]; simp; omega
end Go.Gk
namespace Go.Proofs.Ytnknemepfjfcfaa
open Go.RowKit Go.Gk

set_option maxRecDepth 100000 in
set_option maxHeartbeats 1600000 in
theorem sorted_any {B : Nat → Prop} : ∀ (n : Nat) {w : World} {v : Value} {l : KV} (_ : Prs B w v l) (_ : l.length ≤ n) (_ : l.length ≤ 1000000),
    Calls Try.prog 16 #[v, .func (.func 10) #[] #[]] w fun e w' => ∃ v', e = .returned v' ∧ w'.ownsRow w.heap.size 25 2 v' (msort n l).length ((msort n l).flatMap flatP) ∧ Tch (fun _ => False) w w'
  | 0, w, v, l, h, h0, hm => by
    obtain rfl : l = [] := List.eq_nil_of_length_eq_zero (by omega)
    have hq := run_eql_less
    obtain ⟨A, c, rfl, hc1, hc2⟩ := h.form
    show Calls _ _ _ _ fun e w' => ∃ v', e = .returned v' ∧ w'.ownsRow w.heap.size 25 2 v' 0 [] ∧ Tch (fun _ => False) w w'
    have hown := own_made w 25 2 0 #[] (Nat.zero_le _) rfl
    have hsrc := (h.keep (Tch.alloc (fun _ => False) w (.cells #[] 25))).src
    have hsrc' : Src (w.alloc (.cells #[] 25)) A 0 c 2 [] := hsrc
    go_enter Try.func16, Try.ntmps16
    go_wp2_with (at_builtin; refine wpList_append _ rfl _ _ 28 rfl rowPr (own_base hown) (by rfl) hsrc' (by rfl) (by simp) (by unfold maxLen; omega) (by omega) ?_; intro v2 w2 ho hg hll)
    go_ret
    have hb : ∀ g, v2.ownBlock = some g → w.heap.size ≤ g := fun g e => by
      rcases hll g e with h | h
      · have h' : w.heap.size = g := Option.some.inj h
        omega
      · simp at h; omega
    refine ⟨v2, rfl, by have := own_rebase ho hb; simpa using this, (Tch.alloc _ _ _).trans' (Tch.grown (F := fun k => w.heap.size ≤ k) hg (fun k e => .inl (by have h' : w.heap.size = k := Option.some.inj e; omega))) (fun k hk => .inr hk)⟩
  | n + 1, w, v, l, h, hn, hm => by
    have IH := fun {w : World} {v : Value} {l : KV} => sorted_any (B := B) n (w := w) (v := v) (l := l)
    have hq := run_eql_less
    obtain ⟨A, c, rfl, hc1, hc2⟩ := h.form
    by_cases hl : l.length < 2
    · have hs : msort (n + 1) l = l := by rw [msort, if_pos hl]
      rw [hs]
      have hl' : (l.length : Int) < 2 := by omega
      clear hl hs IH
      go_enter Try.func16, Try.ntmps16
      have hown := own_made w 25 2 0 #[] (Nat.zero_le _) rfl
      have hsrc := (h.keep (Tch.alloc (fun _ => False) w (.cells #[] 25))).src
      go_wp2_with (at_builtin; refine wpList_append _ rfl _ _ 28 rfl rowPr (own_base hown) (by rfl) hsrc (by rfl) (flatP_one _) (by unfold maxLen; omega) (by omega) ?_; intro v2 w2 ho hg hll)
      go_ret
      have hb : ∀ g, v2.ownBlock = some g → w.heap.size ≤ g := fun g e => by
        rcases hll g e with h | h
        · have h' : w.heap.size = g := Option.some.inj h
          omega
        · simp at h; omega
      refine ⟨v2, rfl, by have := own_rebase ho hb; simpa using this, (Tch.alloc _ _ _).trans' (Tch.grown (F := fun k => w.heap.size ≤ k) hg (fun k e => .inl (by have h' : w.heap.size = k := Option.some.inj e; omega))) (fun k hk => .inr hk)⟩
    · have hs : msort (n + 1) l = mrg (msort n (l.take (l.length / 2))) (msort n (l.drop (l.length / 2))) := by rw [msort, if_neg hl]
      rw [hs]
      have hl' : ¬ (l.length : Int) < 2 := by omega
      have hq3 : ((l.length / 2 : Nat) : Int) = (l.length : Int) / 2 := by omega
      have hh := Nat.div_lt_self (n := l.length) (k := 2) (by omega) (by decide)
      have hr1 := h.takes flatP2 (k := l.length / 2) (by omega)
      have hr2 := h.cuts flatP2 (lo := l.length / 2) (hi := l.length) (by omega) (Nat.le_refl _)
      rw [List.take_of_length_le (by simp)] at hr2
      have ht : (l.take (l.length / 2)).length = l.length / 2 := by simp; omega
      have hd : (l.drop (l.length / 2)).length = l.length - l.length / 2 := by simp
      have ml := msort_len n (l.take (l.length / 2))
      have ml2 := msort_len n (l.drop (l.length / 2))
      rw [ht] at ml
      rw [hd] at ml2
      generalize hU1 : Value.slice A (l.length / 2) c = U1 at *
      generalize hU2 : sliced A (l.length / 2) l.length c 2 = U2 at *
      generalize hla : l.take (l.length / 2) = la at *
      generalize hlb : l.drop (l.length / 2) = lb at *
      generalize hh2 : l.length / 2 = m at *
      rw [← ht] at hr1
      rw [← hd] at hr2
      have I1 := fun (w' : World) (t : Tch (fun _ => False) w w') => IH (hr1.keep t) (by omega) (by omega)
      have I2 := fun (w' : World) (t : Tch (fun _ => False) w w') => IH (hr2.keep t) (by omega) (by omega)
      generalize msort n la = sa at *
      generalize msort n lb = sb at *
      obtain ⟨V1, hV1⟩ : ∃ V : Value → World → Prop, V = fun u w' => w'.ownsRow w.heap.size 25 2 u sa.length (sa.flatMap flatP) := ⟨_, rfl⟩
      have HV1 := Hid.out (p := Hid (V1 = _)) hV1
      clear hV1 hl hs IH
      go_enter Try.func16, Try.ntmps16
      go_wp2_with fail
      refine wp_region_touch (fun _ => False) [] 13 [(4, .inl U1), (6, .inr V1), (11, .inl U2)] [] (by kernel_rfl) rfl (by kernel_rfl) rfl (fun d _ _ _ _ h => by cases d <;> exact h) ?_ ?_
      · rw [HV1.out]
        exact ⟨fun u a b hr h => hr.own h (fun _ _ => id), trivial⟩
      intro bef ops hbef hops
      clear hbef hops
      simp only [List.take_succ_cons, List.take_zero, List.drop_succ_cons, List.drop_zero]
      iterate 4 (refine t_det (by rfl) (by rfl) (by rfl) (by rfl) (fun K hK => ?_); go_big_quiet_op; (first | refine hK _ ?_ | refine ⟨_, fun _ => rfl, hK _ ?_⟩); clear hK K)
      refine t_fix U1 (by rfl) (by rfl) (fun w1 hr hf => yields_cut_h 28 _ _ rfl prs_und prs_size (by rfl) (k := m) (by show Value.int .i64 _ = Value.int .i64 _; rw [hq3]) (by omega) ⟨⟨by rw [sliced_zero]; exact hU1, Tch.refl _ _⟩, newAt_no⟩) ?_
      simp only [Act.put, List.setIfInBounds_toArray, List.set_cons_succ, List.set_cons_zero]
      iterate 1 (refine t_det (by rfl) (by rfl) (by rfl) (by rfl) (fun K hK => ?_); go_big_quiet_op; (first | refine hK _ ?_ | refine ⟨_, fun _ => rfl, hK _ ?_⟩); clear hK K)
      refine t_loose (by rfl) (by rfl) (fun w1 hr hf => ?_) (fun u1 => ?_)
      · refine yields_of_wp (d := 22) rfl (by simp) (fun K hK => ?_)
        go_step
        refine (I1 w1 ((Tch.drew _ w).trans hr)).mono ?_
        rintro e w2 ⟨v', rfl, ho, t2⟩
        refine hK _ _ ⟨⟨?_, t2⟩, newAt_no⟩
        rw [HV1.out]
        exact own_rebase (own_base ho) (fun g e => Nat.le_trans hr.size (ho.lt g e).1)
      simp only [Act.put, List.setIfInBounds_toArray, List.set_cons_succ, List.set_cons_zero]
      iterate 4 (refine t_det (by rfl) (by rfl) (by rfl) (by rfl) (fun K hK => ?_); go_big_quiet_op; (first | refine hK _ ?_ | refine ⟨_, fun _ => rfl, hK _ ?_⟩); clear hK K)
      refine t_fix U2 (by rfl) (by rfl) (fun w1 hr hf => yields_cut_l 28 _ _ rfl prs_und prs_size (by rfl) (k := m) (by show Value.int .i64 _ = Value.int .i64 _; rw [hq3]) (by omega) ⟨⟨hU2, Tch.refl _ _⟩, newAt_no⟩) ?_
      simp only [Act.put, List.setIfInBounds_toArray, List.set_cons_succ, List.set_cons_zero]
      iterate 1 (refine t_det (by rfl) (by rfl) (by rfl) (by rfl) (fun K hK => ?_); go_big_quiet_op; (first | refine hK _ ?_ | refine ⟨_, fun _ => rfl, hK _ ?_⟩); clear hK K)
      refine t_nil ?_
      intro w1 hr hp hap
      have hv := hp _ (List.mem_singleton.2 rfl)
      dsimp only at hv
      rw [HV1.out] at hv
      have tw1 : Tch (fun _ => False) w w1 := (Tch.drew _ w).trans hr
      have I2 := I2 w1 tw1
      have ml' : sa.length + sb.length = l.length := by omega
      have HML := Hid.out (p := Hid _) ml'
      have ml1 : sa.length ≤ l.length := by omega
      have mlb : sb.length ≤ l.length := by omega
      clear ml ml2 ml' hh
      clear hap HV1 hp I1 hU1 hU2 hr hr1 hr2 hq3 hla hlb hh2 h ht hd
      go_wp2_with fail
      refine I2.mono ?_
      rintro e w2 ⟨u2, rfl, ho2, t2⟩
      have ho1 := t2.own hv (fun _ _ => id)
      have tw2 := tw1.trans t2
      have ho2' := own_rebase (own_base ho2) (fun g e => Nat.le_trans tw1.size (ho2.lt g e).1)
      clear I2 ho2 t2 hv tw1
      obtain ⟨A1, c1, rfl, _, _, _⟩ := own_form ho1
      obtain ⟨A2, c2, rfl, _, _, _⟩ := own_form ho2'
      obtain ⟨i, hi, hiz, hsize, hby⟩ := info_parts rowPr.info
      obtain ⟨w3, hmk, ho3, hg3⟩ := run_make_own (P := Try.prog) w2 w.heap.size 28 25 i _ 2 prs_und hi hiz hsize .i64 .i64 l.length (by rw [hby]; omega) (by unfold maxLen; omega) tw2.size
      have t3 : Tch (fun _ => False) w2 w3 := Tch.grown hg3 (fun k e => by cases e)
      have tw3 := tw2.trans t3
      have ha3 := t3.own ho1 (fun _ _ => id)
      have hb3 := t3.own ho2' (fun _ _ => id)
      have lA := fun g e => own_lt ho1 (g := g) e
      have lB := fun g e => own_lt ho2' (g := g) e
      have Ha : Prs (fun g => g ≠ w2.heap.size) w3 (.slice A1 sa.length c1) sa := Row.own ha3 (fun g e h => by have := lA g e; omega)
      have Hb : Prs (fun g => g ≠ w2.heap.size) w3 (.slice A2 sb.length c2) sb := Row.own hb3 (fun g e h => by have := lB g e; omega)
      have hz2 := tw2.size
      clear ha3 hb3 lA lB ho1 ho2' hi hiz hsize hby t3 hg3 tw2
      go_wp2_with fail
      generalize w2.heap.size = N at *
      clear hmk
      go_loopw [5, 6, 7] (fun av bv ov wr => ∃ xa xb xo : KV, Prs (fun g => ov.ownBlock ≠ some g) wr av xa ∧ Prs (fun g => ov.ownBlock ≠ some g) wr bv xb ∧ wr.ownsRow w.heap.size 25 2 ov xo.length (xo.flatMap flatP) ∧ xo ++ mrg xa xb = mrg sa sb ∧ xo.length + xa.length + xb.length = l.length ∧ Tch (fun _ => False) w wr) (fun av bv _ _ => sliceLen av + sliceLen bv)
      case atStart => exact ⟨sa, sb, [], Ha.weak (fun g h e => h (Option.some.inj e).symm), Hb.weak (fun g h e => h (Option.some.inj e).symm), ho3, rfl, by have := HML.out; simp; omega, tw3⟩
      case round =>
        obtain ⟨xa, xb, xo, ha, hb, ho, hm1, hm2, ht⟩ := hrel
        have HM1 := Hid.out (p := Hid _) hm1
        have HM2 := Hid.out (p := Hid _) hm2
        have e1 : xa.length ≤ l.length := by omega
        have e2 : xb.length ≤ l.length := by omega
        have e3 : xo.length ≤ l.length := by omega
        clear hm1 hm2 Ha Hb ho3 tw3
        obtain ⟨A, c, rfl, hca, hca'⟩ := ha.form
        obtain ⟨B', c', rfl, hcb, hcb'⟩ := hb.form
        obtain ⟨O, co, rfl, hco, hco', _⟩ := own_form ho
        have hm4 : l.length ≤ 1000000 := hm
        by_cases hab : 0 < xa.length ∧ 0 < xb.length
        · obtain ⟨h1, h2⟩ := hab
          obtain ⟨p, ra, rfl⟩ : ∃ p ra, xa = p :: ra := by cases xa with | nil => simp at h1 | cons p ra => exact ⟨p, ra, rfl⟩
          obtain ⟨q, rb, rfl⟩ : ∃ p ra, xb = p :: ra := by cases xb with | nil => simp at h2 | cons p ra => exact ⟨p, ra, rfl⟩
          obtain ⟨ga, oa, rfl⟩ := ha.head h1
          obtain ⟨gb, ob, rfl⟩ := hb.head h2
          have hma : mrg (p :: ra) (q :: rb) = if q.1 < p.1 then q :: mrg (p :: ra) rb else p :: mrg ra (q :: rb) := by rw [mrg]
          have pa := prs_cells ha (i := 0) h1
          have pb := prs_cells hb (i := 0) h2
          obtain ⟨ua, hua⟩ : ∃ u, u = sliced (some ⟨ga, oa, none⟩) 1 (ra.length + 1) c 2 := ⟨_, rfl⟩
          obtain ⟨ub, hub⟩ : ∃ u, u = sliced (some ⟨gb, ob, none⟩) 1 (rb.length + 1) c' 2 := ⟨_, rfl⟩
          have ca := ha.cuts flatP2 (lo := 1) (hi := ra.length + 1) (by omega) (by simp)
          have cb := hb.cuts flatP2 (lo := 1) (hi := rb.length + 1) (by omega) (by simp)
          simp only [List.length_cons, Nat.zero_mul, Nat.add_zero, key0, val0, List.getD_cons_zero, Nat.add_sub_cancel, List.drop_succ_cons, List.drop_zero, List.take_length] at *
          rw [← hua] at ca
          rw [← hub] at cb
          have ra1 : ∀ W, (Instr.sliceAt 28 (.slice (some ⟨ga, oa, none⟩) (ra.length + 1) c) (some (.int .i64 1)) none none).run Try.prog W = .ok ua W := fun W => by rw [hua]; exact run_cut_l prs_und prs_size W _ _ _ 1 (by omega)
          have rb1 : ∀ W, (Instr.sliceAt 28 (.slice (some ⟨gb, ob, none⟩) (rb.length + 1) c') (some (.int .i64 1)) none none).run Try.prog W = .ok ub W := fun W => by rw [hub]; exact run_cut_l prs_und prs_size W _ _ _ 1 (by omega)
          clear hua hub
          by_cases hlt : q.1 < p.1
          · skip
            have hdec : decide (q.1 < p.1) = true := by simpa using hlt
            rw [if_pos hlt] at hma
            have HMA := Hid.out (p := Hid _) hma
            clear hma hlt
            go_wp2_with fail
            have d1 := within_cell (F := fun _ => False) pa.1 id
            have d2 := within_cell (F := fun _ => False) pa.2 id
            have d3 := within_cell (F := fun _ => False) pb.1 id
            have d4 := within_cell (F := fun _ => False) pb.2 id
            refine wp_region_touch (fun _ => False) [] 7 [] [] (by kernel_rfl) rfl (by kernel_rfl) rfl (fun d _ _ _ _ h => by cases d <;> exact h) trivial ?_
            intro bef ops hbef hops
            clear hbef hops
            simp only [List.take_succ_cons, List.take_zero, List.drop_succ_cons, List.drop_zero]
            iterate 7 (refine t_det (by rfl) (by rfl) (by rfl) (by rfl) (fun K hK => ?_); go_big_quiet_op; (first | refine hK _ ?_ | refine ⟨_, fun _ => rfl, hK _ ?_⟩); clear hK K)
            refine t_nil ?_
            intro w4 hrr hpp hap
            clear hap hpp d1 d2 d3 d4
            have t4 : Tch (fun _ => False) wr w4 := (Tch.drew _ wr).trans hrr
            clear hrr
            go_wp2_with fail
            refine (less_any _ _ _ _ _).mono ?_
            rintro e w5 ⟨rfl, t5⟩
            rw [hdec]
            have t5 := t4.trans t5
            have q1 := t5.cell_some pb.1 id
            have q2 := t5.cell_some pb.2 id
            have ho5 := t5.own ho (fun _ _ => id)
            have ca := ca.keep t5
            have cb := cb.keep t5
            have ha := ha.keep t5
            have hb := hb.keep t5
            have hgn : (Value.slice O xo.length co).ownBlock ≠ some gb := by have := (hb.block (by omega)).1; exact this
            clear pa pb ho t4 hdec
            go_wp2_with fail
            have hbn : ∀ (W : World) (N : Nat), N = W.heap.size → ∀ j u, (flatP q)[j]? = some u → (W.alloc (.cells #[.int .i64 q.1, .int .i64 q.2] 25)).cell? ⟨N, j, none⟩ = some u := fun W N e j u hu => by
              rw [e, (Blk.new W 25 #[.int .i64 q.1, .int .i64 q.2]).cell j]; simpa [flatP] using hu
            go_region_held3 (fun w' => w'.cell? ⟨gb, ob, none⟩ = some (.int .i64 q.1) ∧ w'.cell? ⟨gb, ob + 1, none⟩ = some (.int .i64 q.2))
              (first
                | go_keep
                | (go_split_ands; exact ⟨t6.cell_some q1 hgn, t6.cell_some q2 hgn⟩))
              (first
                | (refine step_append _ (by rfl) _ _ _ (by rfl) rowPr (by first | exact own_base ho5 | exact own_base (ho5.alloc _)) (by rfl) (Src.one (news := flatP q) rfl (fun j u hu => by first | exact hbn _ _ (by first | rfl | simp) j u hu)) (by rfl) (flatP_one1 _) (by unfold maxLen; omega) (by omega) ?_; intro v6 w6 ho6 hg6 hl6; obtain ⟨O6, co6, rfl, _, _, _⟩ := own_form ho6; have t6 : Tch (fun k => (Value.slice O xo.length co).ownBlock = some k) w5 w6 := by first | exact Tch.trans (Tch.alloc _ _ _) (Tch.grown hg6 (fun k e => .inl e)) | exact Tch.trans (Tch.drew _ _) (Tch.trans (Tch.alloc _ _ _) (Tch.grown hg6 (fun k e => .inl e)))))
            all_goals
              go_wp2
              have tf := (ht.trans t5).trans' t6 (fun k hk => .inr (ho5.lt k hk).1)
              have hb6 : ∀ g, (Value.slice O6 (xo.length + 1) co6).ownBlock = some g → w.heap.size ≤ g := fun g e => by
                rcases hl6 g e with h | h
                · exact (ho5.lt g h).1
                · have := (ht.trans t5).size; simp at h; omega
              have kp : ∀ g, g < w5.heap.size → (Value.slice O xo.length co).ownBlock ≠ some g → ¬ (Value.slice O xo.length co).ownBlock = some g ∧ (Value.slice O6 (xo.length + 1) co6).ownBlock ≠ some g := fun g hg hn => ⟨hn, fun e => by
                rcases hl6 g e with h | h
                · exact hn h
                · simp at h; omega⟩
              have ca6 := ca.keepTo t6 kp
              have cb6 := cb.keepTo t6 kp
              have ha6 := ha.keepTo t6 kp
              have hbb6 := hb.keepTo t6 kp
              go_roundw
              case rel =>
                refine ⟨p :: ra, rb, xo ++ [q], ha6, cb6, ?_, ?_, ?_, tf⟩
                · have := own_rebase ho6 hb6
                  simpa using this
                · rw [← HM1.out, HMA.out, List.append_assoc]; rfl
                · have := HM2.out; simp at this ⊢; omega
              case measure =>
                obtain ⟨_, _, rfl, _⟩ := cb.form
                simp [sliceLen]
          · skip
            have hdec : decide (q.1 < p.1) = false := by simpa using hlt
            rw [if_neg hlt] at hma
            have HMA := Hid.out (p := Hid _) hma
            clear hma hlt
            go_wp2_with fail
            have d1 := within_cell (F := fun _ => False) pa.1 id
            have d2 := within_cell (F := fun _ => False) pa.2 id
            have d3 := within_cell (F := fun _ => False) pb.1 id
            have d4 := within_cell (F := fun _ => False) pb.2 id
            refine wp_region_touch (fun _ => False) [] 7 [] [] (by kernel_rfl) rfl (by kernel_rfl) rfl (fun d _ _ _ _ h => by cases d <;> exact h) trivial ?_
            intro bef ops hbef hops
            clear hbef hops
            simp only [List.take_succ_cons, List.take_zero, List.drop_succ_cons, List.drop_zero]
            iterate 7 (refine t_det (by rfl) (by rfl) (by rfl) (by rfl) (fun K hK => ?_); go_big_quiet_op; (first | refine hK _ ?_ | refine ⟨_, fun _ => rfl, hK _ ?_⟩); clear hK K)
            refine t_nil ?_
            intro w4 hrr hpp hap
            clear hap hpp d1 d2 d3 d4
            have t4 : Tch (fun _ => False) wr w4 := (Tch.drew _ wr).trans hrr
            clear hrr
            go_wp2_with fail
            refine (less_any _ _ _ _ _).mono ?_
            rintro e w5 ⟨rfl, t5⟩
            rw [hdec]
            have t5 := t4.trans t5
            have q1 := t5.cell_some pa.1 id
            have q2 := t5.cell_some pa.2 id
            have ho5 := t5.own ho (fun _ _ => id)
            have ca := ca.keep t5
            have cb := cb.keep t5
            have ha := ha.keep t5
            have hb := hb.keep t5
            have hgn : (Value.slice O xo.length co).ownBlock ≠ some ga := by have := (ha.block (by omega)).1; exact this
            clear pa pb ho t4 hdec
            go_wp2_with fail
            have hbn : ∀ (W : World) (N : Nat), N = W.heap.size → ∀ j u, (flatP p)[j]? = some u → (W.alloc (.cells #[.int .i64 p.1, .int .i64 p.2] 25)).cell? ⟨N, j, none⟩ = some u := fun W N e j u hu => by
              rw [e, (Blk.new W 25 #[.int .i64 p.1, .int .i64 p.2]).cell j]; simpa [flatP] using hu
            go_region_held3 (fun w' => w'.cell? ⟨ga, oa, none⟩ = some (.int .i64 p.1) ∧ w'.cell? ⟨ga, oa + 1, none⟩ = some (.int .i64 p.2))
              (first
                | go_keep
                | (go_split_ands; exact ⟨t6.cell_some q1 hgn, t6.cell_some q2 hgn⟩))
              (first
                | (refine step_append _ (by rfl) _ _ _ (by rfl) rowPr (by first | exact own_base ho5 | exact own_base (ho5.alloc _)) (by rfl) (Src.one (news := flatP p) rfl (fun j u hu => by first | exact hbn _ _ (by first | rfl | simp) j u hu)) (by rfl) (flatP_one1 _) (by unfold maxLen; omega) (by omega) ?_; intro v6 w6 ho6 hg6 hl6; obtain ⟨O6, co6, rfl, _, _, _⟩ := own_form ho6; have t6 : Tch (fun k => (Value.slice O xo.length co).ownBlock = some k) w5 w6 := by first | exact Tch.trans (Tch.alloc _ _ _) (Tch.grown hg6 (fun k e => .inl e)) | exact Tch.trans (Tch.drew _ _) (Tch.trans (Tch.alloc _ _ _) (Tch.grown hg6 (fun k e => .inl e)))))
            all_goals
              go_wp2
              have tf := (ht.trans t5).trans' t6 (fun k hk => .inr (ho5.lt k hk).1)
              have hb6 : ∀ g, (Value.slice O6 (xo.length + 1) co6).ownBlock = some g → w.heap.size ≤ g := fun g e => by
                rcases hl6 g e with h | h
                · exact (ho5.lt g h).1
                · have := (ht.trans t5).size; simp at h; omega
              have kp : ∀ g, g < w5.heap.size → (Value.slice O xo.length co).ownBlock ≠ some g → ¬ (Value.slice O xo.length co).ownBlock = some g ∧ (Value.slice O6 (xo.length + 1) co6).ownBlock ≠ some g := fun g hg hn => ⟨hn, fun e => by
                rcases hl6 g e with h | h
                · exact hn h
                · simp at h; omega⟩
              have ca6 := ca.keepTo t6 kp
              have cb6 := cb.keepTo t6 kp
              have ha6 := ha.keepTo t6 kp
              have hbb6 := hb.keepTo t6 kp
              go_roundw
              case rel =>
                refine ⟨ra, q :: rb, xo ++ [p], ca6, hbb6, ?_, ?_, ?_, tf⟩
                · have := own_rebase ho6 hb6
                  simpa using this
                · rw [← HM1.out, HMA.out, List.append_assoc]; rfl
                · have := HM2.out; simp at this ⊢; omega
              case measure =>
                obtain ⟨_, _, rfl, _⟩ := ca.form
                simp [sliceLen]
        · have hmr : mrg xa xb = xa ++ xb := by
            cases xa with
            | nil => cases xb <;> simp [mrg]
            | cons p ra =>
              cases xb with
              | nil => simp [mrg]
              | cons q rb => exact absurd ⟨by simp, by simp⟩ hab
          have HMR := Hid.out (p := Hid _) hmr
          clear hmr
          have hfin : ∀ v7 w7 v8 w8, w7.ownsRow 0 25 2 v7 (xo.length + xa.length) (xo.flatMap flatP ++ xa.flatMap flatP) → wr.grownBy w7 (Value.slice O xo.length co).ownBlock → (∀ g, v7.ownBlock = some g → (Value.slice O xo.length co).ownBlock = some g ∨ wr.heap.size ≤ g) →
              w8.ownsRow 0 25 2 v8 (xo.length + xa.length + xb.length) (xo.flatMap flatP ++ xa.flatMap flatP ++ xb.flatMap flatP) → w7.grownBy w8 v7.ownBlock → (∀ g, v8.ownBlock = some g → v7.ownBlock = some g ∨ w7.heap.size ≤ g) →
              w8.ownsRow w.heap.size 25 2 v8 (mrg sa sb).length ((mrg sa sb).flatMap flatP) ∧ Tch (fun _ => False) w w8 := fun v7 w7 v8 w8 h1 h2 h3 h4 h5 h6 => by
            have b7 : ∀ g, v7.ownBlock = some g → w.heap.size ≤ g := fun g e => by
              rcases h3 g e with h | h
              · exact (ho.lt g h).1
              · exact Nat.le_trans ht.size h
            have t7 : Tch (fun k => w.heap.size ≤ k) wr w7 := Tch.grown h2 (fun k e => .inl (ho.lt k e).1)
            have t8 : Tch (fun k => w.heap.size ≤ k) w7 w8 := Tch.grown h5 (fun k e => .inl (b7 k e))
            have b8 : ∀ g, v8.ownBlock = some g → w.heap.size ≤ g := fun g e => by
              rcases h6 g e with h | h
              · exact b7 g h
              · exact Nat.le_trans (Nat.le_trans ht.size t7.size) h
            have h7 := own_rebase h4 b8
            have e1 : (mrg sa sb) = xo ++ xa ++ xb := by rw [← HM1.out, HMR.out, List.append_assoc]
            rw [e1]
            exact ⟨by simpa [Nat.add_assoc] using h7, (ht.trans' t7 (fun k hk => .inr hk)).trans' t8 (fun k hk => .inr hk)⟩
          have HF := Hid.out (p := Hid _) hfin
          clear hfin
          have haS := ha.src
          have hbS := hb
          by_cases h1 : 0 < xa.length
          · have h2 : ¬ 0 < xb.length := fun h => hab ⟨h1, h⟩
            have h1' : (0 : Int) < (xa.length : Int) := by omega
            have h2' : ¬ (0 : Int) < (xb.length : Int) := by omega
            have h3' : decide (0 < xb.length) = false := by simpa using h2
            clear hab h1 h2
            go_wp2_with (first
              | (at_builtin; refine wpList_append _ rfl (.tmp 65) (.tmp 66) 28 rfl rowPr (own_base ho) (by rfl) haS (by rfl) (flatP_one _) (by unfold maxLen; omega) (by omega) ?_; intro v7 w7 ho7 hg7 hl7; obtain ⟨O7, c7, rfl, _, _, _⟩ := own_form ho7; have hb7 := (hbS.keepTo (P' := fun _ => True) (Tch.grown (F := fun k => (Value.slice O xo.length co).ownBlock = some k) hg7 (fun k e => .inl e)) (fun g hg hn => ⟨hn, trivial⟩)).src)
              | (at_builtin; refine wpList_append _ rfl (.tmp 67) (.tmp 68) 28 rfl rowPr ho7 (by rfl) hb7 (by rfl) (flatP_one _) (by unfold maxLen; omega) (by omega) ?_; intro v8 w8 ho8 hg8 hl8))
            go_ret
            exact ⟨_, rfl, HF.out _ _ _ _ ho7 hg7 hl7 ho8 hg8 hl8⟩
          · have h1' : ¬ (0 : Int) < (xa.length : Int) := by omega
            have h3' : decide (0 < xa.length) = false := by simpa using h1
            clear hab h1
            go_wp2_with (first
              | (at_builtin; refine wpList_append _ rfl (.tmp 65) (.tmp 66) 28 rfl rowPr (own_base ho) (by rfl) haS (by rfl) (flatP_one _) (by unfold maxLen; omega) (by omega) ?_; intro v7 w7 ho7 hg7 hl7; obtain ⟨O7, c7, rfl, _, _, _⟩ := own_form ho7; have hb7 := (hbS.keepTo (P' := fun _ => True) (Tch.grown (F := fun k => (Value.slice O xo.length co).ownBlock = some k) hg7 (fun k e => .inl e)) (fun g hg hn => ⟨hn, trivial⟩)).src)
              | (at_builtin; refine wpList_append _ rfl (.tmp 67) (.tmp 68) 28 rfl rowPr ho7 (by rfl) hb7 (by rfl) (flatP_one _) (by unfold maxLen; omega) (by omega) ?_; intro v8 w8 ho8 hg8 hl8))
            go_ret
            exact ⟨_, rfl, HF.out _ _ _ _ ho7 hg7 hl7 ho8 hg8 hl8⟩

end Go.Proofs.Ytnknemepfjfcfaa
