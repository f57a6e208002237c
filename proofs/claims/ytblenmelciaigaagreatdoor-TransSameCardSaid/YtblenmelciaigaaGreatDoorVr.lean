/-
  Views: currencies, rates.
-/
import Derived.Test.YtblenmelciaigaaGreatDoorZ28
import Derived.Test.YtblenmelciaigaaGreatDoorRx
namespace Go.Proofs.YtblenmelciaigaaGreatDoor
open Go.RowKit Go.Gk

section
variable {w : World} {bv bi B t mr mp : Nat} {e a s r l n lv : Value} {fs : List Value} {b : Bks} {us : List (Ent × Value)}

set_option maxRecDepth 100000 in
set_option maxHeartbeats 800000 in
theorem vwentities_any (h : Vw w bv bi B t mr mp e a s r l n lv fs b us) :
    Calls Tryz.prog 48 #[.pointer (some ⟨bv, 0, none⟩)] w fun x w' => x = .returned (.int .i64 b.ents.length) ∧ w = w' := by
  have hM := vwmade_any h
  obtain ⟨Aa, ca, rfl, _, _⟩ := h.bks.ents.form
  have v0 : w.cell? ⟨bv, 0, none⟩ = some _ := h.view.cell 0
  have v2 : w.cell? ⟨bi, 1, none⟩ = some (.slice Aa b.ents.length ca) := h.seen.cell 1
  go_enter Tryz.func48, Tryz.ntmps48
  go_wp2_with fail
  refine hM.mono ?_
  rintro _ _ ⟨rfl, rfl⟩
  clear hM
  go_wp2
  go_ret
  exact ⟨rfl, rfl⟩

set_option maxRecDepth 100000 in
set_option maxHeartbeats 1600000 in
theorem vwcurrency_any (h : Vw w bv bi B t mr mp e a s r l n lv fs b us) (x : Int) :
    Calls Tryz.prog 19 #[.pointer (some ⟨bv, 0, none⟩), .int .i64 x] w fun y w' => y = .returned (.int .i64 (curOf b x)) ∧ w = w' := by
  have HE := Lib.hid (vwentities_any h)
  by_cases hx : 1 ≤ x ∧ x ≤ (b.ents.length : Int)
  · obtain ⟨k, rfl⟩ : ∃ k : Nat, x = (k : Int) + 1 := ⟨(x - 1).toNat, by omega⟩
    have hk : k < b.ents.length := by omega
    have hcv : curOf b ((k : Int) + 1) = b.ents[k] := by
      unfold curOf
      rw [if_pos hx]
      have e : ((k : Int) + 1 - 1).toNat = k := by omega
      rw [e, List.getElem?_eq_getElem hk]
      rfl
    rw [hcv]
    have hacc := h.bks.ents
    obtain ⟨Aa, ca, rfl, hm1, hm2⟩ := h.bks.ents.form
    obtain ⟨g, o, rfl⟩ := hacc.head (by omega)
    have q0 := Row.one hacc int1_len hk rfl
    have v0 : w.cell? ⟨bv, 0, none⟩ = some _ := h.view.cell 0
    have v2 : w.cell? ⟨bi, 1, none⟩ = some (.slice (some ⟨g, o, none⟩) b.ents.length ca) := h.seen.cell 1
    have hk' : (k : Int) < (b.ents.length : Int) := by omega
    have hk0 : (0 : Int) ≤ (k : Int) := Int.natCast_nonneg _
    have g1 : ¬ ((k : Int) + 1) < 1 := by omega
    have g2 : ¬ (b.ents.length : Int) < ((k : Int) + 1) := by omega
    have g3 : wrap64 ((k : Int) + 1 - 1) = (k : Int) := by unfold wrap64; omega
    generalize b.ents[k] = y at *
    clear h hacc hcv hx
    go_enter Tryz.func19, Tryz.ntmps19
    go_wp2_with fail
    refine HE.out.mono ?_
    rintro _ _ ⟨rfl, rfl⟩
    clear HE
    go_wp2
    go_ret
    exact ⟨rfl, rfl⟩
  · have hcv : curOf b x = 0 := by unfold curOf; rw [if_neg hx]
    rw [hcv]
    clear h hcv
    by_cases h1 : x < 1
    · clear hx
      go_enter Tryz.func19, Tryz.ntmps19
      go_wp2
      go_ret
      exact ⟨rfl, rfl⟩
    · have h2 : (b.ents.length : Int) < x := by omega
      clear hx
      go_enter Tryz.func19, Tryz.ntmps19
      go_wp2_with fail
      refine HE.out.mono ?_
      rintro _ _ ⟨rfl, rfl⟩
      clear HE
      go_wp2
      go_ret
      exact ⟨rfl, rfl⟩

set_option maxRecDepth 100000 in
set_option maxHeartbeats 3200000 in
theorem vwrate_any (h : Vw w bv bi B t mr mp e a s r l n lv fs b us) (hn : b.rates.length ≤ 1000000) (hT : Tab64 1 w) (f g kd p : Int) :
    Calls Tryz.prog 33 #[.pointer (some ⟨bv, 0, none⟩), .int .i64 f, .int .i64 g, .int .i64 kd, .int .i64 p] w fun y w' => y = .returned (.tuple #[.agg #[.int .i64 (rateOf b.rates f g kd p).1.1, .int .i64 (rateOf b.rates f g kd p).1.2], .bool (rateOf b.rates f g kd p).2]) ∧ Tch (fun _ => False) w w' := by
  have tw := Tch.alloc (fun _ => False) w (.cells #[.int .i64 0, .int .i64 0] 42)
  have bO := Blk.new w 42 #[.int .i64 0, .int .i64 0]
  have h1 := h.keep tw
  have HM := Lib.hid (vwmade_any h1)
  have HRA := Lib.hid (show rateOf b.rates f g kd p = if f = g ∧ 1 ≤ f ∧ f ≤ 8 then ((1, 1), true) else crossOf b.rates f g kd p from rfl)
  obtain ⟨Aa, ca, rfl, hm1, hm2⟩ := h.bks.rates.form
  have v0 : (w.alloc (.cells #[.int .i64 0, .int .i64 0] 42)).cell? ⟨bv, 0, none⟩ = some _ := h1.view.cell 0
  have v4 : (w.alloc (.cells #[.int .i64 0, .int .i64 0] 42)).cell? ⟨bi, 4, none⟩ = some (.slice Aa b.rates.length ca) := h1.seen.cell 4
  by_cases hfg : f = g
  · subst hfg
    by_cases h18 : 1 ≤ f ∧ f ≤ 8
    · rw [HRA.out, if_pos ⟨rfl, h18⟩]
      have g1 : (1 : Int) ≤ f := h18.1
      have g2 : f ≤ (8 : Int) := h18.2
      simp only
      clear h h1 hT hn h18 HRA v0 v4
      go_enter Tryz.func33, Tryz.ntmps33
      go_wp2_with fail
      generalize w.alloc _ = W at *
      generalize hzw : w.heap.size = z at *
      have HZW := Lib.hid hzw
      clear hzw
      refine HM.out.mono ?_
      rintro _ _ ⟨rfl, rfl⟩
      clear HM
      go_wp2_with (refine wpList_store_blk rfl _ _ _ rfl (z) #[.int .i64 1, .int .i64 1] (by rfl) (by rfl) bO (by kernel_rfl) rfl (by simp [Value.oneCell']) ?_; refine Hid.out ?_)
      refine Lib.hid ?_
      intro w9 hF tF
      have HBF := Lib.hid hF
      have HTF := Lib.hid tF
      clear hF tF
      go_wp2
      (try simp only [Exit.inBlock, Exit.then])
      (try rw [Exit.noGoto_ret])
      refine bodyPost_ret (results_row_tmp (P := Tryz.prog) rfl _ _ (z) 42 _ (0, 0) _ rfl HBF.out Tryz.underlying42 rfl (by kernel_rfl)) rfl ?_
      exact ⟨rfl, tw.trans' (F' := fun g => g = z) HTF.out (fun i hi => .inr (by have hi : i = z := hi; have := HZW.out; omega))⟩
    · rw [HRA.out, if_neg (fun h => h18 h.2)]
      by_cases g1 : (1 : Int) ≤ f
      · have g2 : ¬ f ≤ (8 : Int) := fun h => h18 ⟨g1, h⟩
        clear HRA h18
        have HCR := Lib.hid (cross_any (h1.bks.rates) hn (hT.keep tw) f f kd p 0 0)
        generalize crossOf b.rates f f kd p = AV at *
        obtain ⟨⟨q1, q2⟩, q3⟩ := AV
        simp only at HCR ⊢
        clear h h1 hT hn
        go_enter Tryz.func33, Tryz.ntmps33
        go_wp2_with fail
        generalize w.alloc _ = W at *
        generalize hzw : w.heap.size = z at *
        have HZW := Lib.hid hzw
        clear hzw
        refine HM.out.mono ?_
        rintro _ _ ⟨rfl, rfl⟩
        clear HM
        go_wp2_with fail
        refine HCR.out.mono ?_
        rintro _ w1 ⟨rfl, t1⟩
        have bO1 := bO.keep t1 id
        have T1 := tw.trans t1
        clear HCR bO tw t1 v0 v4
        go_wp2_with (refine wpList_store_blk rfl _ _ _ rfl (z) #[.int .i64 q1, .int .i64 q2] (by rfl) (by rfl) bO1 (by kernel_rfl) rfl (by simp [Value.oneCell']) ?_; refine Hid.out ?_)
        refine Lib.hid ?_
        intro w9 hF tF
        have HBF := Lib.hid hF
        have HTF := Lib.hid tF
        clear hF tF
        go_wp2
        (try simp only [Exit.inBlock, Exit.then])
        (try rw [Exit.noGoto_ret])
        refine bodyPost_ret (results_row_tmp (P := Tryz.prog) rfl _ _ (z) 42 _ (0, 0) _ rfl HBF.out Tryz.underlying42 rfl (by kernel_rfl)) rfl ?_
        exact ⟨rfl, T1.trans' (F' := fun g => g = z) HTF.out (fun i hi => .inr (by have hi : i = z := hi; have := HZW.out; omega))⟩
      · clear HRA h18
        have HCR := Lib.hid (cross_any (h1.bks.rates) hn (hT.keep tw) f f kd p 0 0)
        generalize crossOf b.rates f f kd p = AV at *
        obtain ⟨⟨q1, q2⟩, q3⟩ := AV
        simp only at HCR ⊢
        clear h h1 hT hn
        go_enter Tryz.func33, Tryz.ntmps33
        go_wp2_with fail
        generalize w.alloc _ = W at *
        generalize hzw : w.heap.size = z at *
        have HZW := Lib.hid hzw
        clear hzw
        refine HM.out.mono ?_
        rintro _ _ ⟨rfl, rfl⟩
        clear HM
        go_wp2_with fail
        refine HCR.out.mono ?_
        rintro _ w1 ⟨rfl, t1⟩
        have bO1 := bO.keep t1 id
        have T1 := tw.trans t1
        clear HCR bO tw t1 v0 v4
        go_wp2_with (refine wpList_store_blk rfl _ _ _ rfl (z) #[.int .i64 q1, .int .i64 q2] (by rfl) (by rfl) bO1 (by kernel_rfl) rfl (by simp [Value.oneCell']) ?_; refine Hid.out ?_)
        refine Lib.hid ?_
        intro w9 hF tF
        have HBF := Lib.hid hF
        have HTF := Lib.hid tF
        clear hF tF
        go_wp2
        (try simp only [Exit.inBlock, Exit.then])
        (try rw [Exit.noGoto_ret])
        refine bodyPost_ret (results_row_tmp (P := Tryz.prog) rfl _ _ (z) 42 _ (0, 0) _ rfl HBF.out Tryz.underlying42 rfl (by kernel_rfl)) rfl ?_
        exact ⟨rfl, T1.trans' (F' := fun g => g = z) HTF.out (fun i hi => .inr (by have hi : i = z := hi; have := HZW.out; omega))⟩
  · rw [HRA.out, if_neg (fun h => hfg h.1)]
    have g0 : (f == g) = false := by simpa using hfg
    clear HRA hfg
    have HCR := Lib.hid (cross_any (h1.bks.rates) hn (hT.keep tw) f g kd p 0 0)
    generalize crossOf b.rates f g kd p = AV at *
    obtain ⟨⟨q1, q2⟩, q3⟩ := AV
    simp only at HCR ⊢
    clear h h1 hT hn
    go_enter Tryz.func33, Tryz.ntmps33
    go_wp2_with fail
    generalize w.alloc _ = W at *
    generalize hzw : w.heap.size = z at *
    have HZW := Lib.hid hzw
    clear hzw
    refine HM.out.mono ?_
    rintro _ _ ⟨rfl, rfl⟩
    clear HM
    go_wp2_with fail
    refine HCR.out.mono ?_
    rintro _ w1 ⟨rfl, t1⟩
    have bO1 := bO.keep t1 id
    have T1 := tw.trans t1
    clear HCR bO tw t1 v0 v4
    go_wp2_with (refine wpList_store_blk rfl _ _ _ rfl (z) #[.int .i64 q1, .int .i64 q2] (by rfl) (by rfl) bO1 (by kernel_rfl) rfl (by simp [Value.oneCell']) ?_; refine Hid.out ?_)
    refine Lib.hid ?_
    intro w9 hF tF
    have HBF := Lib.hid hF
    have HTF := Lib.hid tF
    clear hF tF
    go_wp2
    (try simp only [Exit.inBlock, Exit.then])
    (try rw [Exit.noGoto_ret])
    refine bodyPost_ret (results_row_tmp (P := Tryz.prog) rfl _ _ (z) 42 _ (0, 0) _ rfl HBF.out Tryz.underlying42 rfl (by kernel_rfl)) rfl ?_
    exact ⟨rfl, T1.trans' (F' := fun g => g = z) HTF.out (fun i hi => .inr (by have hi : i = z := hi; have := HZW.out; omega))⟩
end
end Go.Proofs.YtblenmelciaigaaGreatDoor
