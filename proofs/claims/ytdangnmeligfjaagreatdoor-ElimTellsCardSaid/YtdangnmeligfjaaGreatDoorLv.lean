/-
  Leaves: the document's, the program's.
-/
import Derived.Test.YtdangnmeligfjaaGreatDoorZ31
import Derived.Test.YtdangnmeligfjaaGreatDoorZ28
import Derived.Test.YtdangnmeligfjaaGreatDoorZ23
import Derived.Test.YtdangnmeligfjaaGreatDoorZ12
namespace Go.Gk
open Go.RowKit
theorem leaves_are {l : List Acc} {x : Int} (h : x ∈ accLeaves l) : accLeaf l x = true := by
  unfold accLeaves at h
  exact (List.mem_filter.1 h).2
theorem take_filter {α : Type} (F : α → Bool) {l : List α} {j : Nat} (h : j < l.length) : (l.take (j + 1)).filter F = (l.take j).filter F ++ (if F l[j] then [l[j]] else []) := by
  rw [List.take_succ_eq_append_getElem h, filter_snoc]
end Go.Gk
namespace Go.Proofs.YtdangnmeligfjaaGreatDoor
open Go.RowKit Go.Gk

set_option maxRecDepth 100000 in
set_option maxHeartbeats 1600000 in
theorem refleaves20_any {w : World} {v : Value} {l : List Acc} (hl : RowsOf acc4 4 (fun _ => True) w v l) (hn : l.length ≤ 100000) :
    Calls Tryz.prog 129 #[v] w fun e w' => ∃ u, e = .returned u ∧ OutI w w' u (accLeaves l) := by
  unfold accLeaves
  have HL := Lib.hid (fun w' (t : Tch (fun _ => False) w w') i => refleaf_any (hl.keep t) hn i)
  obtain ⟨A, c, rfl, hc1, hc2⟩ := hl.form
  obtain ⟨F, hF⟩ : ∃ F : Int → Bool, accLeaf l = F := ⟨_, rfl⟩
  rw [hF] at HL ⊢
  clear hF hl
  go_enter Tryz.func129, Tryz.ntmps129
  go_wp2_with fail
  go_loopw [3, 4] (fun out i wr => ∃ (j : Nat) (xs : List Int), j ≤ l.length ∧ i = .int .i64 ((j : Int) + 1) ∧ (accIds j).filter F = xs ∧ OutI w wr out xs) (fun _ i _ => l.length + 1 - (intOf i).toNat)
  case atStart => exact ⟨0, [], Nat.zero_le _, rfl, rfl, Outs.start _ _ _ (Tch.refl _ _)⟩
  case round =>
    obtain ⟨j, xs, hj, rfl, hx, hO⟩ := hrel
    obtain ⟨O, co, rfl, ho1, ho2⟩ := hO.form
    have hxl : xs.length ≤ j := by
      rw [← hx]
      exact Nat.le_trans (List.length_filter_le _ _) (by rw [accIds_len]; omega)
    have HX := Lib.hid hx
    have hj0 : (0 : Int) ≤ (j : Int) := Int.natCast_nonneg _
    clear hx
    by_cases hlt : j < l.length
    · have hlt' : (j : Int) < (l.length : Int) := by omega
      have HS := Lib.hid (show (accIds (j + 1)).filter F = xs ++ (if F ((j : Int) + 1) then [(j : Int) + 1] else []) by rw [accIds_succ, filter_snoc, HX.out])
      have HL1 := Lib.hid (HL.out wr hO.tch ((j : Int) + 1))
      generalize F ((j : Int) + 1) = f at *
      go_wp2_with fail
      refine HL1.out.mono ?_
      rintro _ w1 ⟨rfl, t1⟩
      clear HL1
      have hO := hO.keep t1
      cases f
      · have HS := Lib.hid (show (accIds (j + 1)).filter F = xs by rw [HS.out]; simp)
        go_wp2
        go_roundw
        case rel => exact ⟨j + 1, xs, by omega, by go_num, HS.out, hO⟩
        case measure => simp [intOf]; omega
      · go_wp2_with ((at_builtin; refine wpList_append _ rfl _ _ 22 rfl rowInts (own_base (hO.own.alloc _)) (by rfl) (Go.Gk.Src.one (news := [.int .i64 ((j : Int) + 1)]) rfl (fun m9 u9 hu9 => by rw [(Blk.new (w1) 3 #[.int .i64 ((j : Int) + 1)]).cell m9]; simpa using hu9)) (by rfl) (by simp; rfl) (by unfold maxLen; omega) (by omega) ?_; intro v2 w2 ho2 hg2 hl2; have hO2 := hO.step (x := (j : Int) + 1) (Tch.alloc _ _ _) ho2 hg2 hl2; obtain ⟨O2, co2, rfl, _, _⟩ := own_form ho2))
        go_roundw
        case rel => exact ⟨j + 1, _, by omega, by go_num, HS.out, hO2⟩
        case measure => simp [intOf]; omega
    · obtain rfl : l.length = j := by omega
      have e := HX.out
      subst e
      go_wp2
      go_ret
      exact ⟨_, rfl, hO⟩

set_option maxRecDepth 100000 in
set_option maxHeartbeats 800000 in
theorem refleaves30_any {w : World} {e a s r l n : Value} {b : Bks} {us : List (Ent × Value)} (h : BksAt w e a s r l n b us) (hn : b.accs.length ≤ 100000) :
    Calls Tryz.prog 86 #[.agg #[e, a, s, r, l, n]] w fun y w' => ∃ u, y = .returned u ∧ OutI w w' u (accLeaves b.accs) := by
  have tw := Tch.alloc (fun _ => False) w (.cells #[e, a, s, r, l, n] 29)
  have HC := Lib.hid (refleaves20_any (h.keep tw).accs hn)
  generalize accLeaves b.accs = L at *
  obtain ⟨Ae, ce, rfl, _, _⟩ := h.ents.form
  obtain ⟨Aa, ca, rfl, _, _⟩ := h.accs.form
  obtain ⟨As, cs, rfl, _, _⟩ := h.stakes.form
  obtain ⟨Ar, cr, rfl, _, _⟩ := h.rates.form
  obtain ⟨Al, cl, rfl, _, _⟩ := h.locks.form
  obtain ⟨An, cn, rfl, _, _⟩ := h.ent.row.form
  clear h
  go_enter Tryz.func86, Tryz.ntmps86
  go_wp2_with fail
  refine HC.out.mono ?_
  rintro _ w2 ⟨u, rfl, hO⟩
  obtain ⟨O, co, rfl, _, _⟩ := hO.form
  go_wp2
  go_ret
  exact ⟨_, rfl, hO.base tw⟩

set_option maxRecDepth 100000 in
set_option maxHeartbeats 800000 in
theorem vwleaves_any {w : World} {bv bi B t mr mp : Nat} {e a s r l n lv : Value} {fs : List Value} {b : Bks} {us : List (Ent × Value)} (h : Vw w bv bi B t mr mp e a s r l n lv fs b us) (hn : (accLeaves b.accs).length ≤ 1000) :
    Calls Tryz.prog 14 #[.pointer (some ⟨bv, 0, none⟩)] w fun x w' => ∃ u, x = .returned u ∧ OutI w w' u (accLeaves b.accs) := by
  have hM := vwmade_any h
  have HC := Lib.hid (cloneints_any h.leaves (by omega))
  obtain ⟨A, c, rfl, _, _⟩ := h.leaves.form
  have v0 : w.cell? ⟨bv, 0, none⟩ = some _ := h.view.cell 0
  have v7 : w.cell? ⟨bi, 7, none⟩ = some (.slice A (accLeaves b.accs).length c) := h.seen.cell 7
  generalize accLeaves b.accs = L at *
  go_enter Tryz.func14, Tryz.ntmps14
  go_wp2_with fail
  refine hM.mono ?_
  rintro _ _ ⟨rfl, rfl⟩
  clear hM
  go_wp2_with fail
  refine HC.out.mono ?_
  rintro _ w1 ⟨u, rfl, hO⟩
  obtain ⟨O, co, rfl, _, _⟩ := hO.form
  go_wp2
  go_ret
  exact ⟨_, rfl, hO⟩

end Go.Proofs.YtdangnmeligfjaaGreatDoor
