/-
  Leaves: the document's, the program's.
-/
import Derived.Test.YtdangnmeligfjaaGreatDoorZ31
import Derived.Test.YtdangnmeligfjaaGreatDoorZ28
import Derived.Test.YtdangnmeligfjaaGreatDoorZ23
import Derived.Test.YtdangnmeligfjaaGreatDoorZ12
namespace Go.Gk
open Go.RowKit
theorem leaves_are {l : List Acc} {x : Int} (h : x ∈ accLeaves l) : accLeaf l x = true := by
 unfold accLeaves at h
 exact (List.mem_filter.1 h).2
theorem take_filter {α : Type} (F : α → Bool) {l : List α} {j : Nat} (h : j < l.length) : (l.take (j + 1)).filter F = (l.take j).filter F ++ (if F l[j] then [l[j]] else []) := by
 rw [List.take_succ_eq_append_getElem h, filter_snoc]
end Go.Gk
namespace Go.Proofs.YtdangnmeligfjaaGreatDoor
open Go.RowKit Go.Gk
set_option maxRecDepth 100000 in
set_option maxHeartbeats 800000 in
theorem vwleaves_any {w : World} {bv bi B t mr mp : Nat} {e a s r l n lv : Value} {fs : List Value} {b : Bks} {us : List (Ent × Value)} (h : Vw w bv bi B t mr mp e a s r l n lv fs b us) (hn : (accLeaves b.accs).length ≤ 1000) :
 Calls Tryz.prog 14 #[.pointer (some ⟨bv, 0, none⟩)] w fun x w' => ∃ u, x = .returned u ∧ OutI w w' u (accLeaves b.accs) := by
 have hM := vwmade_any h
 have HC := Lib.hid (cloneints_any h.leaves (by omega))
 obtain ⟨A, c, rfl, _, _⟩ := h.leaves.form
 have v0 : w.cell? ⟨bv, 0, none⟩ = some _ := h.view.cell 0
 have v7 : w.cell? ⟨bi, 7, none⟩ = some (.slice A (accLeaves b.accs).length c) := h.seen.cell 7
 generalize accLeaves b.accs = L at *
 go_enter Tryz.func14, Tryz.ntmps14
 go_wp2_with fail
 refine hM.mono ?_
 rintro _ _ ⟨rfl, rfl⟩
 clear hM
 go_wp2_with fail
 refine HC.out.mono ?_
 rintro _ w1 ⟨u, rfl, hO⟩
 obtain ⟨O, co, rfl, _, _⟩ := hO.form
 go_wp2
 go_ret
 exact ⟨_, rfl, hO⟩
end Go.Proofs.YtdangnmeligfjaaGreatDoor
