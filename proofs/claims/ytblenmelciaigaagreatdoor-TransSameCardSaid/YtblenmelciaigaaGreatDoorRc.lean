/-
  Ratios that may be.
-/
import Derived.Test.YtblenmelciaigaaGreatDoorZ49
import Derived.Test.YtblenmelciaigaaGreatDoorZ2
import Derived.Test.YtblenmelciaigaaGreatDoorZ4
namespace Go.Proofs.YtblenmelciaigaaGreatDoor
open Go.RowKit Go.Gk

set_option maxRecDepth 100000 in
set_option maxHeartbeats 1600000 in
theorem rcheck_any (r1 r2 : Int) (w : World) :
    Calls Tryz.prog 133 #[.agg #[.int .i64 r1, .int .i64 r2]] w fun e w' => e = .returned (.int .i64 (if ratOK (r1, r2) = true then 0 else 11)) ∧ Tch (fun _ => False) w w' := by
  by_cases h1 : min r1 r2 < 1
  · have HF := Lib.hid (show (if ratOK (r1, r2) = true then (0 : Int) else 11) = 11 from if_neg (by unfold ratOK; simp only [Bool.and_eq_true, decide_eq_true_eq]; omega))
    rw [HF.out]
    have g1 : decide (min r1 r2 < 1) = true := decide_eq_true h1
    clear HF h1
    go_enter Tryz.func133, Tryz.ntmps133
    go_wp2
    go_ret
    exact ⟨rfl, Tch.alloc _ _ _⟩
  · have g1 : decide (min r1 r2 < 1) = false := decide_eq_false h1
    by_cases h2 : max r1 r2 > 1000000000000
    · have HF := Lib.hid (show (if ratOK (r1, r2) = true then (0 : Int) else 11) = 11 from if_neg (by unfold ratOK; simp only [Bool.and_eq_true, decide_eq_true_eq]; omega))
      rw [HF.out]
      have g2 : decide (1000000000000 < max r1 r2) = true := decide_eq_true h2
      clear HF h1 h2
      go_enter Tryz.func133, Tryz.ntmps133
      go_wp2
      go_ret
      exact ⟨rfl, Tch.alloc _ _ _⟩
    · have HF := Lib.hid (show (if ratOK (r1, r2) = true then (0 : Int) else 11) = 0 from if_pos (by unfold ratOK; simp only [Bool.and_eq_true, decide_eq_true_eq]; omega))
      rw [HF.out]
      have g2 : decide (1000000000000 < max r1 r2) = false := decide_eq_false h2
      clear HF h1 h2
      go_enter Tryz.func133, Tryz.ntmps133
      go_wp2
      go_ret
      exact ⟨rfl, Tch.alloc _ _ _⟩

end Go.Proofs.YtblenmelciaigaaGreatDoor
