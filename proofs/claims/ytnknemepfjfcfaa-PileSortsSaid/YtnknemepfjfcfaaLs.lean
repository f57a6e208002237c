/-
  The law PileSorts.
-/
import Derived.Test.YtnknemepfjfcfaaPw
namespace Go.Proofs.Ytnknemepfjfcfaa
open Go.RowKit Go.Gk

set_option maxRecDepth 100000 in
set_option maxHeartbeats 1600000 in
theorem pileSorts_any {w : World} {A : Option Addr} {n c : Nat} (hl : ∃ l : KV, l.length = n ∧ Prs (fun _ => True) w (.slice A n c) l) :
    Calls Try.prog 4 #[.slice A n c] w fun e w' => e = .returned (.bool true) ∧ Tch (fun _ => False) w w' := by
  obtain ⟨l, rfl, hp⟩ := hl
  by_cases hbig : (100 : Int) < l.length
  · clear hp
    go_enter Try.func4, Try.ntmps4
    go_wp2_with (go_at_call 11; refine (awake9_any _).mono ?_; rintro e w3 ⟨rfl, t3⟩)
    go_ret
    exact ⟨rfl, t3⟩
  · have hS := sorted_any l.length hp (Nat.le_refl _) (by omega)
    have hR := fun (w' : World) (t : Tch (fun _ => False) w w') => rsorted_any (hp.keep t) (by omega) (fun _ _ => trivial)
    rw [msort_srt (Nat.le_refl _)] at hS
    generalize (srt l l.length).1 = s at *
    go_enter Try.func4, Try.ntmps4
    go_wp2_with fail
    refine hS.mono ?_
    rintro e w1 ⟨v1, rfl, ho, t1⟩
    have h1 := Row.own (P := fun _ => True) ho (fun _ _ => trivial)
    go_wp2_with fail
    refine (hR w1 t1).mono ?_
    rintro e w2 ⟨v2, rfl, h2, t2⟩
    go_wp2_with fail
    refine (rsame_any (h1.keep t2) h2).mono ?_
    rintro e w3 ⟨rfl, t3⟩
    go_wp2_with (go_at_call 11; refine (awake9_any _).mono ?_; rintro e w4 ⟨rfl, t4⟩)
    go_ret
    exact ⟨rfl, ((t1.trans t2).trans t3).trans t4⟩

end Go.Proofs.Ytnknemepfjfcfaa
