/-
  The methods of pile.Pile[[2]int]: sink.
-/
import Derived.Test.YtnknemepfjfcfaaPe
namespace Go.Gk
/-- Which of i and of its children below k is least. -/
structure Best (l : List T3) (i k best : Nat) : Prop where
  spot : best = i ∨ (2 * i + 1 ≤ best ∧ best < k ∧ best < l.length)
  k1 : 2 * i + 1 ≤ k
  k2 : k ≤ 2 * i + 3
  here : le3 (g3 l best) (g3 l i)
  min : ∀ j, 2 * i + 1 ≤ j → j < k → j < l.length → le3 (g3 l best) (g3 l j)
  strict : best ≠ i → ¬ le3 (g3 l i) (g3 l best)
theorem Best.start (l : List T3) (i : Nat) : Best l i (2 * i + 1) i := ⟨.inl rfl, Nat.le_refl _, by omega, le3.refl _, fun j h1 h2 => by omega, fun h => absurd rfl h⟩
theorem Best.yes {l : List T3} {i k best : Nat} (h : Best l i k best) (hk : k ≤ 2 * i + 2) (hl : k < l.length) (hlt : ¬ le3 (g3 l best) (g3 l k)) : Best l i (k + 1) k := by
  have hle := le3.of_not hlt
  have k1 := h.k1
  refine ⟨.inr ⟨h.k1, by omega, hl⟩, by omega, by omega, hle.trans h.here, fun j h1 h2 h3 => ?_, fun _ hh => hlt (h.here.trans hh)⟩
  by_cases e : j = k
  · subst e; exact le3.refl _
  · exact hle.trans (h.min j h1 (by omega) h3)
theorem Best.no {l : List T3} {i k best : Nat} (h : Best l i k best) (hk : k ≤ 2 * i + 2) (hlt : le3 (g3 l best) (g3 l k)) : Best l i (k + 1) best := by
  have k1 := h.k1
  refine ⟨h.spot.imp id (fun hh => ⟨hh.1, by omega, hh.2.2⟩), by omega, by omega, h.here, fun j h1 h2 h3 => ?_, h.strict⟩
  by_cases e : j = k
  · subst e; exact hlt
  · exact h.min j h1 (by omega) h3
theorem Best.all {l : List T3} {i k best : Nat} (h : Best l i k best) (hk : ¬ (k ≤ 2 * i + 2 ∧ k < l.length)) : ∀ j, 0 < j → j < l.length → (j - 1) / 2 = i → le3 (g3 l best) (g3 l j) := fun j h1 h2 h3 => by
  have := h.k1
  exact h.min j (by omega) (by omega) h2
theorem Best.stop {l : List T3} {i k : Nat} (h : Best l i k i) (hd : HeapDown l i) (hk : ¬ (k ≤ 2 * i + 2 ∧ k < l.length)) : Heap l := hd.stop (h.all hk)
theorem Best.step {l : List T3} {i k best : Nat} (h : Best l i k best) (hd : HeapDown l i) (hk : ¬ (k ≤ 2 * i + 2 ∧ k < l.length)) (hne : best ≠ i) : i < best ∧ best < l.length ∧ HeapDown (swap3 l i best) best := by
  have k2 := h.k2
  rcases h.spot with e | ⟨h1, h2, h3⟩
  · exact absurd e hne
  · exact ⟨by omega, h3, hd.step (by omega) h3 (by omega) (h.strict hne) (h.all hk)⟩
end Go.Gk
namespace Go.Proofs.Ytnknemepfjfcfaa
open Go.RowKit Go.Gk

set_option maxRecDepth 100000 in
set_option maxHeartbeats 1600000 in
theorem sink_any {w : World} {b : Nat} {rv : Value} {row : List T3} {next : Int} (h : PileIs w b rv row next) (hd : HeapDown row 0) (hl : row.length ≤ 1000000) :
    Calls Try.prog 40 #[.pointer (some ⟨b, 0, none⟩)] w fun e w' => e = .returned (.tuple #[]) ∧ (∃ row', PileIs w' b rv row' next ∧ Heap row' ∧ row'.Perm row) ∧ Tch (pfoot b rv) w w' := by
  obtain ⟨A, c, rfl, hnc, hcm, _⟩ := own_form h.rows
  generalize hn : row.length = n at *
  have HN := Hid.out (p := Hid (row.length = n)) hn
  clear hn
  go_enter Try.func40, Try.ntmps40
  go_wp2
  go_loopw [2] (fun i wr => ∃ (j : Nat) (row' : List T3), j ≤ n ∧ i = .int .i64 j ∧ PileIs wr b (.slice A n c) row' next ∧ HeapDown row' j ∧ row'.Perm row ∧ Tch (pfoot b (.slice A n c)) w wr) (fun i _ => n - (intOf i).toNat)
  case atStart => exact ⟨0, row, Nat.zero_le _, rfl, h, hd, List.Perm.refl _, Tch.refl _ _⟩
  case round =>
    obtain ⟨j, row', hj, rfl, hP, hD, hp, ht⟩ := hrel
    clear h hd
    have HL := Hid.out (p := Hid (row'.length = n)) (by rw [hp.length_eq]; exact HN.out)
    obtain ⟨wo, rfl⟩ : ∃ wo : World, wo = wr := ⟨_, rfl⟩
    go_wp2
    go_loopw [3, 4] (fun best k wr => ∃ (be kk : Nat), best = .int .i64 be ∧ k = .int .i64 kk ∧ Best row' j kk be ∧ PileIs wr b (.slice A n c) row' next ∧ Tch (pfoot b (.slice A n c)) w wr) (fun _ k _ => 2 * j + 3 - (intOf k).toNat)
    case atStart => exact ⟨j, 2 * j + 1, rfl, by go_num, Best.start _ _, hP, ht⟩
    case round =>
      obtain ⟨be, kk, rfl, rfl, hB, hP, ht⟩ := hrel
      have k1 := hB.k1
      have k2 := hB.k2
      have c0 := hP.blk.cell 0
      by_cases hk : kk ≤ 2 * j + 2 ∧ kk < n
      · obtain ⟨hk1, hk2⟩ := hk
        have hbl : be < row'.length := by
          rw [HL.out]
          rcases hB.spot with e | ⟨_, h1, _⟩ <;> omega
        have hA := ahead_any hP (i := kk) (k := be) (by rw [HL.out]; exact hk2) hbl
        have hk1' : (kk : Int) ≤ 2 * (j : Int) + 2 := by omega
        have hk2' : (kk : Int) < (n : Int) := by omega
        by_cases hle : le3 (g3 row' be) (g3 row' kk)
        · have hB' := hB.no hk1 hle
          rw [decide_eq_true hle] at hA
          clear hle hk1 hk2
          go_wp2_with (go_at_call 38; with_reducible refine hA.mono ?_; rintro e w3 ⟨rfl, t3⟩)
          go_roundw
          case rel => exact ⟨be, kk + 1, rfl, by go_num, hB', hP.keep t3 id (fun _ _ => id), ht.trans (Exn.touch t3)⟩
          case measure => simp [intOf]; omega
        · have hB' := hB.yes hk1 (by rw [HL.out]; exact hk2) hle
          rw [decide_eq_false hle] at hA
          clear hle hk1 hk2
          go_wp2_with (go_at_call 38; with_reducible refine hA.mono ?_; rintro e w3 ⟨rfl, t3⟩)
          go_roundw
          case rel => exact ⟨kk, kk + 1, rfl, by go_num, hB', hP.keep t3 id (fun _ _ => id), ht.trans (Exn.touch t3)⟩
          case measure => simp [intOf]; omega
      · have hk' : ¬ (kk ≤ 2 * j + 2 ∧ kk < row'.length) := by rw [HL.out]; exact hk
        by_cases hbj : be = j
        · subst hbj
          have hH := hB.stop hD hk'
          have hbb : (((be : Nat) : Int) == ((be : Nat) : Int)) = true := by simp
          clear hk'
          by_cases hk1 : kk ≤ 2 * be + 2
          · have hk2 : ¬ ((kk : Int) < (n : Int)) := by omega
            have hk1' : (kk : Int) ≤ 2 * (be : Int) + 2 := by omega
            have hk3 : decide (kk < n) = false := by simp; omega
            clear hk hk1
            go_wp2
            (try rw [Exit.noGoto_ret])
            exact bodyPost_ret (results_none rfl _ _ _) rfl ⟨rfl, ⟨row', hP, hH, hp⟩, ht⟩
          · have hk1' : ¬ ((kk : Int) ≤ 2 * (be : Int) + 2) := by omega
            clear hk hk1
            go_wp2
            (try rw [Exit.noGoto_ret])
            exact bodyPost_ret (results_none rfl _ _ _) rfl ⟨rfl, ⟨row', hP, hH, hp⟩, ht⟩
        · obtain ⟨s1, s2, s3⟩ := hB.step hD hk' hbj
          have hS := swap_any hP (i := j) (k := be) (by omega) s2
          rw [HL.out] at s2
          have hbb : (((be : Nat) : Int) == ((j : Nat) : Int)) = false := by simp; omega
          have hp2 := (swap3_perm (l := row') (i := j) (k := be) (by rw [HL.out]; omega) (by rw [HL.out]; omega)).trans hp
          clear hk'
          by_cases hk1 : kk ≤ 2 * j + 2
          · have hk2 : ¬ ((kk : Int) < (n : Int)) := by omega
            have hk1' : (kk : Int) ≤ 2 * (j : Int) + 2 := by omega
            have hk3 : decide (kk < n) = false := by simp; omega
            clear hk hk1 hbj
            go_wp2_with (go_at_call 39; with_reducible refine hS.mono ?_; rintro e w3 ⟨rfl, hP3, t3⟩)
            go_roundw
            case rel => exact ⟨be, _, by omega, rfl, hP3, s3, hp2, ht.trans t3⟩
            case measure => simp [intOf]; omega
          · have hk1' : ¬ ((kk : Int) ≤ 2 * (j : Int) + 2) := by omega
            clear hk hk1 hbj
            go_wp2_with (go_at_call 39; with_reducible refine hS.mono ?_; rintro e w3 ⟨rfl, hP3, t3⟩)
            go_roundw
            case rel => exact ⟨be, _, by omega, rfl, hP3, s3, hp2, ht.trans t3⟩
            case measure => simp [intOf]; omega

end Go.Proofs.Ytnknemepfjfcfaa
