/-
  The law UndoKeeps.
-/
import Derived.Test.YtnknemepfjfcfaaUb
import Derived.Test.YtnknemepfjfcfaaGs
namespace Go.Proofs.Ytnknemepfjfcfaa
open Go.RowKit Go.Maps Go.Gk

theorem S0_neat : Neat S0 := ⟨fun _ => rfl, fun x hx => by cases hx⟩

set_option maxRecDepth 100000 in
set_option maxHeartbeats 1000000 in
theorem undoKeeps_any {w : World} {A : Option Addr} {n c : Nat} {l : List Act3} {A' : Option Addr} {n' c' : Nat} {l' : List Act3} (hl : ActsIs w A n c l) (hl' : ActsIs w A' n' c' l') :
    Calls Try.prog 8 #[.slice A n c, .slice A' n' c'] w fun e w' => e = .returned (.bool true) ∧ Tch (fun _ => False) w w' := by
  have hm := hl.max
  have hc := hl.cap
  have hm' := hl'.max
  have hc' := hl'.cap
  by_cases hbig : ¬ (n ≤ 40 ∧ n' ≤ 40)
  · clear hl hl'
    have hB : (40 : Int) < n ∨ (40 : Int) < n' := by omega
    clear hbig
    go_enter Try.func8, Try.ntmps8
    go_wp2_with fail
    refine (new_any w).mono ?_
    rintro e w1 ⟨a, F1, rfl, -, t1, -⟩
    go_wp2_with fail
    refine (new_any w1).mono ?_
    rintro e w2 ⟨b, F2, rfl, -, t2, -⟩
    go_wp2_with (go_at_call 21; refine (awake16_any _).mono ?_; rintro e w3 ⟨rfl, t3⟩)
    all_goals
      first
      | (exfalso; omega)
      | (go_ret; exact ⟨rfl, (t1.trans t2).trans t3⟩)
  obtain ⟨h40, h60⟩ : n ≤ 40 ∧ n' ≤ 40 := by omega
  clear hbig
  have RF := run_facts hl h40
  go_enter Try.func8, Try.ntmps8
  go_wp2_with fail
  refine (new_any w).mono ?_
  rintro e w1 ⟨a, F1, rfl, h1, t1, n1⟩
  go_wp2_with fail
  refine (new_any w1).mono ?_
  rintro e w2 ⟨b, F2, rfl, h2, t2, n2⟩
  have hT0 := Two.news w h1 t1 n1 h2 t2 n2
  clear h1 t1 n1 h2 t2 n2
  go_wp2_with fail
  all_goals first | (exfalso; omega) | skip
  go_loopw [7] (fun i wr => ∃ k : Nat, k ≤ n ∧ i = .int .i64 k ∧ Two w wr a b (runS S0 (l.take k)) (runS S0 (l.take k))) (fun i _ => n - (intOf i).toNat)
  case atStart => exact ⟨0, Nat.zero_le _, rfl, hT0⟩
  case round =>
    obtain ⟨k, hk, rfl, hT⟩ := hrel
    clear hT0
    by_cases hlt : k < n
    · obtain ⟨g, off, x, rfl, hx, x0, x1, x2, q0, q1, q2⟩ := hl.at hlt
      have hST := runS_take (s := S0) hx
      have hR := RF k
      generalize runS S0 (l.take k) = s at hT hST hR
      clear hx RF
      have hb : s.bulk ≤ 1000000 := by omega
      have r0 := hT.tch.cell_some q0 id
      have r1 := hT.tch.cell_some q1 id
      have r2 := hT.tch.cell_some q2 id
      go_wp2_with (go_at_call 22; first
        | (with_reducible refine (do_two hT hR.1 x1 x2 hb).mono ?_; rintro e w3 ⟨rfl, hT3, -⟩; clear r0 r1 r2 hT; have r0 := hT3.tch.cell_some q0 id; have r1 := hT3.tch.cell_some q1 id; have r2 := hT3.tch.cell_some q2 id)
        | (with_reducible refine (do_two hT3.symm hR.1 x1 x2 hb).mono ?_; rintro e w4 ⟨rfl, hT4, -⟩; clear r0 r1 r2 hT3))
      go_roundw
      case rel => exact ⟨k + 1, by omega, by go_num, by rw [hST]; exact hT4.symm⟩
      case measure => simp [intOf]; omega
    · obtain rfl : n = k := by omega
      have hR := RF n
      have hN := runS_neat (l.take n) S0 S0_neat
      generalize runS S0 (l.take n) = s at hT hR hN
      clear RF hlt
      have hb : s.bulk ≤ 1000000 := by omega
      have hd : s.begins.length < 64 := by omega
      go_wp2_with (first
        | (go_at_call 28; with_reducible refine (begin_two hT hd hb).mono ?_; rintro e w3 ⟨rfl, hT3, -⟩))
      have hok : s.begin.Ok := begin_ok hR.1
      have hbb : s.begin.bulk = s.bulk := rfl
      clear hT
      go_loopw [8] (fun i wr => ∃ (k : Nat) (u v : St), k ≤ n' ∧ i = .int .i64 k ∧ Two w wr a b u v ∧ Kept u v ∧ u.Ok ∧ v.Ok ∧ u.bulk ≤ 80 + 2 * k ∧ v.bulk ≤ 80 + 2 * k ∧ v.begins.length ≤ 40) (fun i _ => n' - (intOf i).toNat)
      case atStart => exact ⟨0, _, _, Nat.zero_le _, rfl, hT3, Kept.start hN, hok, hR.1, by omega, by omega, by omega⟩
      case round =>
        obtain ⟨k, u, v, hk, rfl, hT, hK, huok, hvok, hub, hvb, hvd⟩ := hrel
        clear hT3 hok hbb hN hR hb hd
        by_cases hlt : k < n'
        · obtain ⟨g, off, x, rfl, hx, x0, x1, x2, q0, q1, q2⟩ := hl'.at hlt
          have hub' : u.bulk ≤ 1000000 := by omega
          have hvb' : v.bulk ≤ 1000000 := by omega
          have r0 := hT.tch.cell_some q0 id
          clear hx
          by_cases h01 : x.1 = 0 ∨ x.1 = 1
          · have hs1 := hK.step h01
            have hn1 := doS_ok huok x1 x2
            have hn2 := doS_bulk u x
            have hn3 := doS_ok hvok x1 x2
            have hn4 := doS_bulk v x
            have HDO : ∀ w1, Two w w1 a b u v → _ := fun w1 h => do_two (x := x) h huok x1 x2 hub'
            have HDP : ∀ w1, Two w w1 a b (doS u x).1 v → _ := fun w1 h => do_two (x := x) h.symm hvok x1 x2 hvb'
            rw [← hs1.2.1] at HDP
            obtain ⟨hs1, -, hs2⟩ := hs1
            generalize doS u x = ru at *
            generalize doS v x = rv at *
            obtain ⟨u', r⟩ := ru
            obtain ⟨v', r'⟩ := rv
            dsimp only at *
            have hTd := hT.keep (Tch.drew (fun _ => False) wr)
            have hlt0 : g < w.heap.size := World.block_lt_of_cell? w _ q0
            have p0 := within_cell (F := fun k => w.heap.size ≤ k) (hT.tch.cell_some q0 id) (by show ¬ w.heap.size ≤ g; omega)
            have p1 := within_cell (F := fun k => w.heap.size ≤ k) (hT.tch.cell_some q1 id) (by show ¬ w.heap.size ≤ g; omega)
            have p2 := within_cell (F := fun k => w.heap.size ≤ k) (hT.tch.cell_some q2 id) (by show ¬ w.heap.size ≤ g; omega)
            clear hK huok hT q0 q1 q2 r' hlt0
            obtain ⟨kd, kk, kv⟩ := x
            dsimp only at *
            rcases h01 with rfl | rfl
            all_goals
              go_wp2_with fail
              obtain ⟨J, hJ⟩ : ∃ J : Nat → World → Prop, J = fun s w' => if s = 0 then Two w w' a b u v else Two w w' a b u' v := ⟨_, rfl⟩
              have HJ := Hid.out (p := Hid (J = _)) hJ
              clear hJ r0
              refine wp_region_spine (fun k => w.heap.size ≤ k) [] 11 [(5, .inl (.int .i64 r))] [(5, 0)] 1 J (by kernel_rfl) rfl (by kernel_rfl) (by kernel_rfl) rfl (fun d _ _ _ _ h => by cases d <;> exact h) trivial (by rw [HJ.out]; exact hTd) (fun s w1 w2 ht hj => ?_) ?_
              · rw [HJ.out] at hj ⊢
                dsimp only at hj ⊢
                split
                · rename_i h0; rw [if_pos h0] at hj; exact hj.keep ht
                · rename_i h0; rw [if_neg h0] at hj; exact hj.keep ht
              intro bef ops hbef hops
              clear hbef hops
              simp only [List.take_succ_cons, List.take_zero, List.drop_succ_cons, List.drop_zero]
              iterate 5 (refine s_det (by rfl) (by rfl) (by rfl) (by rfl) (fun K hK => ?_); go_big_quiet_op; (first | refine hK _ ?_ | refine ⟨_, fun _ => rfl, hK _ ?_⟩); clear hK K)
              refine s_fix _ 0 (by rfl) (by rfl) (by rfl) (fun w1 hr hj => ?_) ?_
              · clear p0 p1 p2
                rw [HJ.out] at hj
                have hj' : Two w w1 a b u v := hj
                clear hj
                refine yields_of_wp (d := 75) rfl (by simp) (fun K hK => ?_)
                go_step
                refine (HDO w1 hj').mono ?_
                rintro e w2 ⟨rfl, h1, h2⟩
                exact hK _ _ ⟨rfl, h2, by rw [HJ.out]; exact h1⟩
              · simp only [Act.put, List.setIfInBounds_toArray, List.set_cons_succ, List.set_cons_zero]
                iterate 5 (refine s_det (by rfl) (by rfl) (by rfl) (by rfl) (fun K hK => ?_); go_big_quiet_op; (first | refine hK _ ?_ | refine ⟨_, fun _ => rfl, hK _ ?_⟩); clear hK K)
                refine s_nil ?_
                intro w2 hr hj _
                rw [HJ.out] at hj
                have hj' : Two w w2 a b u' v := hj
                clear hj p0 p1 p2 HJ hr
                have HP := HDP w2 hj'
                clear HDO HDP
                go_wp2_with (go_at_call 22; with_reducible refine HP.mono ?_; rintro e w3 ⟨rfl, hT3, -⟩)
                go_roundw
                case rel => exact ⟨k + 1, u', v', by omega, by go_num, hT3.symm, hs1, hn1, hn3, by omega, by omega, by rw [hs2]; exact hvd⟩
                case measure => simp [intOf]; omega
          · have b0 : (x.1 == 0) = false := by simp; omega
            have b1 : (x.1 == 1) = false := by simp; omega
            have c0 : ¬ x.1 = 0 := by omega
            have c1 : ¬ x.1 = 1 := by omega
            clear h01 q0 q1 q2
            go_wp2_with fail
            go_roundw
            case rel => exact ⟨k + 1, u, v, by omega, by go_num, hT, hK, huok, hvok, by omega, by omega, hvd⟩
            case measure => simp [intOf]; omega
        · obtain ⟨hne, hlast⟩ := hK.last
          have HK := keep_two hT hne
          rw [hlast] at HK
          have hvb' : v.bulk ≤ 200 := by omega
          clear hK hub hvb hlast hne huok hT
          go_wp2_with (first
            | (go_at_call 31; with_reducible refine HK.mono ?_; rintro e w3 ⟨rfl, hT3, -⟩; have HS1 := same_two hT3 (hl.keep hT3.tch) (Eqv.refl _); have HS2 := same_two hT3 (hl'.keep hT3.tch) (Eqv.refl _); have HD1 := depth_two hT3; have HD2 := depth_two hT3.symm)
            | (go_at_call 27; first | (with_reducible refine HD1.mono ?_; rintro e w' ⟨rfl, rfl⟩) | (with_reducible refine HD2.mono ?_; rintro e w' ⟨rfl, rfl⟩))
            | (go_at_call 30; first | (with_reducible refine HS1.mono ?_; rintro e w' ⟨rfl, rfl⟩) | (with_reducible refine HS2.mono ?_; rintro e w' ⟨rfl, rfl⟩)))
          clear HS1 HS2 HD1 HD2 HK
          go_loopw [9] (fun i wr => ∃ (k : Nat) (v : St), k ≤ 64 ∧ i = .int .i64 k ∧ Two w wr a b v v ∧ v.Ok ∧ v.bulk ≤ 200 + 2 * k ∧ v.begins.length + k ≤ 64) (fun i _ => 64 - (intOf i).toNat)
          case atStart => exact ⟨0, _, Nat.zero_le _, rfl, hT3, hvok, by omega, by omega⟩
          case round =>
            clear hT3 hvok hvb' hvd
            obtain ⟨k, v, hk, rfl, hT, hvok, hvb, hvd⟩ := hrel
            have HD1 := depth_two hT
            have HD2 := depth_two hT.symm
            by_cases hlt : k < 64 ∧ 0 < v.begins.length
            · obtain ⟨hk1, hk2⟩ := hlt
              have hne : v.begins ≠ [] := List.length_pos_iff.1 hk2
              obtain ⟨hn1, hn2, hn3⟩ := back_facts hne hvok
              have HB := back_two hT hvok hne (by omega)
              have HB2 : ∀ w1 u, Two w w1 a b u v → _ := fun w1 u h => back_two h.symm hvok hne (by omega)
              clear HD2
              go_wp2_with (first
                | (go_at_call 27; with_reducible refine HD1.mono ?_; rintro e w' ⟨rfl, rfl⟩)
                | (go_at_call 29; first | (with_reducible refine HB.mono ?_; rintro e w3 ⟨rfl, hT3, -⟩) | (with_reducible refine (HB2 _ _ hT3).mono ?_; rintro e w4 ⟨rfl, hT4, -⟩; have HS1 := same_two hT4.symm (hl.keep hT4.tch) (Eqv.refl _); have HS2 := same_two hT4.symm (hl'.keep hT4.tch) (Eqv.refl _)))
                | (go_at_call 30; first | (with_reducible refine HS1.mono ?_; rintro e w' ⟨rfl, rfl⟩) | (with_reducible refine HS2.mono ?_; rintro e w' ⟨rfl, rfl⟩)))
              go_roundw
              case rel => exact ⟨k + 1, _, by omega, by go_num, hT4.symm, hn1, by omega, by omega⟩
              case measure => simp [intOf]; omega
            · have hz : v.begins.length = 0 := by omega
              rw [hz] at HD1 HD2
              have htch := hT.tch
              clear hlt hT hvok hvb hz
              go_wp2_with (first
                | (go_at_call 27; first | (with_reducible refine HD1.mono ?_; rintro e w' ⟨rfl, rfl⟩) | (with_reducible refine HD2.mono ?_; rintro e w' ⟨rfl, rfl⟩))
                | (go_at_call 21; refine (awake16_any _).mono ?_; rintro e w3 ⟨rfl, t3⟩))
              all_goals
                go_ret
                exact ⟨rfl, htch.trans t3⟩

end Go.Proofs.Ytnknemepfjfcfaa
