/-
  The document's: what keys may be.
-/
import Derived.Test.YtdangnmeligfjaaGreatDoorZ13
import Derived.Test.YtdangnmeligfjaaGreatDoorZ9
import Derived.Test.YtdangnmeligfjaaGreatDoorZ10
import Derived.Test.YtdangnmeligfjaaGreatDoorZ20
namespace Go.Gk
theorem cellOK_iff (r e a p u q : Int) : cellOK (r, e, a, p, u, q) = true ↔ (1 ≤ r ∧ r ≤ 7 ∧ 1 ≤ e ∧ e ≤ 40 ∧ 1 ≤ a ∧ a ≤ 60 ∧ 0 ≤ p ∧ p ≤ 23 ∧ (r ≤ 2 → u = 0) ∧ (2 < r → 1 ≤ u ∧ u ≤ 8) ∧ (3 < r → q = 0) ∧ 0 ≤ q ∧ q ≤ 40 ∧ q ≠ e) := by
  unfold cellOK
  simp only [Bool.and_eq_true, wi, decide_eq_true_eq, Bool.not_eq_true', beq_eq_false_iff_ne]
  by_cases h1 : r = 1 ∨ r = 2
  · simp only [h1, if_true]
    by_cases h3 : r ≤ 3
    · simp only [h3, if_true]; omega
    · omega
  · simp only [h1, if_false]
    by_cases h3 : r ≤ 3
    · simp only [h3, if_true]; omega
    · simp only [h3, if_false]; omega
end Go.Gk
namespace Go.Proofs.YtdangnmeligfjaaGreatDoor
open Go.RowKit Go.Gk

set_option maxRecDepth 100000 in
set_option maxHeartbeats 6400000 in
theorem refcheck_any (c : Rt6) (w : World) :
    Calls Tryz.prog 161 #[cellV c] w fun x w' => x = .returned (.int .i64 (if cellOK c then 0 else 41)) ∧ Tch (fun _ => False) w w' := by
  obtain ⟨r, e, a, p, u, q⟩ := c
  obtain ⟨m, hm⟩ : ∃ m : Int, (if cellOK (r, e, a, p, u, q) = true then (0 : Int) else 41) = m := ⟨_, rfl⟩
  simp only [hm]
  have HM := Lib.hid (show ((1 ≤ r ∧ r ≤ 7 ∧ 1 ≤ e ∧ e ≤ 40 ∧ 1 ≤ a ∧ a ≤ 60 ∧ 0 ≤ p ∧ p ≤ 23 ∧ (r ≤ 2 → u = 0) ∧ (2 < r → 1 ≤ u ∧ u ≤ 8) ∧ (3 < r → q = 0) ∧ 0 ≤ q ∧ q ≤ 40 ∧ q ≠ e) ∧ m = 0) ∨ (¬ (1 ≤ r ∧ r ≤ 7 ∧ 1 ≤ e ∧ e ≤ 40 ∧ 1 ≤ a ∧ a ≤ 60 ∧ 0 ≤ p ∧ p ≤ 23 ∧ (r ≤ 2 → u = 0) ∧ (2 < r → 1 ≤ u ∧ u ≤ 8) ∧ (3 < r → q = 0) ∧ 0 ≤ q ∧ q ≤ 40 ∧ q ≠ e) ∧ m = 41) by
    split at hm
    · rename_i h; exact .inl ⟨(cellOK_iff ..).1 h, hm.symm⟩
    · rename_i h; exact .inr ⟨fun h2 => h ((cellOK_iff ..).2 h2), hm.symm⟩)
  clear hm
  unfold cellV
  have hb := Blk.new w 31 #[.int .i64 r, .int .i64 e, .int .i64 a, .int .i64 p, .int .i64 u, .int .i64 q]
  have tw := Tch.alloc (fun _ => False) w (.cells #[.int .i64 r, .int .i64 e, .int .i64 a, .int .i64 p, .int .i64 u, .int .i64 q] 31)
  go_enter Tryz.func161, Tryz.ntmps161
  by_cases h0 : r < 1
  · obtain rfl : m = 41 := by have := HM.out; omega
    clear HM
    go_wp2
    go_ret
    exact ⟨rfl, Tch.alloc _ _ _⟩
  by_cases h1 : 7 < r
  · obtain rfl : m = 41 := by have := HM.out; omega
    clear HM
    go_wp2
    go_ret
    exact ⟨rfl, Tch.alloc _ _ _⟩
  by_cases h2 : e < 1
  · obtain rfl : m = 41 := by have := HM.out; omega
    clear HM
    go_wp2
    go_ret
    exact ⟨rfl, Tch.alloc _ _ _⟩
  by_cases h3 : 40 < e
  · obtain rfl : m = 41 := by have := HM.out; omega
    clear HM
    go_wp2
    go_ret
    exact ⟨rfl, Tch.alloc _ _ _⟩
  by_cases h4 : a < 1
  · obtain rfl : m = 41 := by have := HM.out; omega
    clear HM
    go_wp2
    go_ret
    exact ⟨rfl, Tch.alloc _ _ _⟩
  by_cases h5 : 60 < a
  · obtain rfl : m = 41 := by have := HM.out; omega
    clear HM
    go_wp2
    go_ret
    exact ⟨rfl, Tch.alloc _ _ _⟩
  by_cases h6 : p < 0
  · obtain rfl : m = 41 := by have := HM.out; omega
    clear HM
    go_wp2
    go_ret
    exact ⟨rfl, Tch.alloc _ _ _⟩
  by_cases h7 : 23 < p
  · obtain rfl : m = 41 := by have := HM.out; omega
    clear HM
    go_wp2
    go_ret
    exact ⟨rfl, Tch.alloc _ _ _⟩
  by_cases hr : r ≤ 2
  · by_cases hu : u = 0
    rotate_left
    · obtain rfl : m = 41 := by have := HM.out; omega
      clear HM
      go_wp2
      go_ret
      exact ⟨rfl, Tch.alloc _ _ _⟩
    subst hu
    have hr3 : ¬ 3 < r := by omega
    by_cases g0 : q < 0
    · obtain rfl : m = 41 := by have := HM.out; omega
      clear HM
      go_wp2
      go_ret
      exact ⟨rfl, Tch.alloc _ _ _⟩
    by_cases g1 : 40 < q
    · obtain rfl : m = 41 := by have := HM.out; omega
      clear HM
      go_wp2
      go_ret
      exact ⟨rfl, Tch.alloc _ _ _⟩
    by_cases g2 : q = e
    · subst g2
      · obtain rfl : m = 41 := by have := HM.out; omega
        clear HM
        go_wp2
        go_ret
        exact ⟨rfl, Tch.alloc _ _ _⟩
    · obtain rfl : m = 0 := by have := HM.out; omega
      clear HM
      go_wp2
      go_ret
      exact ⟨rfl, Tch.alloc _ _ _⟩
  by_cases hu1 : u < 1
  · obtain rfl : m = 41 := by have := HM.out; omega
    clear HM
    go_wp2
    go_ret
    exact ⟨rfl, Tch.alloc _ _ _⟩
  by_cases hu2 : 8 < u
  · obtain rfl : m = 41 := by have := HM.out; omega
    clear HM
    go_wp2
    go_ret
    exact ⟨rfl, Tch.alloc _ _ _⟩
  by_cases hr3 : r ≤ 3
  · have hr4 : ¬ 3 < r := by omega
    by_cases g0 : q < 0
    · obtain rfl : m = 41 := by have := HM.out; omega
      clear HM
      go_wp2
      go_ret
      exact ⟨rfl, Tch.alloc _ _ _⟩
    by_cases g1 : 40 < q
    · obtain rfl : m = 41 := by have := HM.out; omega
      clear HM
      go_wp2
      go_ret
      exact ⟨rfl, Tch.alloc _ _ _⟩
    by_cases g2 : q = e
    · subst g2
      · obtain rfl : m = 41 := by have := HM.out; omega
        clear HM
        go_wp2
        go_ret
        exact ⟨rfl, Tch.alloc _ _ _⟩
    · obtain rfl : m = 0 := by have := HM.out; omega
      clear HM
      go_wp2
      go_ret
      exact ⟨rfl, Tch.alloc _ _ _⟩
  by_cases hq : q = 0
  rotate_left
  · obtain rfl : m = 41 := by have := HM.out; omega
    clear HM
    go_wp2
    go_ret
    exact ⟨rfl, Tch.alloc _ _ _⟩
  subst hq
  have h0e : ¬ 0 = e := by omega
  · obtain rfl : m = 0 := by have := HM.out; omega
    clear HM
    go_wp2
    go_ret
    exact ⟨rfl, Tch.alloc _ _ _⟩

set_option maxRecDepth 100000 in
set_option maxHeartbeats 800000 in
theorem refin_any (c : Rt6) (ne na : Int) (w : World) :
    Calls Tryz.prog 124 #[cellV c, .int .i64 ne, .int .i64 na] w fun x w' => x = .returned (.int .i64 (cellIn c ne na)) ∧ Tch (fun _ => False) w w' := by
  have hC := refcheck_any c
  obtain ⟨r, e, a, p, u, q⟩ := c
  unfold cellIn
  unfold cellV at hC ⊢
  generalize cellOK (r, e, a, p, u, q) = b at *
  obtain ⟨m, hm⟩ : ∃ m : Int, (if b = true then (if ne < max e q then 20 else if na < a then 21 else 0) else 41) = m := ⟨_, rfl⟩
  simp only [hm]
  have HM := Lib.hid hm
  clear hm
  have hb := Blk.new w 31 #[.int .i64 r, .int .i64 e, .int .i64 a, .int .i64 p, .int .i64 u, .int .i64 q]
  have tw := Tch.alloc (fun _ => False) w (.cells #[.int .i64 r, .int .i64 e, .int .i64 a, .int .i64 p, .int .i64 u, .int .i64 q] 31)
  have HC := Lib.hid hC
  clear hC
  go_enter Tryz.func124, Tryz.ntmps124
  go_wp2_with fail
  generalize w.alloc (.cells #[.int .i64 r, .int .i64 e, .int .i64 a, .int .i64 p, .int .i64 u, .int .i64 q] 31) = W at *
  generalize w.heap.size = z at *
  refine (HC.out W).mono ?_
  rintro _ w1 ⟨rfl, t1⟩
  clear HC
  have hb1 := hb.keep t1 id
  have q1 : w1.cell? ⟨z, 1, none⟩ = some (.int .i64 e) := hb1.cell 1
  have q2 : w1.cell? ⟨z, 2, none⟩ = some (.int .i64 a) := hb1.cell 2
  have q5 : w1.cell? ⟨z, 5, none⟩ = some (.int .i64 q) := hb1.cell 5
  have tt := tw.trans t1
  clear hb hb1 tw t1
  cases b
  · obtain rfl : m = 41 := by have := HM.out; simpa using this.symm
    clear HM
    go_wp2
    go_ret
    exact ⟨rfl, tt⟩
  · by_cases h1 : ne < max e q
    · obtain rfl : m = 20 := by have := HM.out; simpa [h1] using this.symm
      clear HM
      go_wp2
      all_goals (first | (go_ret; exact ⟨rfl, tt⟩) | (exfalso; omega))
    · by_cases h2 : na < a
      · obtain rfl : m = 21 := by have := HM.out; simpa [h1, h2] using this.symm
        clear HM
        go_wp2
        all_goals (first | (go_ret; exact ⟨rfl, tt⟩) | (exfalso; omega))
      · obtain rfl : m = 0 := by have := HM.out; simpa [h1, h2] using this.symm
        clear HM
        go_wp2
        all_goals (first | (go_ret; exact ⟨rfl, tt⟩) | (exfalso; omega))

set_option maxRecDepth 100000 in
set_option maxHeartbeats 800000 in
theorem refmay30_any {w : World} {e a s r l n : Value} {b : Bks} {us : List (Ent × Value)} (h : BksAt w e a s r l n b us) (c : Rt6) :
    Calls Tryz.prog 83 #[.agg #[e, a, s, r, l, n], cellV c] w fun x w' => x = .returned (.int .i64 (cellIn c b.ents.length b.accs.length)) ∧ Tch (fun _ => False) w w' := by
  have HC := Lib.hid (fun w' => refin_any c b.ents.length b.accs.length w')
  obtain ⟨c1, c2, c3, c4, c5, c6⟩ := c
  unfold cellV at HC ⊢
  simp only at HC ⊢
  generalize cellIn (c1, c2, c3, c4, c5, c6) b.ents.length b.accs.length = R at *
  obtain ⟨Ae, ce, rfl, _, _⟩ := h.ents.form
  obtain ⟨Aa, ca, rfl, _, _⟩ := h.accs.form
  obtain ⟨As, cs, rfl, _, _⟩ := h.stakes.form
  obtain ⟨Ar, cr, rfl, _, _⟩ := h.rates.form
  obtain ⟨Al, cl, rfl, _, _⟩ := h.locks.form
  obtain ⟨An, cn, rfl, _, _⟩ := h.ent.row.form
  have tw := (Tch.alloc (fun _ => False) w (.cells #[.slice Ae b.ents.length ce, .slice Aa b.accs.length ca, .slice As b.stakes.length cs, .slice Ar b.rates.length cr, .slice Al b.locks.length cl, .slice An us.length cn] 29)).trans (Tch.alloc (fun _ => False) _ (.cells #[.int .i64 c1, .int .i64 c2, .int .i64 c3, .int .i64 c4, .int .i64 c5, .int .i64 c6] 31))
  clear h
  go_enter Tryz.func83, Tryz.ntmps83
  go_wp2_with fail
  refine (HC.out _).mono ?_
  rintro _ w2 ⟨rfl, t2⟩
  go_wp2
  go_ret
  exact ⟨rfl, tw.trans t2⟩
end Go.Proofs.YtdangnmeligfjaaGreatDoor

/-
  The document's: leaves; what keys may be.
-/
namespace Go.Gk
open Go.RowKit
/-- The children of an account among the first ones. -/
def kidsF (a : Int) : Nat → List Acc → List Int
  | _, [] => []
  | i, x :: r => (if x.1 = a then [(i : Int) + 1] else []) ++ kidsF a (i + 1) r
theorem kidsF_snoc (a : Int) (x : Acc) : ∀ (l : List Acc) (i : Nat), kidsF a i (l ++ [x]) = kidsF a i l ++ (if x.1 = a then [((i + l.length : Nat) : Int) + 1] else [])
  | [], i => by simp [kidsF]
  | y :: r, i => by
    simp only [List.cons_append, kidsF, kidsF_snoc a x r (i + 1), List.length_cons, List.append_assoc]
    rw [show i + 1 + r.length = i + (r.length + 1) by omega]
theorem kids_take (a : Int) {l : List Acc} {j : Nat} (h : j < l.length) : kidsF a 0 (l.take (j + 1)) = kidsF a 0 (l.take j) ++ (if l[j].1 = a then [(j : Int) + 1] else []) := by
  rw [List.take_succ_eq_append_getElem h, kidsF_snoc, List.length_take, Nat.min_eq_left (Nat.le_of_lt h), Nat.zero_add]
theorem kidsF_len (a : Int) : ∀ (l : List Acc) (i : Nat), (kidsF a i l).length ≤ l.length
  | [], _ => by simp [kidsF]
  | x :: r, i => by
    have := kidsF_len a r (i + 1)
    simp only [kidsF, List.length_append, List.length_cons]
    split <;> simp <;> omega
theorem kidsF_none (a : Int) : ∀ (l : List Acc) (i : Nat), (kidsF a i l).length = 0 ↔ accKid l a = false
  | [], _ => by simp [kidsF, accKid]
  | x :: r, i => by
    have := kidsF_none a r (i + 1)
    unfold accKid at this ⊢
    by_cases h : x.1 = a
    · simp [kidsF, h]
    · have h2 : (x.1 == a) = false := by simpa using h
      simp only [kidsF, h, if_false, List.nil_append, List.any_cons, h2, Bool.false_or]
      exact this
end Go.Gk
namespace Go.Proofs.YtdangnmeligfjaaGreatDoor
open Go.RowKit Go.Gk

set_option maxRecDepth 100000 in
set_option maxHeartbeats 800000 in
theorem refis_any {w : World} {v : Value} {l : List Acc} (hl : RowsOf acc4 4 (fun _ => True) w v l) (a : Int) :
    Calls Tryz.prog 162 #[v, .int .i64 a] w fun e w' => e = .returned (.bool (accIs l a)) ∧ w = w' := by
  obtain ⟨A, c, rfl, hc1, hc2⟩ := hl.form
  clear hl
  obtain ⟨m, hm⟩ : ∃ m, accIs l a = m := ⟨_, rfl⟩
  rw [hm]
  unfold accIs at hm
  have HM := Lib.hid hm
  clear hm
  go_enter Tryz.func162, Tryz.ntmps162
  by_cases h1 : 1 ≤ a
  · by_cases h2 : a ≤ l.length
    · obtain rfl : m = true := by rw [← HM.out]; simp [h1, h2]
      go_wp2
      go_ret
      exact ⟨rfl, rfl⟩
    · obtain rfl : m = false := by rw [← HM.out]; simp [h1, h2]
      go_wp2
      go_ret
      exact ⟨rfl, rfl⟩
  · obtain rfl : m = false := by rw [← HM.out]; simp [h1]
    go_wp2
    go_ret
    exact ⟨rfl, rfl⟩

set_option maxRecDepth 100000 in
set_option maxHeartbeats 1600000 in
theorem refkids_any {w : World} {v : Value} {l : List Acc} (hl : RowsOf acc4 4 (fun _ => True) w v l) (hn : l.length ≤ 100000) (a : Int) :
    Calls Tryz.prog 163 #[v, .int .i64 a] w fun e w' => ∃ u, e = .returned u ∧ OutI w w' u (if accIs l a then kidsF a 0 l else []) := by
  have HI := Lib.hid (fun w' (tc : Tch (fun _ => False) w w') => refis_any (hl.keep tc) a)
  have hrow := hl
  obtain ⟨A, c, rfl, hc1, hc2⟩ := hl.form
  generalize accIs l a = b at *
  obtain ⟨ys, hys⟩ : ∃ ys, (if b then kidsF a 0 l else []) = ys := ⟨_, rfl⟩
  rw [hys]
  have HY := Lib.hid hys
  clear hl hys
  go_enter Tryz.func163, Tryz.ntmps163
  go_wp2_with fail
  go_loopw [5, 6] (fun out i wr => ∃ (j : Nat) (xs : List Int), j ≤ l.length ∧ i = .int .i64 j ∧ (if b then kidsF a 0 (l.take j) else []) = xs ∧ OutI w wr out xs) (fun _ i _ => l.length - (intOf i).toNat)
  case atStart => exact ⟨0, [], Nat.zero_le _, rfl, by cases b <;> rfl, Outs.start _ _ _ (Tch.refl _ _)⟩
  case round =>
    obtain ⟨j, xs, hj, rfl, hx, hO⟩ := hrel
    obtain ⟨O, co, rfl, ho1, ho2⟩ := hO.form
    have hxl : xs.length ≤ j := by
      rw [← hx]
      split
      · exact Nat.le_trans (kidsF_len _ _ _) (by rw [List.length_take]; omega)
      · simp
    have HX := Lib.hid hx
    clear hx
    by_cases hlt : j < l.length
    · have hlt' : (j : Int) < (l.length : Int) := by omega
      have hj0 : (0 : Int) ≤ (j : Int) := Int.natCast_nonneg _
      have HC := Lib.hid (HI.out wr hO.tch)
      have HS := Lib.hid (show (if b then kidsF a 0 (l.take (j + 1)) else []) = xs ++ (if b && decide (l[j].1 = a) then [(j : Int) + 1] else []) by
        rw [kids_take a hlt, ← HX.out]
        cases b <;> simp)
      obtain ⟨g, o, rfl⟩ := hrow.head (by omega)
      have q0 : wr.cell? ⟨g, o + j * 4, none⟩ = some (.int .i64 l[j].1) := by
        have := (hrow.keep hO.tch).at (j := j * 4) (u := .int .i64 l[j].1) (by
          have := flat_at (f := acc4) (size := 4) (fun _ => rfl) l j hlt 0 (by omega)
          simpa [acc4] using this)
        exact this
      generalize l[j].1 = y at *
      go_wp2_with fail
      refine HC.out.mono ?_
      rintro _ _ ⟨rfl, rfl⟩
      clear HC
      cases b
      · have HS := Lib.hid (show (if false = true then kidsF a 0 (l.take (j + 1)) else []) = xs by rw [HS.out]; simp)
        go_wp2
        go_roundw
        case rel => exact ⟨j + 1, xs, by omega, by go_num, HS.out, hO⟩
        case measure => simp [intOf]; omega
      · by_cases hya : y = a
        · have HS := Lib.hid (show (if true = true then kidsF a 0 (l.take (j + 1)) else []) = xs ++ [(j : Int) + 1] by rw [HS.out]; simp [hya])
          subst hya
          go_wp2_with ((at_builtin; refine wpList_append _ rfl _ _ 22 rfl rowInts (own_base (hO.own.alloc _)) (by rfl) (Go.Gk.Src.one (news := [.int .i64 ((j : Int) + 1)]) rfl (fun m9 u9 hu9 => by rw [(Blk.new (wr) 3 #[.int .i64 ((j : Int) + 1)]).cell m9]; simpa using hu9)) (by rfl) (by simp; rfl) (by unfold maxLen; omega) (by omega) ?_; intro v2 w2 ho2 hg2 hl2; have hO2 := hO.step (x := (j : Int) + 1) (Tch.alloc _ _ _) ho2 hg2 hl2; obtain ⟨O2, co2, rfl, _, _⟩ := own_form ho2))
          go_roundw
          case rel => exact ⟨j + 1, _, by omega, by go_num, HS.out, hO2⟩
          case measure => simp [intOf]; omega
        · have HS := Lib.hid (show (if true = true then kidsF a 0 (l.take (j + 1)) else []) = xs by rw [HS.out]; simp [hya])
          go_wp2
          go_roundw
          case rel => exact ⟨j + 1, xs, by omega, by go_num, HS.out, hO⟩
          case measure => simp [intOf]; omega
    · obtain rfl : l.length = j := by omega
      rw [List.take_length, HY.out] at HX
      have e := HX.out
      subst e
      go_wp2
      go_ret
      exact ⟨_, rfl, hO⟩

set_option maxRecDepth 100000 in
set_option maxHeartbeats 800000 in
theorem refleaf_any {w : World} {v : Value} {l : List Acc} (hl : RowsOf acc4 4 (fun _ => True) w v l) (hn : l.length ≤ 100000) (a : Int) :
    Calls Tryz.prog 125 #[v, .int .i64 a] w fun e w' => e = .returned (.bool (accLeaf l a)) ∧ Tch (fun _ => False) w w' := by
  have HI := Lib.hid (refis_any hl a)
  have HK := Lib.hid (refkids_any hl hn a)
  obtain ⟨A, c, rfl, hc1, hc2⟩ := hl.form
  obtain ⟨m, hm⟩ : ∃ m, accLeaf l a = m := ⟨_, rfl⟩
  rw [hm]
  have HM := Lib.hid (show (accIs l a && decide ((kidsF a 0 l).length = 0)) = m by
    rw [← hm]
    unfold accLeaf
    congr 1
    have := kidsF_none a l 0
    cases hk : accKid l a
    · simp [this.2 hk]
    · rw [hk] at this; simpa using this)
  clear hm
  generalize accIs l a = b at *
  go_enter Tryz.func125, Tryz.ntmps125
  go_wp2_with fail
  refine HI.out.mono ?_
  rintro _ _ ⟨rfl, rfl⟩
  clear HI
  cases b
  · obtain rfl : m = false := by rw [← HM.out]; rfl
    go_wp2
    go_ret
    exact ⟨rfl, Tch.refl _ _⟩
  · go_wp2_with fail
    refine HK.out.mono ?_
    rintro _ w1 ⟨u, rfl, hO⟩
    simp only [if_true] at hO
    obtain ⟨O, co, rfl, ho1, ho2⟩ := hO.form
    have t1 := hO.tch
    clear HK hO hl
    by_cases hk : (kidsF a 0 l).length = 0
    · obtain rfl : m = true := by rw [← HM.out]; simp [hk]
      clear HM
      generalize (kidsF a 0 l).length = k at *
      subst hk
      go_wp2
      go_ret
      exact ⟨rfl, t1⟩
    · obtain rfl : m = false := by rw [← HM.out]; simpa using hk
      clear HM
      generalize (kidsF a 0 l).length = k at *
      have hk2 : ((k : Int) == 0) = false := by simpa using hk
      go_wp2
      go_ret
      exact ⟨rfl, t1⟩

set_option maxRecDepth 100000 in
set_option maxHeartbeats 800000 in
theorem refleaf30_any {w : World} {e a s r l n : Value} {b : Bks} {us : List (Ent × Value)} (h : BksAt w e a s r l n b us) (hn : b.accs.length ≤ 100000) (x : Int) :
    Calls Tryz.prog 84 #[.agg #[e, a, s, r, l, n], .int .i64 x] w fun y w' => y = .returned (.bool (accLeaf b.accs x)) ∧ Tch (fun _ => False) w w' := by
  have tw := Tch.alloc (fun _ => False) w (.cells #[e, a, s, r, l, n] 29)
  have HC := Lib.hid (refleaf_any (h.keep tw).accs hn x)
  generalize accLeaf b.accs x = R at *
  obtain ⟨Ae, ce, rfl, _, _⟩ := h.ents.form
  obtain ⟨Aa, ca, rfl, _, _⟩ := h.accs.form
  obtain ⟨As, cs, rfl, _, _⟩ := h.stakes.form
  obtain ⟨Ar, cr, rfl, _, _⟩ := h.rates.form
  obtain ⟨Al, cl, rfl, _, _⟩ := h.locks.form
  obtain ⟨An, cn, rfl, _, _⟩ := h.ent.row.form
  clear h
  go_enter Tryz.func84, Tryz.ntmps84
  go_wp2_with fail
  refine HC.out.mono ?_
  rintro _ w2 ⟨rfl, t2⟩
  go_wp2
  go_ret
  exact ⟨rfl, tw.trans t2⟩
end Go.Proofs.YtdangnmeligfjaaGreatDoor
