/-
  The document's answer to a call: 'refDo'.
-/
import Derived.Test.YtnknemepfjfcfaaUr
import Derived.Test.YtnknemepfjfcfaaUs
namespace Go.Proofs.Ytnknemepfjfcfaa
open Go.RowKit Go.Maps Go.Gk

theorem rset_do {P : Nat → Prop} {w : World} {v : Value} {r : KV × List KV} {k x : Int} (h : BookR P w v r.1 r.2) (hP : ∀ g, w.heap.size ≤ g → P g) (hk : wfi k) (hx : wfi x) (hn : r.1.length ≤ 1000000) :
    Calls Try.prog 45 #[v, .int .i64 k, .int .i64 x] w fun e w' => ∃ v', e = .returned v' ∧ BookR P w' v' (doR r (0, k, x)).1.1 (doR r (0, k, x)).1.2 ∧ Tch (fun _ => False) w w' := rset_any h hP hk hx hn
theorem rdrop_do {P : Nat → Prop} {w : World} {v : Value} {r : KV × List KV} {k x : Int} (h : BookR P w v r.1 r.2) (hP : ∀ g, w.heap.size ≤ g → P g) (hn : r.1.length ≤ 1000000) :
    Calls Try.prog 46 #[v, .int .i64 k] w fun e w' => ∃ v', e = .returned (.tuple #[v', .int .i64 (doR r (1, k, x)).2]) ∧ BookR P w' v' (doR r (1, k, x)).1.1 (doR r (1, k, x)).1.2 ∧ Tch (fun _ => False) w w' := by
  have := rdrop_any (k := k) h hP hn
  unfold doR
  simp only [Int.reduceEq, if_true, if_false]
  cases hs : (kget r.1 k).isSome <;> simpa [hs] using this
theorem rbegin_do {P : Nat → Prop} {w : World} {v : Value} {r : KV × List KV} {k x : Int} (h : BookR P w v r.1 r.2) (hP : ∀ g, w.heap.size ≤ g → P g) :
    Calls Try.prog 47 #[v] w fun e w' => ∃ v', e = .returned (.tuple #[v', .int .i64 (doR r (2, k, x)).2]) ∧ BookR P w' v' (doR r (2, k, x)).1.1 (doR r (2, k, x)).1.2 ∧ Tch (fun _ => False) w w' := by
  have := rbegin_any h hP
  unfold doR
  simp only [Int.reduceEq, if_true, if_false]
  by_cases hs : 64 ≤ r.2.length
  · simpa [hs] using this
  · simpa [hs] using this
theorem rend_do {P : Nat → Prop} {w : World} {v : Value} {r : KV × List KV} {kd k x : Int} {back : Bool} (h : BookR P w v r.1 r.2) (hkd : if back then kd ≠ 0 ∧ kd ≠ 1 ∧ kd ≠ 2 ∧ kd ≠ 3 else kd = 3) :
    Calls Try.prog 48 #[v, .bool back] w fun e w' => ∃ v', e = .returned (.tuple #[v', .int .i64 (doR r (kd, k, x)).2]) ∧ BookR P w' v' (doR r (kd, k, x)).1.1 (doR r (kd, k, x)).1.2 ∧ Tch (fun _ => False) w w' := by
  obtain ⟨now, thens⟩ := r
  by_cases hs : thens = []
  · subst hs
    have := rend_none (back := back) h
    cases back
    · simp at hkd; subst hkd; simpa [doR] using this
    · simp at hkd; simpa [doR, hkd] using this
  · obtain ⟨m, y, hy⟩ : ∃ m y, thens = m ++ [y] := ⟨_, _, (List.dropLast_concat_getLast hs).symm⟩
    subst hy
    have := rend_some (back := back) h
    cases back
    · simp at hkd; subst hkd; simpa [doR] using this
    · simp at hkd; simpa [doR, hkd] using this

theorem BookR.keepTo {P P' F : Nat → Prop} {w w' : World} {v : Value} {now : KV} {thens : List KV} (h : BookR P w v now thens) (t : Tch F w w') (hP : ∀ g, g < w.heap.size → P g → ¬ F g ∧ P' g) : BookR P' w' v now thens :=
  let ⟨nv, tv, e, h1, h2⟩ := h; ⟨nv, tv, e, h1.keepTo t hP, h2.keepTo t hP⟩

set_option maxRecDepth 100000 in
set_option maxHeartbeats 1600000 in
theorem refdo_any {P : Nat → Prop} {w : World} {v : Value} {r : KV × List KV} {a : Act3} (h : BookR P w v r.1 r.2) (hP : ∀ g, w.heap.size ≤ g → P g) (hk : wfi a.2.1) (hx : wfi a.2.2) (hn : r.1.length ≤ 1000000) :
    Calls Try.prog 23 #[v, .agg #[.int .i64 a.1, .int .i64 a.2.1, .int .i64 a.2.2]] w fun e w' => ∃ v', e = .returned (.tuple #[v', .int .i64 (doR r a).2]) ∧ BookR P w' v' (doR r a).1.1 (doR r a).1.2 ∧ Tch (fun _ => False) w w' := by
  obtain ⟨kd, k, x⟩ := a
  simp only at hk hx ⊢
  obtain ⟨nv, tv, rfl, hp, hs⟩ := id h
  obtain ⟨An, cn, rfl⟩ := hp.1.form
  obtain ⟨At, ct, rfl⟩ : ∃ A c, tv = .slice A r.2.length c := let ⟨us, h, _⟩ := hs; h.form
  clear hp hs
  obtain ⟨ln, hln⟩ : ∃ ln, ln = r.1.length := ⟨_, rfl⟩
  obtain ⟨lt, hlt⟩ : ∃ lt, lt = r.2.length := ⟨_, rfl⟩
  rw [← hln, ← hlt] at h ⊢
  clear hln hlt
  obtain ⟨W1, hW1⟩ : ∃ W : World, W = w.alloc (.cells #[.slice An ln cn, .slice At lt ct] 52) := ⟨_, rfl⟩
  obtain ⟨W2, hW2⟩ : ∃ W : World, W = W1.alloc (.cells #[.int .i64 kd, .int .i64 k, .int .i64 x] 55) := ⟨_, rfl⟩
  obtain ⟨W, hW⟩ : ∃ W : World, W = W2.alloc (.cells #[.slice none 0 0, .slice none 0 0] 52) := ⟨_, rfl⟩
  have ht : Tch (fun _ => False) w W := by rw [hW, hW2, hW1]; exact ((Tch.alloc _ _ _).trans (Tch.alloc _ _ _)).trans (Tch.alloc _ _ _)
  have hz1 : W1.heap.size = w.heap.size + 1 := by rw [hW1]; simp
  have hz2 : W2.heap.size = w.heap.size + 2 := by rw [hW2]; simp; omega
  have hb : Blk W w.heap.size 52 #[.slice An ln cn, .slice At lt ct] := by rw [hW, hW2, hW1]; exact ((Blk.new w _ _).alloc _).alloc _
  have ha : Blk W (w.heap.size + 1) 55 #[.int .i64 kd, .int .i64 k, .int .i64 x] := by rw [hW, ← hz1, hW2]; exact (Blk.new W1 _ _).alloc _
  have hr : Blk W (w.heap.size + 2) 52 #[.slice none 0 0, .slice none 0 0] := by rw [hW, ← hz2]; exact Blk.new W2 _ _
  have hWW : W = ((w.alloc (.cells #[.slice An ln cn, .slice At lt ct] 52)).alloc (.cells #[.int .i64 kd, .int .i64 k, .int .i64 x] 55)).alloc (.cells #[.slice none 0 0, .slice none 0 0] 52) := by rw [hW, hW2, hW1]
  clear hW hW1 hW2 hz1 hz2 W1 W2
  have hPW : ∀ g, W.heap.size ≤ g → P g ∧ g ≠ w.heap.size + 2 := fun g hg => ⟨hP g (Nat.le_trans ht.size hg), by have := hr.lt; omega⟩
  have hB := h.keepTo (P' := fun g => P g ∧ g ≠ w.heap.size + 2) ht (fun g hg hp => ⟨id, hp, by omega⟩)
  by_cases h0 : kd = 0
  · subst h0
    have C := rset_do (k := k) (x := x) hB hPW hk hx hn
    have e2 : (doR r (0, k, x)).2 = 0 := rfl
    rw [e2]
    generalize (doR r (0, k, x)).1 = r' at C ⊢
    go_enter Try.func23, Try.ntmps23
    go_wp2_with fail
    rw [← hWW]
    clear hWW
    refine C.mono ?_
    rintro e w1 ⟨v1, rfl, hB1, ht1⟩
    obtain ⟨nv1, tv1, rfl, hp1, hs1⟩ := id hB1
    obtain ⟨A1, c1, rfl⟩ := hp1.1.form
    obtain ⟨A2, c2, rfl⟩ : ∃ A c, tv1 = .slice A r'.2.length c := let ⟨us, h, _⟩ := hs1; h.form
    have hr1 := hr.keep ht1 id
    have s0 := hr1.cell 0
    have s1 := hr1.cell 1
    have s2 := hr1.frozen 0
    have s3 := hr1.frozen 1
    have htw := ht.trans ht1
    clear hp1 hs1 C hb ha hr h hB ht ht1
    go_wp2
    have hbF := (hr1.set_ 0 (.slice A1 r'.1.length c1)).set_ 1 (.slice A2 r'.2.length c2)
    simp only [List.setIfInBounds_toArray, List.set_cons_succ, List.set_cons_zero] at hbF
    (try simp only [Exit.inBlock, Exit.then])
    refine bodyPost_ret (results_cell_row_tmp (P := Try.prog) rfl _ _ (w.heap.size + 2) 52 _ (0, 0) _ rfl hbF Try.underlying52 rfl (by kernel_rfl)) rfl ?_
    have tw6 := Tch.set2 w1 (w.heap.size + 2) (.slice A1 r'.1.length c1) (.slice A2 r'.2.length c2)
    have tw5 := htw.trans' tw6 (fun i h => .inr (by omega))
    exact ⟨_, rfl, BookR.keepTo (P := fun g => P g ∧ g ≠ w.heap.size + 2) hB1 tw6 (fun g _ hp => ⟨hp.2, hp.1⟩), tw5⟩
  by_cases h1 : kd = 1
  · subst h1
    have C := rdrop_do (k := k) (x := x) hB hPW hn
    generalize doR r (1, k, x) = r1 at C ⊢
    obtain ⟨r', rc⟩ := r1
    dsimp only at C ⊢
    clear h0
    go_enter Try.func23, Try.ntmps23
    go_wp2_with fail
    rw [← hWW]
    clear hWW
    refine C.mono ?_
    rintro e w1 ⟨v1, rfl, hB1, ht1⟩
    obtain ⟨nv1, tv1, rfl, hp1, hs1⟩ := id hB1
    obtain ⟨A1, c1, rfl⟩ := hp1.1.form
    obtain ⟨A2, c2, rfl⟩ : ∃ A c, tv1 = .slice A r'.2.length c := let ⟨us, h, _⟩ := hs1; h.form
    have hr1 := hr.keep ht1 id
    have s0 := hr1.cell 0
    have s1 := hr1.cell 1
    have s2 := hr1.frozen 0
    have s3 := hr1.frozen 1
    have htw := ht.trans ht1
    clear hp1 hs1 C hb ha hr h hB ht ht1
    go_wp2
    have hbF := (hr1.set_ 0 (.slice A1 r'.1.length c1)).set_ 1 (.slice A2 r'.2.length c2)
    simp only [List.setIfInBounds_toArray, List.set_cons_succ, List.set_cons_zero] at hbF
    (try simp only [Exit.inBlock, Exit.then])
    refine bodyPost_ret (results_cell_row_tmp (P := Try.prog) rfl _ _ (w.heap.size + 2) 52 _ (0, 0) _ rfl hbF Try.underlying52 rfl (by kernel_rfl)) rfl ?_
    have tw6 := Tch.set2 w1 (w.heap.size + 2) (.slice A1 r'.1.length c1) (.slice A2 r'.2.length c2)
    have tw5 := htw.trans' tw6 (fun i h => .inr (by omega))
    exact ⟨_, rfl, BookR.keepTo (P := fun g => P g ∧ g ≠ w.heap.size + 2) hB1 tw6 (fun g _ hp => ⟨hp.2, hp.1⟩), tw5⟩
  by_cases h2 : kd = 2
  · subst h2
    have C := rbegin_do (k := k) (x := x) hB hPW
    generalize doR r (2, k, x) = r1 at C ⊢
    obtain ⟨r', rc⟩ := r1
    dsimp only at C ⊢
    clear h0 h1
    go_enter Try.func23, Try.ntmps23
    go_wp2_with fail
    rw [← hWW]
    clear hWW
    refine C.mono ?_
    rintro e w1 ⟨v1, rfl, hB1, ht1⟩
    obtain ⟨nv1, tv1, rfl, hp1, hs1⟩ := id hB1
    obtain ⟨A1, c1, rfl⟩ := hp1.1.form
    obtain ⟨A2, c2, rfl⟩ : ∃ A c, tv1 = .slice A r'.2.length c := let ⟨us, h, _⟩ := hs1; h.form
    have hr1 := hr.keep ht1 id
    have s0 := hr1.cell 0
    have s1 := hr1.cell 1
    have s2 := hr1.frozen 0
    have s3 := hr1.frozen 1
    have htw := ht.trans ht1
    clear hp1 hs1 C hb ha hr h hB ht ht1
    go_wp2
    have hbF := (hr1.set_ 0 (.slice A1 r'.1.length c1)).set_ 1 (.slice A2 r'.2.length c2)
    simp only [List.setIfInBounds_toArray, List.set_cons_succ, List.set_cons_zero] at hbF
    (try simp only [Exit.inBlock, Exit.then])
    refine bodyPost_ret (results_cell_row_tmp (P := Try.prog) rfl _ _ (w.heap.size + 2) 52 _ (0, 0) _ rfl hbF Try.underlying52 rfl (by kernel_rfl)) rfl ?_
    have tw6 := Tch.set2 w1 (w.heap.size + 2) (.slice A1 r'.1.length c1) (.slice A2 r'.2.length c2)
    have tw5 := htw.trans' tw6 (fun i h => .inr (by omega))
    exact ⟨_, rfl, BookR.keepTo (P := fun g => P g ∧ g ≠ w.heap.size + 2) hB1 tw6 (fun g _ hp => ⟨hp.2, hp.1⟩), tw5⟩
  by_cases h3 : kd = 3
  · subst h3
    have C := rend_do (kd := 3) (k := k) (x := x) (back := false) hB (by simp)
    generalize doR r (3, k, x) = r1 at C ⊢
    obtain ⟨r', rc⟩ := r1
    dsimp only at C ⊢
    clear h0 h1 h2
    go_enter Try.func23, Try.ntmps23
    go_wp2_with fail
    rw [← hWW]
    clear hWW
    refine C.mono ?_
    rintro e w1 ⟨v1, rfl, hB1, ht1⟩
    obtain ⟨nv1, tv1, rfl, hp1, hs1⟩ := id hB1
    obtain ⟨A1, c1, rfl⟩ := hp1.1.form
    obtain ⟨A2, c2, rfl⟩ : ∃ A c, tv1 = .slice A r'.2.length c := let ⟨us, h, _⟩ := hs1; h.form
    have hr1 := hr.keep ht1 id
    have s0 := hr1.cell 0
    have s1 := hr1.cell 1
    have s2 := hr1.frozen 0
    have s3 := hr1.frozen 1
    have htw := ht.trans ht1
    clear hp1 hs1 C hb ha hr h hB ht ht1
    go_wp2
    have hbF := (hr1.set_ 0 (.slice A1 r'.1.length c1)).set_ 1 (.slice A2 r'.2.length c2)
    simp only [List.setIfInBounds_toArray, List.set_cons_succ, List.set_cons_zero] at hbF
    (try simp only [Exit.inBlock, Exit.then])
    refine bodyPost_ret (results_cell_row_tmp (P := Try.prog) rfl _ _ (w.heap.size + 2) 52 _ (0, 0) _ rfl hbF Try.underlying52 rfl (by kernel_rfl)) rfl ?_
    have tw6 := Tch.set2 w1 (w.heap.size + 2) (.slice A1 r'.1.length c1) (.slice A2 r'.2.length c2)
    have tw5 := htw.trans' tw6 (fun i h => .inr (by omega))
    exact ⟨_, rfl, BookR.keepTo (P := fun g => P g ∧ g ≠ w.heap.size + 2) hB1 tw6 (fun g _ hp => ⟨hp.2, hp.1⟩), tw5⟩
  · have C := rend_do (kd := kd) (k := k) (x := x) (back := true) hB (by simp; exact ⟨h0, h1, h2, h3⟩)
    have b0 : (kd == 0) = false := by simpa using h0
    have b1 : (kd == 1) = false := by simpa using h1
    have b2 : (kd == 2) = false := by simpa using h2
    have b3 : (kd == 3) = false := by simpa using h3
    generalize doR r (kd, k, x) = r1 at C ⊢
    obtain ⟨r', rc⟩ := r1
    dsimp only at C ⊢
    clear h0 h1 h2 h3
    go_enter Try.func23, Try.ntmps23
    go_wp2_with fail
    rw [← hWW]
    clear hWW
    refine C.mono ?_
    rintro e w1 ⟨v1, rfl, hB1, ht1⟩
    obtain ⟨nv1, tv1, rfl, hp1, hs1⟩ := id hB1
    obtain ⟨A1, c1, rfl⟩ := hp1.1.form
    obtain ⟨A2, c2, rfl⟩ : ∃ A c, tv1 = .slice A r'.2.length c := let ⟨us, h, _⟩ := hs1; h.form
    have hr1 := hr.keep ht1 id
    have s0 := hr1.cell 0
    have s1 := hr1.cell 1
    have s2 := hr1.frozen 0
    have s3 := hr1.frozen 1
    have htw := ht.trans ht1
    clear hp1 hs1 C hb ha hr h hB ht ht1
    go_wp2
    have hbF := (hr1.set_ 0 (.slice A1 r'.1.length c1)).set_ 1 (.slice A2 r'.2.length c2)
    simp only [List.setIfInBounds_toArray, List.set_cons_succ, List.set_cons_zero] at hbF
    (try simp only [Exit.inBlock, Exit.then])
    refine bodyPost_ret (results_cell_row_tmp (P := Try.prog) rfl _ _ (w.heap.size + 2) 52 _ (0, 0) _ rfl hbF Try.underlying52 rfl (by kernel_rfl)) rfl ?_
    have tw6 := Tch.set2 w1 (w.heap.size + 2) (.slice A1 r'.1.length c1) (.slice A2 r'.2.length c2)
    have tw5 := htw.trans' tw6 (fun i h => .inr (by omega))
    exact ⟨_, rfl, BookR.keepTo (P := fun g => P g ∧ g ≠ w.heap.size + 2) hB1 tw6 (fun g _ hp => ⟨hp.2, hp.1⟩), tw5⟩

end Go.Proofs.Ytnknemepfjfcfaa
