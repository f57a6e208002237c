/-
  The law UndoPlays.
-/
import Derived.Test.YtnknemepfjfcfaaUb
import Derived.Test.YtnknemepfjfcfaaUt
namespace Go.Proofs.Ytnknemepfjfcfaa
open Go.RowKit Go.Maps Go.Gk

/-- A book b and the document's book in the variable X, that share nothing. -/
def Play (w wr : World) (b X : Nat) (nv tv : Value) (s : St) (r : KV × List KV) : Prop :=
  ∃ F, BookAt wr F b s ∧ Blk wr X 52 #[nv, tv] ∧ BookR (fun g => ¬ F g ∧ g ≠ X) wr (.agg #[nv, tv]) r.1 r.2 ∧ (∀ g, F g → w.heap.size ≤ g ∧ g < wr.heap.size) ∧ ¬ F X ∧ w.heap.size ≤ X ∧ Tch (fun _ => False) w wr

section
variable {w wr : World} {b X : Nat} {nv tv : Value} {s : St} {r : KV × List KV}
theorem Play.tch (h : Play w wr b X nv tv s r) : Tch (fun _ => False) w wr := let ⟨_, _, _, _, _, _, _, h⟩ := h; h
theorem Play.keep {w' : World} (h : Play w wr b X nv tv s r) (t : Tch (fun _ => False) wr w') : Play w w' b X nv tv s r :=
  let ⟨F, h1, h2, h3, h4, h5, h6, h7⟩ := h
  ⟨F, h1.keep t (fun _ _ h => h), h2.keep t id, h3.keep t, fun g hg => ⟨(h4 g hg).1, Nat.lt_of_lt_of_le (h4 g hg).2 t.size⟩, h5, h6, h7.trans t⟩
theorem Play.book (h : Play w wr b X nv tv s r) : ∃ F, BookAt wr F b s ∧ ∀ w' s', Turned wr w' F b s' → Play w w' b X nv tv s' r := by
  obtain ⟨F, h1, h2, h3, h4, h5, h6, h7⟩ := h
  refine ⟨F, h1, fun w' s' ⟨F', g1, g2, g3⟩ => ⟨_, g1.within, h2.keep g2 h5, BookR.keepTo h3 g2 (fun g hg hp => ⟨hp.1, fun hF => ?_, hp.2⟩), fun g hg => ⟨?_, hg.2⟩, fun hF => ?_, h6, h7.trans' g2 (fun k hk => .inr (h4 k hk).1)⟩⟩
  · rcases g3 g hF.1 with h | h
    · exact hp.1 h
    · omega
  · rcases g3 g hg.1 with h | h
    · exact (h4 g h).1
    · exact Nat.le_trans h7.size h
  · rcases g3 X hF.1 with h | h
    · exact h5 h
    · have := h2.lt; omega
theorem Play.form (h : Play w wr b X nv tv s r) : ∃ A c B d, nv = .slice A r.1.length c ∧ tv = .slice B r.2.length d := by
  obtain ⟨F, _, _, ⟨nv', tv', e, hp, us, hs, _⟩, _⟩ := h
  injection e with e
  simp at e
  obtain ⟨rfl, rfl⟩ := e
  obtain ⟨A, c, h1⟩ := hp.1.form
  obtain ⟨B, d, h2⟩ := hs.form
  exact ⟨A, c, B, d, h1, h2⟩
theorem Play.get (h : Play w wr b X nv tv s r) {k : Int} (hk : wfi k) : Calls Try.prog 24 #[.pointer (some ⟨b, 0, none⟩), .int .i64 k] wr fun e w' => e = .returned (.tuple #[.int .i64 ((kget s.kv k).getD 0), .bool (kget s.kv k).isSome]) ∧ wr = w' := let ⟨_, h1, _⟩ := h; get_at h1 hk
theorem Play.len (h : Play w wr b X nv tv s r) : Calls Try.prog 26 #[.pointer (some ⟨b, 0, none⟩)] wr fun e w' => e = .returned (.int .i64 s.kv.length) ∧ wr = w' := let ⟨_, h1, _⟩ := h; len_at h1
theorem Play.depth (h : Play w wr b X nv tv s r) : Calls Try.prog 27 #[.pointer (some ⟨b, 0, none⟩)] wr fun e w' => e = .returned (.int .i64 s.begins.length) ∧ wr = w' := let ⟨_, h1, _⟩ := h; depth_at h1
theorem Play.do_ (h : Play w wr b X nv tv s r) {x : Act3} (hok : s.Ok) (hk : wfi x.2.1) (hv : wfi x.2.2) (hn : s.bulk ≤ 1000000) :
    Calls Try.prog 22 #[.pointer (some ⟨b, 0, none⟩), .agg #[.int .i64 x.1, .int .i64 x.2.1, .int .i64 x.2.2]] wr fun e w' => e = .returned (.int .i64 (doS s x).2) ∧ Play w w' b X nv tv (doS s x).1 r :=
  let ⟨_, h1, h2⟩ := h.book
  (do_any h1 hok hk hv hn).mono fun _ _ ⟨he, ht⟩ => ⟨he, h2 _ _ ht⟩
theorem Play.rget (h : Play w wr b X nv tv s r) {k : Int} : Calls Try.prog 25 #[.agg #[nv, tv], .int .i64 k] wr fun e w' => e = .returned (.tuple #[.int .i64 ((kget r.1 k).getD 0), .bool (kget r.1 k).isSome]) ∧ Tch (fun _ => False) wr w' := by
  obtain ⟨F, _, _, ⟨nv', tv', e, hp, _⟩, _⟩ := h
  injection e with e
  simp at e
  obtain ⟨rfl, rfl⟩ := e
  exact rget_any hp
/-- A call of the document's: its answer may be laid into X. Z: what is new, and may be written besides. -/
theorem Play.rdo (h : Play w wr b X nv tv s r) {w2 : World} (t : Tch (fun _ => False) wr w2) {x : Act3} (hk : wfi x.2.1) (hv : wfi x.2.2) (hn : r.1.length ≤ 1000000) (Z : Nat → Prop) (hZ : ∀ g, Z g → wr.heap.size ≤ g ∧ g < w2.heap.size) :
    Calls Try.prog 23 #[.agg #[nv, tv], .agg #[.int .i64 x.1, .int .i64 x.2.1, .int .i64 x.2.2]] w2 fun e w' => ∃ nv' tv', e = .returned (.tuple #[.agg #[nv', tv'], .int .i64 (doR r x).2]) ∧ (∃ A c B d, nv' = Value.slice A (doR r x).1.1.length c ∧ tv' = Value.slice B (doR r x).1.2.length d) ∧ Tch (fun _ => False) wr w' ∧ Tch (fun _ => False) w2 w' ∧
      ∀ w3, Tch Z w' w3 → ∀ w4, Tch (fun g => g = X) w3 w4 → Blk w4 X 52 #[nv', tv'] → Play w w4 b X nv' tv' s (doR r x).1 := by
  obtain ⟨F, h1, h2, h3, h4, h5, h6, h7⟩ := h
  have hP : ∀ g, w2.heap.size ≤ g → (¬ F g ∧ g ≠ X) ∧ ¬ Z g := fun g hg => ⟨⟨fun hF => by have := (h4 g hF).2; have := t.size; omega, by have := h2.lt; have := t.size; omega⟩, fun hz => by have := (hZ g hz).2; omega⟩
  have h3' := BookR.keepTo (P' := fun g => (¬ F g ∧ g ≠ X) ∧ ¬ Z g) h3 t (fun g hg hp => ⟨id, hp, fun hz => by have := (hZ g hz).1; omega⟩)
  refine (refdo_any h3' hP hk hv hn).mono ?_
  rintro e w' ⟨v', rfl, g1, g2⟩
  obtain ⟨nv', tv', rfl, hp, us, hs, hu⟩ := id g1
  obtain ⟨A, c, e1⟩ := hp.1.form
  obtain ⟨B, d, e2⟩ := hs.form
  refine ⟨nv', tv', rfl, ⟨A, c, B, d, e1, e2⟩, t.trans g2, g2, fun w3 t3 w4 t4 hb => ?_⟩
  have t0 := t.trans g2
  have hFZ : ∀ g, F g → ¬ Z g := fun g hF hz => by have := (h4 g hF).2; have := (hZ g hz).1; omega
  refine ⟨F, ((h1.keep t0 (fun _ _ h => h)).keep t3 hFZ).keep t4 (fun k hk e => h5 (e ▸ hk)), hb, ?_, fun g hg => ⟨(h4 g hg).1, ?_⟩, h5, h6, (((h7.trans t0).trans' t3 (fun k hk => .inr (Nat.le_trans h7.size (hZ k hk).1)))).trans' t4 (fun k hk => .inr (by subst hk; exact h6))⟩
  · exact BookR.keepTo (P := fun g => ¬ F g ∧ g ≠ X) (BookR.keepTo (P' := fun g => ¬ F g ∧ g ≠ X) g1 t3 (fun g _ hp => ⟨hp.2, hp.1⟩)) t4 (fun g _ hp => ⟨hp.2, hp⟩)
  · have := (h4 g hg).2; have := t0.size; have := t3.size; have := t4.size; omega
end

theorem Play.uniq {w wr : World} {b X : Nat} {nv tv : Value} {s : St} {r : KV × List KV} (h : Play w wr b X nv tv s r) : Uniq s.kv := let ⟨_, h1, _⟩ := h; h1.uniq

set_option maxRecDepth 100000 in
set_option maxHeartbeats 4000000 in
theorem undoPlays_any {w : World} {A : Option Addr} {n c : Nat} {l : List Act3} {kk : Int} (hl : ActsIs w A n c l) (hkk : wfi kk) :
    Calls Try.prog 6 #[.slice A n c, .int .i64 kk] w fun e w' => e = .returned (.bool true) ∧ Tch (fun _ => False) w w' := by
  have hm := hl.max
  have hc := hl.cap
  by_cases hbig : ¬ n ≤ 150
  · clear hl
    have hB : (150 : Int) < n := by omega
    go_enter Try.func6, Try.ntmps6
    go_wp2_with fail
    refine (new_any w).mono ?_
    rintro e w1 ⟨b, F1, rfl, -, t1, -⟩
    go_wp2_with (go_at_call 21; refine (awake16_any _).mono ?_; rintro e w3 ⟨rfl, t3⟩)
    go_ret
    exact ⟨rfl, t1.trans t3⟩
  have h150 : n ≤ 150 := by omega
  clear hbig
  go_enter Try.func6, Try.ntmps6
  go_wp2_with fail
  refine (new_any w).mono ?_
  rintro e w1 ⟨b, F1, rfl, h1, t1, n1⟩
  have hP0 : Play w (w1.alloc (.cells #[.slice none 0 0, .slice none 0 0] 52)) b w1.heap.size (.slice none 0 0) (.slice none 0 0) ⟨[], [], []⟩ ([], []) := by
    have ht := Tch.alloc (fun _ => False) w1 (.cells #[.slice none 0 0, .slice none 0 0] 52)
    refine ⟨_, h1.within.keep ht (fun _ _ h => h), Blk.new w1 _ _, ⟨_, _, rfl, Pairs.nil _ _, Stack.nil _ _⟩, fun g hg => ⟨n1 g hg.1, by have := hg.2; have := ht.size; omega⟩, fun hX => by have := hX.2; omega, t1.size, t1.trans ht⟩
  clear h1 t1 n1
  go_wp2_with fail
  generalize w1.alloc (.cells #[.slice none 0 0, .slice none 0 0] 52) = wa at hP0 ⊢
  generalize w1.heap.size = X at hP0 ⊢
  go_loopw [7] (fun i wr => ∃ (k : Nat) (nv tv : Value) (s : St) (r : KV × List KV), k ≤ n ∧ i = .int .i64 k ∧ Play w wr b X nv tv s r ∧ Sim s r ∧ s.bulk ≤ 2 * k ∧ s.begins.length ≤ 64) (fun i _ => n - (intOf i).toNat)
  case atStart => exact ⟨0, _, _, _, _, Nat.zero_le _, rfl, hP0, Sim.start, by simp [St.bulk], by simp⟩
  case round =>
    obtain ⟨k, nv, tv, s, r, hk, rfl, hP, hS, hsb, hsd⟩ := hrel
    clear hP0
    by_cases hlt : k < n
    · obtain ⟨g, off, x, rfl, hx, x0, x1, x2, q0, q1, q2⟩ := hl.at hlt
      clear hx
      have hst := hS.step x1 x2
      have hb' := doS_bulk s x
      have hd' := doS_depth s x hsd
      obtain ⟨An, cn, At, ct, rfl, rfl⟩ := hP.form
      have hDO := hP.do_ hS.ok x1 x2 (by omega)
      have hrl : r.1.length ≤ 1000000 := by
        rw [← length_of_look hP.uniq hS.uniq hS.kv]
        unfold St.bulk at hsb; omega
      have r0 := hP.tch.cell_some q0 id
      have r1 := hP.tch.cell_some q1 id
      have r2 := hP.tch.cell_some q2 id
      have hRDO : ∀ (s' : St) (w3 : World), Play w w3 b X (.slice An r.1.length cn) (.slice At r.2.length ct) s' r → ∀ w2, Tch (fun _ => False) w3 w2 → ∀ Z : Nat → Prop, (∀ g, Z g → w3.heap.size ≤ g ∧ g < w2.heap.size) → _ := fun s' w3 hp w2 t Z hZ => hp.rdo t x1 x2 hrl Z hZ
      obtain ⟨hst, hse⟩ := hst
      rw [hse] at hDO
      clear hP hS hse
      generalize doR r x = rx at *
      obtain ⟨r', e2⟩ := rx
      generalize (doS s x).1 = s' at *
      dsimp only at *
      go_wp2_with (go_at_call 22; with_reducible refine hDO.mono ?_; rintro e w3 ⟨rfl, hP3⟩)
      have a0 := hP3.tch.cell_some q0 id
      have a1 := hP3.tch.cell_some q1 id
      have a2 := hP3.tch.cell_some q2 id
      have hBX : Blk w3 X 52 #[.slice An r.1.length cn, .slice At r.2.length ct] := by obtain ⟨_, _, h, _⟩ := hP3; exact h
      have b0 : w3.cell? ⟨X, 0, none⟩ = some (.slice An r.1.length cn) := hBX.cell 0
      have b1 : w3.cell? ⟨X, 1, none⟩ = some (.slice At r.2.length ct) := hBX.cell 1
      have hXl := hBX.lt
      have hgl : g < w3.heap.size := World.block_lt_of_cell? w3 _ a0
      have hk0 : (0 : Int) ≤ (k : Int) := Int.natCast_nonneg _
      have hk1 : (k : Int) < (n : Int) := by omega
      clear r0 r1 r2 hDO
      go_region_held3 (fun w' => (w'.cell? ⟨X, 0, none⟩ = some (.slice An r.1.length cn) ∧ w'.cell? ⟨X, 1, none⟩ = some (.slice At r.2.length ct)) ∧ w'.cell? ⟨g, off + k * 3, none⟩ = some (.int .i64 x.1) ∧ w'.cell? ⟨g, off + k * 3 + 1, none⟩ = some (.int .i64 x.2.1) ∧ w'.cell? ⟨g, off + k * 3 + 2, none⟩ = some (.int .i64 x.2.2))
        (first
          | go_keep
          | (refine ⟨⟨hYs.cell_some (t3.cell_some b0 id) (by show ¬ X = _; omega), hYs.cell_some (t3.cell_some b1 id) (by show ¬ X = _; omega)⟩, hYs.cell_some (t3.cell_some a0 id) (by show ¬ g = _; omega), hYs.cell_some (t3.cell_some a1 id) (by show ¬ g = _; omega), hYs.cell_some (t3.cell_some a2 id) (by show ¬ g = _; omega)⟩)
          | (exact ⟨⟨(Tch.trans t3 (by ((repeat (first | exact Tch.refl _ _ | refine Tch.trans ?_ (Tch.drew _ _) | refine Tch.trans ?_ (Tch.alloc _ _ _))); done))).cell_some b0 id, (Tch.trans t3 (by ((repeat (first | exact Tch.refl _ _ | refine Tch.trans ?_ (Tch.drew _ _) | refine Tch.trans ?_ (Tch.alloc _ _ _))); done))).cell_some b1 id⟩, (Tch.trans t3 (by ((repeat (first | exact Tch.refl _ _ | refine Tch.trans ?_ (Tch.drew _ _) | refine Tch.trans ?_ (Tch.alloc _ _ _))); done))).cell_some a0 id, (Tch.trans t3 (by ((repeat (first | exact Tch.refl _ _ | refine Tch.trans ?_ (Tch.drew _ _) | refine Tch.trans ?_ (Tch.alloc _ _ _))); done))).cell_some a1 id, (Tch.trans t3 (by ((repeat (first | exact Tch.refl _ _ | refine Tch.trans ?_ (Tch.drew _ _) | refine Tch.trans ?_ (Tch.alloc _ _ _))); done))).cell_some a2 id⟩))
        (first
          | (go_at_call 23; refine (hRDO _ _ hP3 _ (by ((repeat (first | exact Tch.refl _ _ | refine Tch.trans ?_ (Tch.drew _ _) | refine Tch.trans ?_ (Tch.alloc _ _ _))); done)) (fun g => g = w3.heap.size) (fun g hg => ⟨by rw [hg]; exact Nat.le_refl _, by rw [hg]; first | exact (Blk.new w3 52 #[.slice none 0 0, .slice none 0 0]).lt | exact (Blk.new w3.drew 52 #[.slice none 0 0, .slice none 0 0]).lt⟩)).mono ?_; rintro e w4 ⟨nv', tv', rfl, ⟨A1, c1, A2, c2, rfl, rfl⟩, t3, t4, hput⟩; have hYs := Tch.set2 w4 w3.heap.size (.slice A1 r'.1.length c1) (.slice A2 r'.2.length c2); have hY : Blk w4 w3.heap.size 52 #[.slice none 0 0, .slice none 0 0] := Blk.keep (h := by first | exact Blk.new w3 _ _ | exact Blk.new w3.drew _ _) (k := t4) (hn := id); have y0 := hY.cell 0; have y1 := hY.cell 1; have y2 := hY.frozen 0; have y3 := hY.frozen 1)
          | (go_at_call 23; refine (hRDO _ _ hP3 _ (by ((repeat (first | exact Tch.refl _ _ | refine Tch.trans ?_ (Tch.drew _ _) | refine Tch.trans ?_ (Tch.alloc _ _ _))); done)) (fun _ => False) (fun g hg => hg.elim)).mono ?_; rintro e w4 ⟨nv', tv', rfl, ⟨A1, c1, A2, c2, rfl, rfl⟩, t3, t4, hput⟩))
      all_goals
        have hBX4 := hBX.keep t3 id
        first
        | (have hBY := (hY.set_ 0 (.slice A1 r'.1.length c1)).set_ 1 (.slice A2 r'.2.length c2)
           simp only [List.setIfInBounds_toArray, List.set_cons_succ, List.set_cons_zero] at hBY
           have hput' := hput _ hYs
           have tw5 := (hP3.tch.trans t3).trans' hYs (fun i h => .inr (by have := hP3.tch.size; omega))
           have hBX5 := hBX4.keep hYs (by show ¬ X = _; omega)
           generalize (w4.setCell ⟨w3.heap.size, 0, none⟩ (.slice A1 r'.1.length c1)).setCell ⟨w3.heap.size, 1, none⟩ (.slice A2 r'.2.length c2) = W5 at *
           generalize w3.heap.size = Y at *
           clear y0 y1 y2 y3 hY hYs)
        | (have hBY := Blk.new w4 52 #[.slice A1 r'.1.length c1, .slice A2 r'.2.length c2]
           have hput' := hput _ (Tch.alloc _ w4 (.cells #[.slice A1 r'.1.length c1, .slice A2 r'.2.length c2] 52))
           have tw5 := (hP3.tch.trans t3).trans (Tch.alloc (fun _ => False) w4 (.cells #[.slice A1 r'.1.length c1, .slice A2 r'.2.length c2] 52))
           have hBX5 := hBX4.alloc (.cells #[.slice A1 r'.1.length c1, .slice A2 r'.2.length c2] 52)
           generalize w4.alloc (.cells #[.slice A1 r'.1.length c1, .slice A2 r'.2.length c2] 52) = W5 at *
           generalize w4.heap.size = Y at *)
        have hP6 := hput' _ (Tch.set2 W5 X (.slice A1 r'.1.length c1) (.slice A2 r'.2.length c2)) (by have := (hBX5.set_ 0 (.slice A1 r'.1.length c1)).set_ 1 (.slice A2 r'.2.length c2); simpa only [List.setIfInBounds_toArray, List.set_cons_succ, List.set_cons_zero] using this)
        have y0 := hBY.cell 0
        have y1 := hBY.cell 1
        have z0 := hBX5.cell 0
        have z1 := hBX5.cell 1
        have z2 := hBX5.frozen 0
        have z3 := hBX5.frozen 1
        have k1 := tw5.cell_some q1 id
        have hXw : w.heap.size ≤ X := by obtain ⟨_, _, _, _, _, _, h, _⟩ := hP6; exact h
        have hgw : g < w.heap.size := World.block_lt_of_cell? w _ q0
        have hne1 : ¬ X = g := by omega
        have hne2 : ¬ g = X := by omega
        clear hput' hput tw5 hBX5 hBX4 hBX hBY t3 t4 b0 b1 a0 a1 a2 hP3 hRDO
        go_wp2_with fail
        generalize (W5.setCell ⟨X, 0, none⟩ (.slice A1 r'.1.length c1)).setCell ⟨X, 1, none⟩ (.slice A2 r'.2.length c2) = W6 at hP6 ⊢
        clear y0 y1 z0 z1 z2 z3 k1 hne1 hne2
        have hBX : ∀ w', Play w w' b X (.slice A1 r'.1.length c1) (.slice A2 r'.2.length c2) s' r' → w'.cell? ⟨X, 0, none⟩ = some (.slice A1 r'.1.length c1) ∧ w'.cell? ⟨X, 1, none⟩ = some (.slice A2 r'.2.length c2) := fun w' hp => by obtain ⟨_, _, h, _⟩ := hp; exact ⟨h.cell 0, h.cell 1⟩
        obtain ⟨z0, z1⟩ := hBX _ hP6
        have k1 := hP6.tch.cell_some q1 id
        have HG1 : ∀ w', Play w w' b X (.slice A1 r'.1.length c1) (.slice A2 r'.2.length c2) s' r' → _ := fun w' hp => hp.get x1
        have HR1 : ∀ w', Play w w' b X (.slice A1 r'.1.length c1) (.slice A2 r'.2.length c2) s' r' → _ := fun w' hp => hp.rget (k := x.2.1)
        have HG2 : ∀ w', Play w w' b X (.slice A1 r'.1.length c1) (.slice A2 r'.2.length c2) s' r' → _ := fun w' hp => hp.get hkk
        have HR2 : ∀ w', Play w w' b X (.slice A1 r'.1.length c1) (.slice A2 r'.2.length c2) s' r' → _ := fun w' hp => hp.rget (k := kk)
        have HL : ∀ w', Play w w' b X (.slice A1 r'.1.length c1) (.slice A2 r'.2.length c2) s' r' → _ := fun w' hp => hp.len
        have HD : ∀ w', Play w w' b X (.slice A1 r'.1.length c1) (.slice A2 r'.2.length c2) s' r' → _ := fun w' hp => hp.depth
        rw [← hst.kv x.2.1] at HR1
        rw [← hst.kv kk] at HR2
        rw [length_of_look hP6.uniq hst.uniq hst.kv] at HL
        rw [← hst.len] at HD
        generalize (kget s'.kv x.2.1).getD 0 = v1 at HG1 HR1
        generalize (kget s'.kv x.2.1).isSome = i1 at HG1 HR1
        generalize (kget s'.kv kk).getD 0 = v2 at HG2 HR2
        generalize (kget s'.kv kk).isSome = i2 at HG2 HR2
        have HST := Lib.hid hst
        clear hst
        refine (HG1 _ hP6).mono ?_
        rintro e w' ⟨rfl, rfl⟩
        go_wp2_with fail
        go_region_held3 (fun w' => (w'.cell? ⟨X, 0, none⟩ = some (.slice A1 r'.1.length c1) ∧ w'.cell? ⟨X, 1, none⟩ = some (.slice A2 r'.2.length c2)) ∧ w'.cell? ⟨g, off + k * 3 + 1, none⟩ = some (.int .i64 x.2.1))
          (first
            | go_keep
            | (exact ⟨⟨t7.cell_some z0 id, t7.cell_some z1 id⟩, t7.cell_some k1 id⟩))
          (first
            | (go_at_call 25; refine (HR1 _ (hP6.keep (by ((repeat (first | exact Tch.refl _ _ | refine Tch.trans ?_ (Tch.drew _ _) | refine Tch.trans ?_ (Tch.alloc _ _ _))); done)))).mono ?_; rintro e w7 ⟨rfl, t7⟩))
        have hP7 := hP6.keep ((Tch.drew _ _).trans t7)
        obtain ⟨y0, y1⟩ := hBX _ hP7
        clear z0 z1 t7 hP6 k1 HG1 HR1
        go_wp2_with (first
          | (go_at_call 24; with_reducible refine (HG2 _ hP7).mono ?_; rintro e w' ⟨rfl, rfl⟩)
          | (go_at_call 25; with_reducible refine (HR2 _ hP7).mono ?_; rintro e w8 ⟨rfl, t8⟩))
        have hP8 := hP7.keep t8
        obtain ⟨z0, z1⟩ := hBX _ hP8
        clear y0 y1 t8 hP7 HG2 HR2
        go_region_held3 (fun w' => w'.cell? ⟨X, 0, none⟩ = some (.slice A1 r'.1.length c1) ∧ w'.cell? ⟨X, 1, none⟩ = some (.slice A2 r'.2.length c2))
          (first
            | go_keep)
          (first
            | (go_at_call 26; refine (HL _ (hP8.keep (by ((repeat (first | exact Tch.refl _ _ | refine Tch.trans ?_ (Tch.drew _ _) | refine Tch.trans ?_ (Tch.alloc _ _ _))); done)))).mono ?_; rintro e w' ⟨rfl, rfl⟩)
            | (go_at_call 27; refine (HD _ (hP8.keep (by ((repeat (first | exact Tch.refl _ _ | refine Tch.trans ?_ (Tch.drew _ _) | refine Tch.trans ?_ (Tch.alloc _ _ _))); done)))).mono ?_; rintro e w' ⟨rfl, rfl⟩))
        go_wp2_with fail
        go_roundw
        case rel => exact ⟨k + 1, _, _, s', r', by omega, by go_num, hP8.keep (by ((repeat (first | exact Tch.refl _ _ | refine Tch.trans ?_ (Tch.drew _ _) | refine Tch.trans ?_ (Tch.alloc _ _ _))); done)), HST.out, by omega, hd'.1⟩
        case measure => simp [intOf]; omega
    · clear hS hsb hsd
      have htw := hP.tch
      go_wp2_with (go_at_call 21; refine (awake16_any _).mono ?_; rintro e w3 ⟨rfl, t3⟩)
      go_ret
      exact ⟨rfl, htw.trans t3⟩

end Go.Proofs.Ytnknemepfjfcfaa
