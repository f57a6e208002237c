/-
  The law PilePlays.
-/
import Derived.Test.YtnknemepfjfcfaaPw
namespace Go.Proofs.Ytnknemepfjfcfaa
open Go.RowKit Go.Gk

/-- Calls that came in: kind, two numbers. -/
abbrev Act9s := List (Int × Int × Int)
structure Acts9 (w : World) (A : Option Addr) (n c : Nat) (l : Act9s) : Prop where
  len : l.length = n
  cap : n ≤ c
  max : c ≤ 9223372036854775807
  cells : 0 < n → ∃ g off, A = some ⟨g, off, none⟩ ∧ ∀ i (h : i < l.length), w.cell? ⟨g, off + i * 3, none⟩ = some (.int .i64 l[i].1) ∧ w.cell? ⟨g, off + i * 3 + 1, none⟩ = some (.int .i64 l[i].2.1) ∧ w.cell? ⟨g, off + i * 3 + 2, none⟩ = some (.int .i64 l[i].2.2)
theorem Acts9.at {w : World} {A : Option Addr} {n c : Nat} {l : Act9s} (h : Acts9 w A n c l) {i : Nat} (hi : i < n) : ∃ g off x, A = some ⟨g, off, none⟩ ∧ w.cell? ⟨g, off + i * 3, none⟩ = some (.int .i64 (x : Int × Int × Int).1) ∧ w.cell? ⟨g, off + i * 3 + 1, none⟩ = some (.int .i64 x.2.1) ∧ w.cell? ⟨g, off + i * 3 + 2, none⟩ = some (.int .i64 x.2.2) := by
  obtain ⟨g, off, ha, hc⟩ := h.cells (by omega)
  exact ⟨g, off, _, ha, hc i (by rw [h.len]; exact hi)⟩

theorem doX_val (x : KV) (k a v : Int) : ∃ p : Int × Int, (doX x k a v).2.1 = .agg #[.int .i64 p.1, .int .i64 p.2] := by
  unfold doX
  split
  · exact ⟨(0, 0), rfl⟩
  · split
    · exact ⟨_, topOf_eq x⟩
    · exact ⟨_, topOf_eq x⟩

set_option maxRecDepth 100000 in
set_option maxHeartbeats 4000000 in
theorem pilePlays_any {w : World} {A : Option Addr} {n c : Nat} {l : Act9s} (hl : Acts9 w A n c l) :
    Calls Try.prog 3 #[.slice A n c] w fun e w' => e = .returned (.bool true) ∧ Tch (fun _ => False) w w' := by
  have hm := hl.max
  have hc := hl.cap
  by_cases hbig : ¬ n ≤ 100
  · clear hl
    have hB : (100 : Int) < n := by omega
    go_enter Try.func3, Try.ntmps3
    go_wp2_with fail
    refine (pnew_any w).mono ?_
    rintro e w1 ⟨b, rfl, -, -, t1⟩
    go_wp2_with (go_at_call 11; refine (awake9_any _).mono ?_; rintro e w3 ⟨rfl, t3⟩)
    go_ret
    exact ⟨rfl, t1.trans t3⟩
  have h100 : n ≤ 100 := by omega
  have h100' : ¬ (100 : Int) < n := by omega
  clear hbig
  go_enter Try.func3, Try.ntmps3
  go_wp2_with fail
  refine (pnew_any w).mono ?_
  rintro e w1 ⟨b, rfl, h1, hb1, t1⟩
  have h1 := h1.base (N := w.heap.size) (fun k hk => by omega)
  go_wp2_with fail
  clear h100'
  go_loopw [4, 5] (fun xv i wr => ∃ (j : Nat) (x : KV) (F : Nat → Prop), j ≤ n ∧ i = .int .i64 j ∧ PileX wr F b x j ∧ (∀ k, F k → w.heap.size ≤ k ∧ k < wr.heap.size) ∧ Prs (fun g => ¬ F g) wr xv x ∧ x.length ≤ j ∧ Tch (fun _ => False) w wr) (fun _ i _ => n - (intOf i).toNat)
  case atStart => exact ⟨0, [], _, Nat.zero_le _, rfl, h1, fun k hk => hk, Row.nil _ _ _, Nat.le_refl _, t1⟩
  case round =>
    obtain ⟨j, x, F, hj, rfl, hP, hF, hx, hxl, ht⟩ := hrel
    clear h1 t1 hb1
    obtain ⟨X, cx, rfl, _, _⟩ := hx.form
    by_cases hlt : j < n
    · obtain ⟨g, off, y, rfl, q0, q1, q2⟩ := hl.at hlt
      have hDO := do9_x (k := y.1) (a := y.2.1) (v := y.2.2) hP (fun k hk => (hF k hk).2) (by omega) (by omega)
      have r0 := ht.cell_some q0 id
      have r1 := ht.cell_some q1 id
      have r2 := ht.cell_some q2 id
      have hk0 : (0 : Int) ≤ (j : Int) := Int.natCast_nonneg _
      have hk1 : (j : Int) < (n : Int) := by omega
      have hdl := doX_len x y.1 y.2.1 y.2.2
      obtain ⟨p, hp⟩ := doX_val x y.1 y.2.1 y.2.2
      have hR := fun (N : Nat) (w3 : World) (hN : N ≤ w3.heap.size) (t : Tch F wr w3) => refdo9_x (B := fun g => ¬ (w.heap.size ≤ g ∧ (F g ∨ wr.heap.size ≤ g) ∧ g < N)) (k := y.1) (a := y.2.1) (v := y.2.2) (hx.keepTo (P' := fun g => ¬ (w.heap.size ≤ g ∧ (F g ∨ wr.heap.size ≤ g) ∧ g < N)) t (fun g hg hn => ⟨hn, fun h => by rcases h.2.1 with h1 | h1; exact hn h1; omega⟩)) (by omega) (fun g hg h => by omega)
      rw [hp] at hDO hR
      generalize (doX x y.1 y.2.1 y.2.2).1 = x' at *
      generalize (doX x y.1 y.2.1 y.2.2).2.2 = bb at *
      have hq := run_ne_pair_same p.1 p.2
      clear hp hP
      go_wp2_with fail
      refine hDO.mono ?_
      rintro e w3 ⟨rfl, hP3, t3⟩
      have hP3 : PileX w3 (fun g => w.heap.size ≤ g ∧ (F g ∨ wr.heap.size ≤ g) ∧ g < w3.heap.size) b x' (j + 1) := hP3.weak (fun k hk hf => ⟨by have := ht.size; rcases hf with h | h; exact (hF k h).1; omega, hf, hk⟩)
      have hF3 : ∀ k, (w.heap.size ≤ k ∧ (F k ∨ wr.heap.size ≤ k) ∧ k < w3.heap.size) → w.heap.size ≤ k ∧ k < w3.heap.size := fun k hk => ⟨hk.1, hk.2.2⟩
      have tw3 := ht.trans' t3 (fun k hk => .inr (hF k hk).1)
      clear r0 r1 r2 hDO
      have ta := Tch.alloc (fun _ => False) w3 (.cells #[.int .i64 p.1, .int .i64 p.2] 25)
      have hba := Blk.new w3 25 #[.int .i64 p.1, .int .i64 p.2]
      have hR := hR w3.heap.size _ ta.size (t3.trans (Exn.touch ta))
      have hP4 := hP3.keep ta (fun _ _ => id)
      have tw4 := tw3.trans ta
      have r0 := tw4.cell_some q0 id
      have r1 := tw4.cell_some q1 id
      have r2 := tw4.cell_some q2 id
      go_wp2_with fail
      generalize w3.alloc (.cells #[.int .i64 p.1, .int .i64 p.2] 25) = w4 at *
      generalize hN3 : w3.heap.size = N3 at *
      clear hN3 hP3 ta tw3
      refine hR.mono ?_
      rintro e w5 ⟨xv, rfl, hx5, t5⟩
      obtain ⟨X5, c5, rfl, _, _⟩ := hx5.form
      have hb5 := hba.keep t5 id
      have hP5 := hP4.keep t5 (fun _ _ => id)
      have tw5 := tw4.trans t5
      clear hR r0 r1 r2 hba hP4 tw4
      have tb := Tch.alloc (fun _ => False) w5 (.cells #[.int .i64 p.1, .int .i64 p.2] 25)
      have hc5 := Blk.new w5 25 #[.int .i64 p.1, .int .i64 p.2]
      have hb6 := hb5.keep tb id
      have hP6 := hP5.keep tb (fun _ _ => id)
      have hx6 := hx5.keep tb
      have tw6 := tw5.trans tb
      have v0 : (w5.alloc (.cells #[.int .i64 p.1, .int .i64 p.2] 25)).cell? ⟨N3, 0, none⟩ = some (.int .i64 p.1) := hb6.cell 0
      have v1 : (w5.alloc (.cells #[.int .i64 p.1, .int .i64 p.2] 25)).cell? ⟨N3, 1, none⟩ = some (.int .i64 p.2) := hb6.cell 1
      go_wp2_with fail
      refine (plen_x hP6).mono ?_
      rintro e w7 ⟨rfl, rfl⟩
      go_wp2_with fail
      go_roundw
      case rel => exact ⟨j + 1, x', _, by omega, by go_num, hP6, fun k hk => ⟨hk.1, by have := hb6.lt; have := hk.2.2; omega⟩, hx6, by omega, tw6⟩
      case measure => simp [intOf]; omega
    · obtain rfl : n = j := by omega
      clear hlt
      go_wp2_with (go_at_call 11; refine (awake9_any _).mono ?_; rintro e w3 ⟨rfl, t3⟩)
      go_ret
      exact ⟨rfl, ht.trans t3⟩

end Go.Proofs.Ytnknemepfjfcfaa
