/-
  The answers that the document of layer 9 fixes.
-/
import Derived.Test.YtnknemepfjfcfaaPl
namespace Go.Proofs.Ytnknemepfjfcfaa
open Go.RowKit Go.Gk

set_option maxRecDepth 100000 in
set_option maxHeartbeats 400000 in
theorem imade_nil (w : World) : Calls Try.prog 53 #[.pointer none] w fun e w' => e = .returned (.bool false) ∧ w = w' := by
  go_enter Try.func53, Try.ntmps53
  go_wp2
  go_ret
  exact ⟨rfl, rfl⟩
set_option maxRecDepth 100000 in
set_option maxHeartbeats 400000 in
theorem ipeek_nil (w : World) : Calls Try.prog 51 #[.pointer none] w fun e w' => e = .returned (.tuple #[.int .i64 0, .bool false]) ∧ w = w' := by
  go_enter Try.func51, Try.ntmps51
  go_wp2_with (go_at_call 53; refine (imade_nil _).mono ?_; rintro e w' ⟨rfl, rfl⟩)
  go_ret2
  exact ⟨rfl, rfl⟩
set_option maxRecDepth 100000 in
set_option maxHeartbeats 400000 in
theorem ipop_nil (w : World) : Calls Try.prog 33 #[.pointer none] w fun e w' => e = .returned (.tuple #[.int .i64 0, .bool false]) ∧ w = w' := by
  go_enter Try.func33, Try.ntmps33
  go_wp2_with (go_at_call 51; refine (ipeek_nil _).mono ?_; rintro e w' ⟨rfl, rfl⟩)
  go_ret2
  exact ⟨rfl, rfl⟩
set_option maxRecDepth 100000 in
set_option maxHeartbeats 400000 in
theorem ipush_nil (w : World) : Calls Try.prog 34 #[.pointer none, .int .i64 1] w fun e w' => e = .returned (.int .i64 1) ∧ w = w' := by
  go_enter Try.func34, Try.ntmps34
  go_wp2_with (go_at_call 53; refine (imade_nil _).mono ?_; rintro e w' ⟨rfl, rfl⟩)
  go_ret
  exact ⟨rfl, rfl⟩

abbrev l3 : KV := [(5, 1), (3, 2), (3, 3)]
theorem l3_top : topOf l3 = .agg #[.int .i64 3, .int .i64 2] := rfl
theorem l3_rest : restOf l3 = [(5, 1), (3, 3)] := rfl
theorem l2_top : topOf [(5, 1), (3, 3)] = .agg #[.int .i64 3, .int .i64 3] := rfl
theorem l2_rest : restOf [(5, 1), (3, 3)] = [(5, 1)] := rfl
abbrev u3 : KV := [(2, 0), (1, 1), (2, 2)]
theorem u3_sort : msort 3 u3 = [(1, 1), (2, 0), (2, 2)] := by rw [msort_srt (by decide)]; rfl
theorem l3_some : (firstTo l3 l3.length).isSome = true := rfl
theorem l2_some : (firstTo [(5, 1), (3, 3)] (List.length [((5 : Int), (1 : Int)), (3, 3)])).isSome = true := rfl

theorem PileX.base {w : World} {F : Nat → Prop} {b : Nat} {x : KV} {n N : Nat} (h : PileX w F b x n) (hF : ∀ k, F k → N ≤ k) : PileX w (fun k => N ≤ k ∧ k < w.heap.size) b x n := h.weak fun k hk hf => ⟨hF k hf, hk⟩

set_option maxRecDepth 100000 in
set_option maxHeartbeats 3200000 in
theorem awake9_any (w : World) : Calls Try.prog 11 #[] w fun e w' => e = .returned (.bool true) ∧ Tch (fun _ => False) w w' := by
  have hq := run_eq_pair
  go_enter Try.func11, Try.ntmps11
  go_wp2_with fail
  refine (pnew_any w).mono ?_
  rintro e w1 ⟨b, rfl, h1, hb, t1⟩
  go_wp2_with fail
  refine (push_x h1 (by simp) (by omega)).mono ?_
  rintro e w2 ⟨rfl, h2, t2⟩
  go_wp2_with fail
  refine (push_x h2 (by simp) (by omega)).mono ?_
  rintro e w3 ⟨rfl, h3, t3⟩
  go_wp2_with fail
  refine (push_x h3 (by simp) (by omega)).mono ?_
  rintro e w4 ⟨rfl, h4, t4⟩
  have z1 := t1.size
  have z2 := t2.size
  have z3 := t3.size
  have z4 := t4.size
  have hF4 : ∀ k, ((((k = b) ∨ w1.heap.size ≤ k) ∨ w2.heap.size ≤ k) ∨ w3.heap.size ≤ k) → w.heap.size ≤ k := fun k hk => by omega
  have h4' := h4.base hF4
  have T4 : Tch (fun _ => False) w w4 := ((t1.trans' t2 (fun k hk => .inr (by omega))).trans' t3 (fun k hk => .inr (by omega))).trans' t4 (fun k hk => .inr (by omega))
  have h4 : PileX w4 (fun k => w.heap.size ≤ k ∧ k < w4.heap.size) b l3 3 := h4'
  clear h1 h2 h3 h4' hF4 t1 t2 t3 t4 z1 z2 z3 z4
  have hp := peek_x h4
  rw [l3_top, l3_some] at hp
  go_wp2_with fail
  refine hp.mono ?_
  rintro e w5 ⟨rfl, t5⟩
  have h5 := h4.keep t5 (fun _ _ => id)
  have T5 := T4.trans t5
  have z5 := t5.size
  clear hp h4 T4 t5
  go_wp2_with fail
  have hx5 := Blk.new w5 25 #[.int .i64 3, .int .i64 2]
  have T12 := Tch.alloc (fun _ => False) w5 (.cells #[.int .i64 3, .int .i64 2] 25)
  generalize w5.alloc (.cells #[.int .i64 3, .int .i64 2] 25) = w6 at *
  generalize w5.heap.size = c5 at *
  have h6 := h5.keep T12 (fun _ _ => id)
  have T6 := T5.trans T12
  have hp := pop_x h6 (by simp)
  rw [l3_top, l3_some, l3_rest] at hp
  clear h5 T5 T12
  refine hp.mono ?_
  rintro e w7 ⟨rfl, h7, t7⟩
  have hx7 := hx5.keep t7 (fun hk => by omega)
  have T7 := T6.trans' t7 (fun k hk => .inr hk.1)
  have z7 := hx7.lt
  clear hp h6 T6 hx5 t7
  go_wp2_with fail
  have hy7 := Blk.new w7 25 #[.int .i64 3, .int .i64 2]
  have T12 := Tch.alloc (fun _ => False) w7 (.cells #[.int .i64 3, .int .i64 2] 25)
  generalize w7.alloc (.cells #[.int .i64 3, .int .i64 2] 25) = w8 at *
  generalize w7.heap.size = c7 at *
  have h8 := h7.keep T12 (fun _ _ => id)
  have hx8 := hx7.keep T12 id
  have T8 := T7.trans T12
  have hp := pop_x h8 (by simp)
  rw [l2_top, l2_some, l2_rest] at hp
  clear h7 T7 T12 hx7
  refine hp.mono ?_
  rintro e w9 ⟨rfl, h9, t9⟩
  have hx9 := hx8.keep t9 (fun hk => by omega)
  have hy9 := hy7.keep t9 (fun hk => by omega)
  have T9 := T8.trans' t9 (fun k hk => .inr hk.1)
  clear hp h8 T8 hx8 hy7 t9
  go_wp2_with fail
  have hv9 := Blk.new w9 25 #[.int .i64 3, .int .i64 3]
  have T12 := Tch.alloc (fun _ => False) w9 (.cells #[.int .i64 3, .int .i64 3] 25)
  generalize w9.alloc (.cells #[.int .i64 3, .int .i64 3] 25) = wa at *
  generalize w9.heap.size = c9 at *
  have ha := h9.keep T12 (fun _ _ => id)
  have hxa := hx9.keep T12 id
  have hya := hy9.keep T12 id
  have Ta := T9.trans T12
  clear h9 T9 T12 hx9 hy9
  have q1 : wa.cell? ⟨c5, 0, none⟩ = some (.int .i64 3) := hxa.cell 0
  have q2 : wa.cell? ⟨c5, 1, none⟩ = some (.int .i64 2) := hxa.cell 1
  have q3 : wa.cell? ⟨c7, 0, none⟩ = some (.int .i64 3) := hya.cell 0
  have q4 : wa.cell? ⟨c7, 1, none⟩ = some (.int .i64 2) := hya.cell 1
  have q5 : wa.cell? ⟨c9, 0, none⟩ = some (.int .i64 3) := hv9.cell 0
  have q6 : wa.cell? ⟨c9, 1, none⟩ = some (.int .i64 3) := hv9.cell 1
  refine (ipop_nil _).mono ?_
  rintro e wb ⟨rfl, rfl⟩
  go_wp2_with fail
  refine (plen_x ha).mono ?_
  rintro e wb ⟨rfl, rfl⟩
  go_wp2_with fail
  refine (ipush_nil _).mono ?_
  rintro e wb ⟨rfl, rfl⟩
  have hu := Blk.new wa 25 #[.int .i64 2, .int .i64 0, .int .i64 1, .int .i64 1, .int .i64 2, .int .i64 2]
  have hs := sorted_any (B := fun _ => True) 3 (l := u3) (Row.blk (n := 3) (size := 2) hu trivial rfl (by decide)) (by decide) (by decide)
  rw [u3_sort] at hs
  go_wp2_with fail
  refine hs.mono ?_
  rintro e wc ⟨v1, rfl, ho, tc⟩
  have hr1 := Row.own (P := fun _ => True) ho (fun _ _ => trivial)
  have Tc := (Ta.trans (Tch.alloc _ _ _)).trans tc
  have hu2 := Blk.new wc 25 #[.int .i64 1, .int .i64 1, .int .i64 2, .int .i64 0, .int .i64 2, .int .i64 2]
  have td := Tch.alloc (fun _ => False) wc (.cells #[.int .i64 1, .int .i64 1, .int .i64 2, .int .i64 0, .int .i64 2, .int .i64 2] 25)
  have hsm := rsame_any (l := [(1, 1), (2, 0), (2, 2)]) (hr1.keep td) (Row.blk (B := fun _ => True) (n := 3) (size := 2) hu2 trivial rfl (by decide))
  clear hs
  go_wp2_with fail
  refine hsm.mono ?_
  rintro e wd ⟨rfl, te⟩
  go_wp2
  go_ret
  exact ⟨rfl, (Tc.trans td).trans te⟩

end Go.Proofs.Ytnknemepfjfcfaa
