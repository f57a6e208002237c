/-
  undo: 'awake', 'do', 'same' of the statements of layer 16.
-/
import Derived.Test.YtnknemepfjfcfaaUp
import Derived.Lib.Hide
namespace Go.Proofs.Ytnknemepfjfcfaa
open Go.RowKit Go.Maps Go.Gk

set_option maxRecDepth 100000 in
set_option maxHeartbeats 400000 in
theorem smade_nil (w : World) : Calls Try.prog 58 #[.pointer none] w fun e w' => e = .returned (.bool false) ∧ w = w' := by
  go_enter Try.func58, Try.ntmps58
  go_wp2
  go_ret
  exact ⟨rfl, rfl⟩

set_option maxRecDepth 100000 in
set_option maxHeartbeats 400000 in
theorem sget_nil (s : ByteArray) (w : World) : Calls Try.prog 43 #[.pointer none, .string s] w fun e w' => e = .returned (.tuple #[.bool false, .bool false]) ∧ w = w' := by
  go_enter Try.func43, Try.ntmps43
  go_wp2_with (go_at_call 58; refine (smade_nil _).mono ?_; rintro e w' ⟨rfl, rfl⟩)
  go_ret2
  exact ⟨rfl, rfl⟩

set_option maxRecDepth 100000 in
set_option maxHeartbeats 400000 in
theorem sset_nil (s : ByteArray) (x : Bool) (w : World) : Calls Try.prog 44 #[.pointer none, .string s, .bool x] w fun e w' => e = .returned (.int .i64 1) ∧ w = w' := by
  go_enter Try.func44, Try.ntmps44
  go_wp2_with (go_at_call 58; refine (smade_nil _).mono ?_; rintro e w' ⟨rfl, rfl⟩)
  go_ret
  exact ⟨rfl, rfl⟩

theorem bookAt_is {w : World} {F : Nat → Prop} {b : Nat} {s : St} (h : BookAt w F b s) : ∃ m nv bv, BookIs w b m nv bv s := let ⟨m, nv, bv, h, _⟩ := h; ⟨m, nv, bv, h⟩

theorem get_at {w : World} {F : Nat → Prop} {b : Nat} {s : St} {k : Int} (h : BookAt w F b s) (hk : wfi k) :
    Calls Try.prog 24 #[.pointer (some ⟨b, 0, none⟩), .int .i64 k] w fun e w' => e = .returned (.tuple #[.int .i64 ((kget s.kv k).getD 0), .bool (kget s.kv k).isSome]) ∧ w = w' := let ⟨_, _, _, h⟩ := bookAt_is h; get_any h hk
theorem len_at {w : World} {F : Nat → Prop} {b : Nat} {s : St} (h : BookAt w F b s) : Calls Try.prog 26 #[.pointer (some ⟨b, 0, none⟩)] w fun e w' => e = .returned (.int .i64 s.kv.length) ∧ w = w' := let ⟨_, _, _, h⟩ := bookAt_is h; len_any h
theorem depth_at {w : World} {F : Nat → Prop} {b : Nat} {s : St} (h : BookAt w F b s) : Calls Try.prog 27 #[.pointer (some ⟨b, 0, none⟩)] w fun e w' => e = .returned (.int .i64 s.begins.length) ∧ w = w' := let ⟨_, _, _, h⟩ := bookAt_is h; depth_any h

theorem wfi_small {n : Int} (h : -1000000 ≤ n ∧ n ≤ 1000000) : wfi n := WalkArith.wf_i64 (by omega)

/-- What was there when the call began is as it was; what is owned is new. -/
structure Since (w w1 : World) (F : Nat → Prop) : Prop where
  tch : Tch (fun _ => False) w w1
  new : ∀ k, F k → w.heap.size ≤ k
theorem Since.step {w w1 w2 : World} {F F' : Nat → Prop} (h : Since w w1 F) (t : Tch F w1 w2) (n : ∀ k, F' k → F k ∨ w1.heap.size ≤ k) : Since w w2 F' :=
  ⟨h.tch.trans' t (fun k hk => .inr (h.new k hk)), fun k hk => (n k hk).elim (h.new k) (Nat.le_trans h.tch.size)⟩

def AwakePost (w : World) (e : Ending) (w' : World) : Prop := e = .returned (.bool true) ∧ Tch (fun _ => False) w w'

set_option maxRecDepth 100000 in
set_option maxHeartbeats 1000000 in
theorem awake16_any (w : World) : Calls Try.prog 21 #[] w (AwakePost w) := by
  go_enter Try.func21, Try.ntmps21
  go_wp2_with fail
  refine (new_any w).mono ?_
  rintro e w0 ⟨b, F0, rfl, h0, t0, n0⟩
  have ok1 : St.Ok ⟨[], [(1, 5, true), (1, 6, true)], [0]⟩ := ⟨by simp, by simp; exact ⟨⟨wfi_small (by omega), wfi_small (by omega)⟩, wfi_small (by omega), wfi_small (by omega)⟩, by simp, by simp⟩
  have ok2 : St.Ok ⟨[(1, 5)], [], []⟩ := ⟨by simp; exact ⟨wfi_small (by omega), wfi_small (by omega)⟩, by simp, by simp, by simp⟩
  go_wp2_with fail
  refine (show Calls Try.prog 41 #[.pointer (some ⟨b, 0, none⟩), .int .i64 1, .int .i64 5] w0 (fun e w' => e = .returned (.int .i64 0) ∧ Turned w0 w' F0 b ⟨[(1, 5)], [], []⟩) from set_any h0 (k := 1) (v := 5) (wfi_small (by omega)) (wfi_small (by omega)) (by decide) (by decide)).mono ?_
  rintro e w1 ⟨rfl, F1, h1, t1, n1⟩
  go_wp2_with fail
  refine (show Calls Try.prog 28 #[.pointer (some ⟨b, 0, none⟩)] w1 (fun e w' => e = .returned (.int .i64 0) ∧ Turned w1 w' F1 b ⟨[(1, 5)], [], [0]⟩) from begin_any h1 (by decide)).mono ?_
  rintro e w2 ⟨rfl, F2, h2, t2, n2⟩
  go_wp2_with fail
  refine (show Calls Try.prog 41 #[.pointer (some ⟨b, 0, none⟩), .int .i64 1, .int .i64 6] w2 (fun e w' => e = .returned (.int .i64 0) ∧ Turned w2 w' F2 b ⟨[(1, 6)], [(1, 5, true)], [0]⟩) from set_any h2 (k := 1) (v := 6) (wfi_small (by omega)) (wfi_small (by omega)) (by decide) (by decide)).mono ?_
  rintro e w3 ⟨rfl, F3, h3, t3, n3⟩
  go_wp2_with fail
  refine (show Calls Try.prog 42 #[.pointer (some ⟨b, 0, none⟩), .int .i64 1] w3 (fun e w' => e = .returned (.int .i64 0) ∧ Turned w3 w' F3 b ⟨[], [(1, 5, true), (1, 6, true)], [0]⟩) from drop_any h3 (k := 1) (wfi_small (by omega)) (by decide)).mono ?_
  rintro e w4 ⟨rfl, F4, h4, t4, n4⟩
  go_wp2_with fail
  refine (show Calls Try.prog 42 #[.pointer (some ⟨b, 0, none⟩), .int .i64 1] w4 (fun e w' => e = .returned (.int .i64 35) ∧ Turned w4 w' F4 b ⟨[], [(1, 5, true), (1, 6, true)], [0]⟩) from drop_any h4 (k := 1) (wfi_small (by omega)) (by decide)).mono ?_
  rintro e w5 ⟨rfl, F5, h5, t5, n5⟩
  go_wp2_with fail
  refine (show Calls Try.prog 27 #[.pointer (some ⟨b, 0, none⟩)] w5 (fun e w' => e = .returned (.int .i64 1) ∧ w5 = w') from depth_at h5).mono ?_
  rintro e w' ⟨rfl, rfl⟩
  go_wp2_with fail
  refine (show Calls Try.prog 29 #[.pointer (some ⟨b, 0, none⟩)] w5 (fun e w' => e = .returned (.int .i64 0) ∧ Turned w5 w' F5 b ⟨[(1, 5)], [], []⟩) from back_any h5 ok1 (by decide)).mono ?_
  rintro e w6 ⟨rfl, F6, h6, t6, n6⟩
  go_wp2_with fail
  refine (show Calls Try.prog 24 #[.pointer (some ⟨b, 0, none⟩), .int .i64 1] w6 (fun e w' => e = .returned (.tuple #[.int .i64 5, .bool true]) ∧ w6 = w') from get_at h6 (wfi_small (by omega))).mono ?_
  rintro e w' ⟨rfl, rfl⟩
  go_wp2_with fail
  refine (show Calls Try.prog 24 #[.pointer (some ⟨b, 0, none⟩), .int .i64 2] w6 (fun e w' => e = .returned (.tuple #[.int .i64 0, .bool false]) ∧ w6 = w') from get_at h6 (wfi_small (by omega))).mono ?_
  rintro e w' ⟨rfl, rfl⟩
  go_wp2_with fail
  refine (sget_nil _ _).mono ?_
  rintro e w' ⟨rfl, rfl⟩
  go_wp2_with fail
  refine (show Calls Try.prog 26 #[.pointer (some ⟨b, 0, none⟩)] w6 (fun e w' => e = .returned (.int .i64 1) ∧ w6 = w') from len_at h6).mono ?_
  rintro e w' ⟨rfl, rfl⟩
  go_wp2_with fail
  refine (show Calls Try.prog 29 #[.pointer (some ⟨b, 0, none⟩)] w6 (fun e w' => e = .returned (.int .i64 2) ∧ Turned w6 w' F6 b ⟨[(1, 5)], [], []⟩) from back_any h6 ok2 (by decide)).mono ?_
  rintro e w7 ⟨rfl, F7, h7, t7, n7⟩
  go_wp2_with fail
  refine (show Calls Try.prog 31 #[.pointer (some ⟨b, 0, none⟩)] w7 (fun e w' => e = .returned (.int .i64 2) ∧ Turned w7 w' F7 b ⟨[(1, 5)], [], []⟩) from keep_any h7).mono ?_
  rintro e w8 ⟨rfl, F8, h8, t8, n8⟩
  go_wp2_with fail
  refine (sset_nil _ _ _).mono ?_
  rintro e w' ⟨rfl, rfl⟩
  go_wp2_with fail
  go_ret
  have s0 : Since w w0 F0 := ⟨t0, n0⟩
  exact ⟨rfl, ((((((((s0.step t1 n1).step t2 n2).step t3 n3).step t4 n4).step t5 n5).step t6 n6).step t7 n7).step t8 n8).tch⟩

theorem BookAt.keep {w w' : World} {F : Nat → Prop} {b : Nat} {s : St} (h : BookAt w F b s) {G : Nat → Prop} (t : Tch G w w') (hn : ∀ k, F k → ¬ G k) : BookAt w' F b s :=
  let ⟨m, nv, bv, h, hF⟩ := h; ⟨m, nv, bv, h.keep t (fun k hk => hn k (hF k hk)), hF⟩

theorem Turned.after {w w1 w' : World} {F : Nat → Prop} {b : Nat} {s : St} (t : Tch (fun _ => False) w w1) (h : Turned w1 w' F b s) : Turned w w' F b s :=
  let ⟨F', h1, h2, h3⟩ := h; ⟨F', h1, (Exn.touch t).trans h2, fun k hk => (h3 k hk).imp id (Nat.le_trans t.size)⟩

set_option maxRecDepth 100000 in
set_option maxHeartbeats 1000000 in
theorem do_any {b : Nat} {F : Nat → Prop} {s : St} {a : Act3} {w : World} (hB : BookAt w F b s) (hok : s.Ok) (hk : wfi a.2.1) (hv : wfi a.2.2) (hn : s.kv.length + s.notes.length ≤ 1000000) :
    Calls Try.prog 22 #[.pointer (some ⟨b, 0, none⟩), .agg #[.int .i64 a.1, .int .i64 a.2.1, .int .i64 a.2.2]] w fun e w' => e = .returned (.int .i64 (doS s a).2) ∧ Turned w w' F b (doS s a).1 := by
  obtain ⟨kd, k, v⟩ := a
  have ht := Tch.alloc (fun _ => False) w (.cells #[.int .i64 kd, .int .i64 k, .int .i64 v] 55)
  have hB1 := hB.keep ht (fun _ _ h => h)
  simp only at hk hv ⊢
  by_cases h0 : kd = 0
  · subst h0
    have C : Calls Try.prog 41 #[.pointer (some ⟨b, 0, none⟩), .int .i64 k, .int .i64 v] (w.alloc (.cells #[.int .i64 0, .int .i64 k, .int .i64 v] 55)) fun e w' => e = .returned (.int .i64 (doS s (0, k, v)).2) ∧ Turned (w.alloc (.cells #[.int .i64 0, .int .i64 k, .int .i64 v] 55)) w' F b (doS s (0, k, v)).1 := set_any hB1 hk hv (by omega) (by omega)
    generalize doS s (0, k, v) = r at C ⊢
    go_enter Try.func22, Try.ntmps22
    go_wp2_with (go_at_call 41; refine C.mono ?_; rintro e w1 ⟨rfl, ht1⟩)
    go_ret
    exact ⟨rfl, ht1.after ht⟩
  by_cases h1 : kd = 1
  · subst h1
    have e : doS s (1, k, v) = (if (kget s.kv k).isSome then s.drop k else s, if (kget s.kv k).isSome then 0 else 35) := by
      unfold doS
      simp only [if_neg h0, if_true]
      split <;> rfl
    have C : Calls Try.prog 42 #[.pointer (some ⟨b, 0, none⟩), .int .i64 k] (w.alloc (.cells #[.int .i64 1, .int .i64 k, .int .i64 v] 55)) fun e w' => e = .returned (.int .i64 (doS s (1, k, v)).2) ∧ Turned (w.alloc (.cells #[.int .i64 1, .int .i64 k, .int .i64 v] 55)) w' F b (doS s (1, k, v)).1 := by rw [e]; exact drop_any hB1 hk (by omega)
    generalize doS s (1, k, v) = r at C ⊢
    clear e h0
    go_enter Try.func22, Try.ntmps22
    go_wp2_with (go_at_call 42; refine C.mono ?_; rintro e w1 ⟨rfl, ht1⟩)
    go_ret
    exact ⟨rfl, ht1.after ht⟩
  by_cases h2 : kd = 2
  · subst h2
    have e : doS s (2, k, v) = (if 64 ≤ s.begins.length then s else s.begin, if 64 ≤ s.begins.length then 3 else 0) := by
      unfold doS
      simp only [if_neg h0, if_neg h1, if_true]
      split <;> rfl
    have C : Calls Try.prog 28 #[.pointer (some ⟨b, 0, none⟩)] (w.alloc (.cells #[.int .i64 2, .int .i64 k, .int .i64 v] 55)) fun e w' => e = .returned (.int .i64 (doS s (2, k, v)).2) ∧ Turned (w.alloc (.cells #[.int .i64 2, .int .i64 k, .int .i64 v] 55)) w' F b (doS s (2, k, v)).1 := by rw [e]; exact begin_any hB1 (by omega)
    generalize doS s (2, k, v) = r at C ⊢
    clear e h0 h1
    go_enter Try.func22, Try.ntmps22
    go_wp2_with (go_at_call 28; refine C.mono ?_; rintro e w1 ⟨rfl, ht1⟩)
    go_ret
    exact ⟨rfl, ht1.after ht⟩
  by_cases h3 : kd = 3
  · subst h3
    have e : doS s (3, k, v) = (if s.begins = [] then s else if s.begins.dropLast = [] then { s.ended with notes := [] } else s.ended, if s.begins = [] then 2 else 0) := by
      unfold doS
      simp only [if_neg h0, if_neg h1, if_neg h2, if_true]
      split
      · rfl
      · split <;> rfl
    have C : Calls Try.prog 31 #[.pointer (some ⟨b, 0, none⟩)] (w.alloc (.cells #[.int .i64 3, .int .i64 k, .int .i64 v] 55)) fun e w' => e = .returned (.int .i64 (doS s (3, k, v)).2) ∧ Turned (w.alloc (.cells #[.int .i64 3, .int .i64 k, .int .i64 v] 55)) w' F b (doS s (3, k, v)).1 := by rw [e]; exact keep_any hB1
    generalize doS s (3, k, v) = r at C ⊢
    clear e h0 h1 h2
    go_enter Try.func22, Try.ntmps22
    go_wp2_with (go_at_call 31; refine C.mono ?_; rintro e w1 ⟨rfl, ht1⟩)
    go_ret
    exact ⟨rfl, ht1.after ht⟩
  · have e : doS s (kd, k, v) = (if s.begins = [] then s else s.back, if s.begins = [] then 2 else 0) := by
      unfold doS
      simp only [if_neg h0, if_neg h1, if_neg h2, if_neg h3]
      split <;> rfl
    have C : Calls Try.prog 29 #[.pointer (some ⟨b, 0, none⟩)] (w.alloc (.cells #[.int .i64 kd, .int .i64 k, .int .i64 v] 55)) fun e w' => e = .returned (.int .i64 (doS s (kd, k, v)).2) ∧ Turned (w.alloc (.cells #[.int .i64 kd, .int .i64 k, .int .i64 v] 55)) w' F b (doS s (kd, k, v)).1 := by rw [e]; exact back_any hB1 hok (by omega)
    have b0 : (kd == 0) = false := by simpa using h0
    have b1 : (kd == 1) = false := by simpa using h1
    have b2 : (kd == 2) = false := by simpa using h2
    have b3 : (kd == 3) = false := by simpa using h3
    generalize doS s (kd, k, v) = r at C ⊢
    clear e h0 h1 h2 h3
    go_enter Try.func22, Try.ntmps22
    go_wp2_with (go_at_call 29; refine C.mono ?_; rintro e w1 ⟨rfl, ht1⟩)
    go_ret
    exact ⟨rfl, ht1.after ht⟩

/-- A slice of calls, as it came in. -/
structure ActsIs (w : World) (A : Option Addr) (n c : Nat) (l : List Act3) : Prop where
  len : l.length = n
  cap : n ≤ c
  max : c ≤ 9223372036854775807
  wf : ∀ a ∈ l, wfi a.1 ∧ wfi a.2.1 ∧ wfi a.2.2
  cell : 0 < n → ∃ b off, A = some ⟨b, off, none⟩ ∧ b < w.heap.size ∧ ∀ i (h : i < l.length), w.cell? ⟨b, off + i * 3, none⟩ = some (.int .i64 l[i].1) ∧ w.cell? ⟨b, off + i * 3 + 1, none⟩ = some (.int .i64 l[i].2.1) ∧ w.cell? ⟨b, off + i * 3 + 2, none⟩ = some (.int .i64 l[i].2.2)

theorem ActsIs.keep {w w' : World} {A : Option Addr} {n c : Nat} {l : List Act3} (h : ActsIs w A n c l) (t : Tch (fun _ => False) w w') : ActsIs w' A n c l :=
  ⟨h.len, h.cap, h.max, h.wf, fun hn => by
    obtain ⟨b, off, hA, hb, hc⟩ := h.cell hn
    exact ⟨b, off, hA, Nat.lt_of_lt_of_le hb t.size, fun i hi => ⟨t.cell_some (hc i hi).1 id, t.cell_some (hc i hi).2.1 id, t.cell_some (hc i hi).2.2 id⟩⟩⟩

set_option maxRecDepth 100000 in
set_option maxHeartbeats 400000 in
theorem same_true {w : World} {F F' : Nat → Prop} {b b' : Nat} {s t : St} {A : Option Addr} {n c : Nat} {l : List Act3} (hs : BookAt w F b s) (ht : BookAt w F' b' t) (hl : ActsIs w A n c l)
    (hsame : ∀ k, kget s.kv k = kget t.kv k) (hlen : s.kv.length = t.kv.length) :
    Calls Try.prog 30 #[.pointer (some ⟨b, 0, none⟩), .pointer (some ⟨b', 0, none⟩), .slice A n c] w fun e w' => e = .returned (.bool true) ∧ w = w' := by
  have hm := hl.max
  have hc := hl.cap
  have L1 := len_at hs
  have L2 := len_at ht
  rw [← hlen] at L2
  have HL1 := Lib.hid L1
  have HL2 := Lib.hid L2
  have HS := Lib.hid hsame
  have HLen := Lib.hid hl.len
  clear L1 L2 hsame hlen
  go_enter Try.func30, Try.ntmps30
  go_wp2
  go_loop [7] (fun i => ∃ k : Nat, k ≤ n ∧ i = .int .i64 k) (fun i => n - (intOf i).toNat)
  case atStart => exact ⟨0, Nat.zero_le _, rfl⟩
  case round =>
    obtain ⟨k, hk, rfl⟩ := hrel
    by_cases hlt : k < n
    · obtain ⟨g, off, rfl, _, hcell⟩ := hl.cell (by omega)
      have hkl : k < l.length := by rw [HLen.out]; exact hlt
      have q1 := (hcell k hkl).2.1
      have hwf := (hl.wf _ (List.getElem_mem hkl)).2.1
      obtain ⟨key, hkey⟩ : ∃ key, key = l[k].2.1 := ⟨_, rfl⟩
      rw [← hkey] at q1 hwf
      have G1 := get_at hs hwf
      have G2 := get_at ht hwf
      rw [← HS.out] at G2
      have HG1 := Lib.hid G1
      have HG2 := Lib.hid G2
      clear G1 G2 hkey hcell
      go_wp2_with (first | (go_at_call 24; ((with_reducible refine HG1.out.mono ?_); rintro e w' ⟨rfl, rfl⟩)) | (go_at_call 24; ((with_reducible refine HG2.out.mono ?_); rintro e w' ⟨rfl, rfl⟩)))
      all_goals
        go_round
        case rel => exact ⟨k + 1, by omega, by go_num⟩
        case measure => simp [intOf]; omega
    · go_wp2_with (first | (go_at_call 26; ((with_reducible refine HL1.out.mono ?_); rintro e w' ⟨rfl, rfl⟩)) | (go_at_call 26; ((with_reducible refine HL2.out.mono ?_); rintro e w' ⟨rfl, rfl⟩)))
      go_ret
      exact ⟨rfl, rfl⟩

end Go.Proofs.Ytnknemepfjfcfaa
