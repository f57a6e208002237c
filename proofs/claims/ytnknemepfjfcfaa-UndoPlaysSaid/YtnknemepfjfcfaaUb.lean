/-
  Two books side by side; the law UndoBack.
-/
import Derived.Test.YtnknemepfjfcfaaUa
namespace Go.Proofs.Ytnknemepfjfcfaa
open Go.RowKit Go.Maps Go.Gk

theorem BookAt.within {w : World} {F : Nat → Prop} {b : Nat} {s : St} (h : BookAt w F b s) : BookAt w (fun k => F k ∧ k < w.heap.size) b s := by
  obtain ⟨m, nv, bv, h, hF⟩ := h
  refine ⟨m, nv, bv, h, fun k hk => ⟨hF k hk, ?_⟩⟩
  have hl : ∀ {g : Nat} {o : Obj}, w.heap[g]? = some o → g < w.heap.size := fun h => (Array.getElem?_eq_some_iff.1 h).1
  rcases hk with rfl | rfl | hk | hk
  · exact hl h.blk
  · exact h.map.lt
  · obtain ⟨cur, hc⟩ := own_heap h.notes hk
    exact hl hc
  · obtain ⟨cur, hc⟩ := own_heap h.begins hk
    exact hl hc

theorem BookAt.uniq {w : World} {F : Nat → Prop} {b : Nat} {s : St} (h : BookAt w F b s) : Uniq s.kv :=
  let ⟨_, _, _, h, _⟩ := h
  let ⟨_, _, hr⟩ := h.map
  hr.uniq

/-- Two books, made since w0, that share nothing. -/
structure Two (w0 w : World) (a b : Nat) (s t : St) : Prop where
  ex : ∃ Fa Fb, BookAt w Fa a s ∧ BookAt w Fb b t ∧ (∀ k, Fa k → ¬ Fb k) ∧ (∀ k, Fa k ∨ Fb k → w0.heap.size ≤ k ∧ k < w.heap.size)
  tch : Tch (fun _ => False) w0 w

theorem Two.symm {w0 w : World} {a b : Nat} {s t : St} (h : Two w0 w a b s t) : Two w0 w b a t s :=
  let ⟨Fa, Fb, h1, h2, h3, h4⟩ := h.ex
  ⟨⟨Fb, Fa, h2, h1, fun k hb ha => h3 k ha hb, fun k hk => h4 k hk.symm⟩, h.tch⟩

theorem Two.keep {w0 w w' : World} {a b : Nat} {s t : St} (h : Two w0 w a b s t) (ht : Tch (fun _ => False) w w') : Two w0 w' a b s t :=
  let ⟨Fa, Fb, h1, h2, h3, h4⟩ := h.ex
  ⟨⟨Fa, Fb, h1.keep ht (fun _ _ h => h), h2.keep ht (fun _ _ h => h), h3, fun k hk => ⟨(h4 k hk).1, Nat.lt_of_lt_of_le (h4 k hk).2 ht.size⟩⟩, h.tch.trans ht⟩

theorem Two.turn {w0 w : World} {a b : Nat} {s t : St} (h : Two w0 w a b s t) : ∃ F, BookAt w F a s ∧ ∀ w' s', Turned w w' F a s' → Two w0 w' a b s' t ∧ Tch (fun k => w0.heap.size ≤ k) w w' := by
  obtain ⟨Fa, Fb, h1, h2, h3, h4⟩ := h.ex
  refine ⟨Fa, h1, fun w' s' ⟨F', h5, h6, h7⟩ => ⟨⟨⟨_, Fb, h5.within, h2.keep h6 (fun k hb ha => h3 k ha hb), fun k hk hb => ?_, fun k hk => ?_⟩, h.tch.trans' h6 (fun k hk => .inr (h4 k (.inl hk)).1)⟩, h6.mono (fun k _ hk => (h4 k (.inl hk)).1)⟩⟩
  · rcases h7 k hk.1 with ha | hn
    · exact h3 k ha hb
    · exact absurd (h4 k (.inr hb)).2 (by omega)
  · rcases hk with hk | hk
    · refine ⟨?_, hk.2⟩
      rcases h7 k hk.1 with ha | hn
      · exact (h4 k (.inl ha)).1
      · exact Nat.le_trans h.tch.size hn
    · exact ⟨(h4 k (.inr hk)).1, Nat.lt_of_lt_of_le (h4 k (.inr hk)).2 h6.size⟩

section
variable {w0 w : World} {a b : Nat} {s t : St}
abbrev Old (w0 w w' : World) : Prop := Tch (fun k => w0.heap.size ≤ k) w w'

theorem Two.news (w : World) {b : Nat} {F F1 : Nat → Prop} {a : Nat} {w1 w2 : World} (h1 : BookAt w1 F a ⟨[], [], []⟩) (t1 : Tch (fun _ => False) w w1) (n1 : ∀ k, F k → w.heap.size ≤ k)
    (h2 : BookAt w2 F1 b ⟨[], [], []⟩) (t2 : Tch (fun _ => False) w1 w2) (n2 : ∀ k, F1 k → w1.heap.size ≤ k) : Two w w2 a b ⟨[], [], []⟩ ⟨[], [], []⟩ :=
  ⟨⟨_, _, h1.within.keep t2 (fun _ _ h => h), h2.within, fun k hk hk' => by have := n2 k hk'.1; have := hk.2; omega, fun k hk => by
    have := t1.size
    have := t2.size
    rcases hk with hk | hk
    · have := n1 k hk.1; have := hk.2; omega
    · have := n2 k hk.1; have := hk.2; omega⟩, t1.trans t2⟩

theorem do_two {x : Act3} (h : Two w0 w a b s t) (hok : s.Ok) (hk : wfi x.2.1) (hv : wfi x.2.2) (hn : s.bulk ≤ 1000000) :
    Calls Try.prog 22 #[.pointer (some ⟨a, 0, none⟩), .agg #[.int .i64 x.1, .int .i64 x.2.1, .int .i64 x.2.2]] w fun e w' => e = .returned (.int .i64 (doS s x).2) ∧ Two w0 w' a b (doS s x).1 t ∧ Old w0 w w' :=
  let ⟨_, h1, h2⟩ := h.turn
  (do_any h1 hok hk hv hn).mono fun _ _ ⟨he, ht⟩ => ⟨he, h2 _ _ ht⟩
theorem begin_two (h : Two w0 w a b s t) (hd : s.begins.length < 64) (hn : s.bulk ≤ 1000000) :
    Calls Try.prog 28 #[.pointer (some ⟨a, 0, none⟩)] w fun e w' => e = .returned (.int .i64 0) ∧ Two w0 w' a b s.begin t ∧ Old w0 w w' :=
  let ⟨F, h1, h2⟩ := h.turn
  (show Calls Try.prog 28 #[.pointer (some ⟨a, 0, none⟩)] w (fun e w' => e = .returned (.int .i64 0) ∧ Turned w w' F a s.begin) by
    have := begin_any h1 (by unfold St.bulk at hn; omega)
    rwa [if_neg (by omega), if_neg (by omega)] at this).mono fun _ _ ⟨he, ht⟩ => ⟨he, h2 _ _ ht⟩
theorem keep_two (h : Two w0 w a b s t) (hne : s.begins ≠ []) :
    Calls Try.prog 31 #[.pointer (some ⟨a, 0, none⟩)] w fun e w' => e = .returned (.int .i64 0) ∧ Two w0 w' a b (if s.begins.dropLast = [] then { s.ended with notes := [] } else s.ended) t ∧ Old w0 w w' :=
  let ⟨F, h1, h2⟩ := h.turn
  (show Calls Try.prog 31 #[.pointer (some ⟨a, 0, none⟩)] w (fun e w' => e = .returned (.int .i64 0) ∧ Turned w w' F a (if s.begins.dropLast = [] then { s.ended with notes := [] } else s.ended)) by
    have := keep_any h1
    rwa [if_neg hne, if_neg hne] at this).mono fun _ _ ⟨he, ht⟩ => ⟨he, h2 _ _ ht⟩
theorem back_two (h : Two w0 w a b s t) (hok : s.Ok) (hne : s.begins ≠ []) (hn : s.bulk ≤ 1000000) :
    Calls Try.prog 29 #[.pointer (some ⟨a, 0, none⟩)] w fun e w' => e = .returned (.int .i64 0) ∧ Two w0 w' a b s.back t ∧ Old w0 w w' :=
  let ⟨F, h1, h2⟩ := h.turn
  (show Calls Try.prog 29 #[.pointer (some ⟨a, 0, none⟩)] w (fun e w' => e = .returned (.int .i64 0) ∧ Turned w w' F a s.back) by
    have := back_any h1 hok hn
    rwa [if_neg hne, if_neg hne] at this).mono fun _ _ ⟨he, ht⟩ => ⟨he, h2 _ _ ht⟩
theorem depth_two (h : Two w0 w a b s t) : Calls Try.prog 27 #[.pointer (some ⟨a, 0, none⟩)] w fun e w' => e = .returned (.int .i64 s.begins.length) ∧ w = w' := let ⟨_, h1, _⟩ := h.turn; depth_at h1
theorem same_two {A : Option Addr} {n c : Nat} {l : List Act3} (h : Two w0 w a b s t) (hl : ActsIs w A n c l) (he : Eqv s.kv t.kv) :
    Calls Try.prog 30 #[.pointer (some ⟨a, 0, none⟩), .pointer (some ⟨b, 0, none⟩), .slice A n c] w fun e w' => e = .returned (.bool true) ∧ w = w' :=
  let ⟨_, h1, _⟩ := h.turn
  let ⟨_, h2, _⟩ := h.symm.turn
  same_true h1 h2 hl he (length_of_look h1.uniq h2.uniq he)
end

theorem Old.acts {w0 w w' : World} {A : Option Addr} {n c : Nat} {l : List Act3} (h : ActsIs w A n c l) (hA : ∀ g, (∃ off p, A = some ⟨g, off, p⟩) → g < w0.heap.size) (t : Old w0 w w') : ActsIs w' A n c l :=
  ⟨h.len, h.cap, h.max, h.wf, fun hn => by
    obtain ⟨b, off, hA', hb, hc⟩ := h.cell hn
    have hlt : ¬ w0.heap.size ≤ b := by have := hA b ⟨off, none, hA'⟩; omega
    exact ⟨b, off, hA', Nat.lt_of_lt_of_le hb t.size, fun i hi => ⟨t.cell_some (hc i hi).1 hlt, t.cell_some (hc i hi).2.1 hlt, t.cell_some (hc i hi).2.2 hlt⟩⟩⟩

theorem ActsIs.at {w : World} {A : Option Addr} {n c : Nat} {l : List Act3} (h : ActsIs w A n c l) {k : Nat} (hk : k < n) : ∃ g off x, A = some ⟨g, off, none⟩ ∧ l[k]? = some x ∧ wfi x.1 ∧ wfi x.2.1 ∧ wfi x.2.2 ∧
    w.cell? ⟨g, off + k * 3, none⟩ = some (.int .i64 x.1) ∧ w.cell? ⟨g, off + k * 3 + 1, none⟩ = some (.int .i64 x.2.1) ∧ w.cell? ⟨g, off + k * 3 + 2, none⟩ = some (.int .i64 x.2.2) := by
  obtain ⟨b, off, hA, hb, hc⟩ := h.cell (by omega)
  have hl : k < l.length := by rw [h.len]; exact hk
  have hw := h.wf _ (List.getElem_mem hl)
  exact ⟨b, off, l[k], hA, List.getElem?_eq_getElem hl, hw.1, hw.2.1, hw.2.2, (hc k hl).1, (hc k hl).2.1, (hc k hl).2.2⟩

theorem runS_take {s : St} {l : List Act3} {k : Nat} {x : Act3} (h : l[k]? = some x) : runS s (l.take (k + 1)) = (doS (runS s (l.take k)) x).1 := by
  rw [List.take_add_one, h]
  exact runS_snoc _ _ _

def S0 : St := ⟨[], [], []⟩
theorem S0_ok : S0.Ok := ⟨by simp [S0], by simp [S0], by simp [S0], by simp [S0]⟩

theorem run_facts {w : World} {A : Option Addr} {n c : Nat} {l : List Act3} (h : ActsIs w A n c l) {N : Nat} (hn : n ≤ N) (k : Nat) : (runS S0 (l.take k)).Ok ∧ (runS S0 (l.take k)).bulk ≤ 2 * N ∧ (runS S0 (l.take k)).begins.length ≤ N ∧ (runS S0 (l.take k)).begins.length ≤ 64 := by
  obtain ⟨h1, h2, h3⟩ := runS_ok (l.take k) S0 S0_ok (fun a ha => (h.wf a (List.mem_of_mem_take ha)).2)
  have h4 := h3 (by simp [S0])
  have h5 : (l.take k).length ≤ N := by rw [List.length_take, h.len]; omega
  have e1 : S0.bulk = 0 := rfl
  have e2 : S0.begins.length = 0 := rfl
  rw [e1] at h2
  rw [e2] at h4
  exact ⟨h1, by omega, by omega, by omega⟩

theorem begin_ok {s : St} (h : s.Ok) : s.begin.Ok := by
  refine ⟨h.kv, h.notes, fun b hb => ?_, ?_⟩
  · rcases List.mem_append.1 hb with hb | hb
    · exact h.beg b hb
    · rw [List.mem_singleton.1 hb]; exact Nat.le_refl _
  · simp only [St.begin]
    rw [List.pairwise_append]
    exact ⟨h.sorted, by simp, fun x hx y hy => by rw [List.mem_singleton.1 hy]; exact h.beg x hx⟩

set_option maxRecDepth 100000 in
set_option maxHeartbeats 1000000 in
theorem undoBack_any {w : World} {A : Option Addr} {n c : Nat} {l : List Act3} {A' : Option Addr} {n' c' : Nat} {l' : List Act3} (hl : ActsIs w A n c l) (hl' : ActsIs w A' n' c' l') :
    Calls Try.prog 7 #[.slice A n c, .slice A' n' c'] w fun e w' => e = .returned (.bool true) ∧ Tch (fun _ => False) w w' := by
  have hm := hl.max
  have hc := hl.cap
  have hm' := hl'.max
  have hc' := hl'.cap
  by_cases hbig : ¬ (n ≤ 40 ∧ n' ≤ 60)
  · clear hl hl'
    have hB : (40 : Int) < n ∨ (60 : Int) < n' := by omega
    clear hbig
    go_enter Try.func7, Try.ntmps7
    go_wp2_with fail
    refine (new_any w).mono ?_
    rintro e w1 ⟨a, F1, rfl, -, t1, -⟩
    go_wp2_with fail
    refine (new_any w1).mono ?_
    rintro e w2 ⟨b, F2, rfl, -, t2, -⟩
    go_wp2_with (go_at_call 21; refine (awake16_any _).mono ?_; rintro e w3 ⟨rfl, t3⟩)
    all_goals
      first
      | (exfalso; omega)
      | (go_ret; exact ⟨rfl, (t1.trans t2).trans t3⟩)
  obtain ⟨h40, h60⟩ : n ≤ 40 ∧ n' ≤ 60 := by omega
  clear hbig
  have RF := run_facts hl h40
  go_enter Try.func7, Try.ntmps7
  go_wp2_with fail
  refine (new_any w).mono ?_
  rintro e w1 ⟨a, F1, rfl, h1, t1, n1⟩
  go_wp2_with fail
  refine (new_any w1).mono ?_
  rintro e w2 ⟨b, F2, rfl, h2, t2, n2⟩
  have hT0 := Two.news w h1 t1 n1 h2 t2 n2
  clear h1 t1 n1 h2 t2 n2
  go_wp2_with fail
  all_goals first | (exfalso; omega) | skip
  go_loopw [7] (fun i wr => ∃ k : Nat, k ≤ n ∧ i = .int .i64 k ∧ Two w wr a b (runS S0 (l.take k)) (runS S0 (l.take k))) (fun i _ => n - (intOf i).toNat)
  case atStart => exact ⟨0, Nat.zero_le _, rfl, hT0⟩
  case round =>
    obtain ⟨k, hk, rfl, hT⟩ := hrel
    clear hT0
    by_cases hlt : k < n
    · obtain ⟨g, off, x, rfl, hx, x0, x1, x2, q0, q1, q2⟩ := hl.at hlt
      have hST := runS_take (s := S0) hx
      have hR := RF k
      generalize runS S0 (l.take k) = s at hT hST hR
      clear hx RF
      have hb : s.bulk ≤ 1000000 := by omega
      have r0 := hT.tch.cell_some q0 id
      have r1 := hT.tch.cell_some q1 id
      have r2 := hT.tch.cell_some q2 id
      go_wp2_with (go_at_call 22; first
        | (with_reducible refine (do_two hT hR.1 x1 x2 hb).mono ?_; rintro e w3 ⟨rfl, hT3, -⟩; clear r0 r1 r2 hT; have r0 := hT3.tch.cell_some q0 id; have r1 := hT3.tch.cell_some q1 id; have r2 := hT3.tch.cell_some q2 id)
        | (with_reducible refine (do_two hT3.symm hR.1 x1 x2 hb).mono ?_; rintro e w4 ⟨rfl, hT4, -⟩; clear r0 r1 r2 hT3))
      go_roundw
      case rel => exact ⟨k + 1, by omega, by go_num, by rw [hST]; exact hT4.symm⟩
      case measure => simp [intOf]; omega
    · obtain rfl : n = k := by omega
      have hR := RF n
      generalize runS S0 (l.take n) = s at hT hR
      clear RF hlt
      have hb : s.bulk ≤ 1000000 := by omega
      have hd : s.begins.length < 64 := by omega
      go_wp2_with (first
        | (go_at_call 27; with_reducible refine (depth_two hT).mono ?_; rintro e w' ⟨rfl, rfl⟩)
        | (go_at_call 28; with_reducible refine (begin_two hT hd hb).mono ?_; rintro e w3 ⟨rfl, hT3, -⟩))
      have hok : s.begin.Ok := begin_ok hR.1
      have hbb : s.begin.bulk = s.bulk := rfl
      have hbl : s.begin.begins.length = s.begins.length + 1 := by simp [St.begin]
      clear hT
      go_loopw [9] (fun i wr => ∃ (k : Nat) (u : St), k ≤ n' ∧ i = .int .i64 k ∧ Two w wr a b u s ∧ Under s u ∧ u.Ok ∧ u.bulk ≤ 80 + 2 * k ∧ u.begins.length ≤ 64) (fun i _ => n' - (intOf i).toNat)
      case atStart => exact ⟨0, _, Nat.zero_le _, rfl, hT3, Under.start s, hok, by omega, by omega⟩
      case round =>
        obtain ⟨k, u, hk, rfl, hT, hU, huok, hub, hud⟩ := hrel
        clear hT3 hok hbb hbl
        by_cases hlt : k < n'
        · obtain ⟨g, off, x, rfl, hx, x0, x1, x2, q0, q1, q2⟩ := hl'.at hlt
          have hub' : u.bulk ≤ 1000000 := by omega
          have r0 := hT.tch.cell_some q0 id
          have r1 := hT.tch.cell_some q1 id
          have r2 := hT.tch.cell_some q2 id
          have hn1 := doS_ok huok x1 x2
          have hn2 := doS_bulk u x
          have hn3 := doS_depth u x hud
          have hst : mayM s.begins.length u x → Under s (doS u x).1 := hU.step x
          have HDO := do_two hT huok x1 x2 hub'
          have HDE := depth_two hT
          have hdd := hU.deep
          clear hx
          go_wp2_with (first
            | (go_at_call 27; with_reducible refine HDE.mono ?_; rintro e w' ⟨rfl, rfl⟩)
            | (go_at_call 22; with_reducible refine HDO.mono ?_; rintro e w3 ⟨rfl, hT3, -⟩))
          all_goals
            go_roundw
            case rel =>
              first
              | exact ⟨k + 1, (doS u x).1, by omega, by go_num, hT3, hst (by unfold mayM; omega), hn1, by omega, hn3.1⟩
              | exact ⟨k + 1, u, by omega, by go_num, hT, hU, huok, by omega, hud⟩
            case measure => simp [intOf]; omega
        · have hub' : u.bulk ≤ 200 := by omega
          clear hub
          go_wp2_with fail
          go_loopw [10] (fun i wr => ∃ (k : Nat) (u : St), k ≤ 64 ∧ i = .int .i64 k ∧ Two w wr a b u s ∧ Thru s u ∧ u.Ok ∧ u.bulk ≤ 200 + 2 * k ∧ u.begins.length + k ≤ 64 + s.begins.length) (fun i _ => 64 - (intOf i).toNat)
          case atStart => exact ⟨0, _, Nat.zero_le _, rfl, hT, .inl hU, huok, by omega, by omega⟩
          case round =>
            obtain ⟨k, u, hk, rfl, hT, hU, huok, hub, hud⟩ := hrel
            have HDE := depth_two hT
            have HDS := depth_two hT.symm
            by_cases hlt : k < 64 ∧ s.begins.length < u.begins.length
            · obtain ⟨hk1, hk2⟩ := hlt
              obtain ⟨hth, hne⟩ := hU.back hk2
              obtain ⟨hn1, hn2, hn3⟩ := back_facts hne huok
              have HB := back_two hT huok hne (by omega)
              clear HDS
              go_wp2_with (first
                | (go_at_call 27; with_reducible refine HDE.mono ?_; rintro e w' ⟨rfl, rfl⟩)
                | (go_at_call 29; with_reducible refine HB.mono ?_; rintro e w3 ⟨rfl, hT3, -⟩))
              all_goals
                go_roundw
                case rel => exact ⟨k + 1, _, by omega, by go_num, hT3, hth, hn1, by omega, by omega⟩
                case measure => simp [intOf]; omega
            · have hle : u.begins.length ≤ s.begins.length := by omega
              obtain ⟨heq, hbe⟩ := hU.flat hle
              have hlen : u.begins.length = s.begins.length := by rw [hbe]
              rw [hlen] at HDE
              have HS1 := same_two hT (hl.keep hT.tch) heq
              have HS2 := same_two hT (hl'.keep hT.tch) heq
              have htch := hT.tch
              clear hlt hU hub hud huok hle heq hbe hlen
              go_wp2_with (first
                | (go_at_call 27; first | (with_reducible refine HDE.mono ?_; rintro e w' ⟨rfl, rfl⟩) | (with_reducible refine HDS.mono ?_; rintro e w' ⟨rfl, rfl⟩))
                | (go_at_call 30; first | (with_reducible refine HS1.mono ?_; rintro e w' ⟨rfl, rfl⟩) | (with_reducible refine HS2.mono ?_; rintro e w' ⟨rfl, rfl⟩))
                | (go_at_call 21; refine (awake16_any _).mono ?_; rintro e w3 ⟨rfl, t3⟩))
              all_goals
                go_ret
                exact ⟨rfl, htch.trans t3⟩

end Go.Proofs.Ytnknemepfjfcfaa
