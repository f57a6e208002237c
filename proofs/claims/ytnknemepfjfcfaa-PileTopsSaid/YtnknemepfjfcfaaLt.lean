/-
  The law PileTops.
-/
import Derived.Test.YtnknemepfjfcfaaPw
import Derived.Laws.OwnMore
import Derived.Deep.QuietTactic
namespace Go.Gk
open Go.Proofs.Ytnknemepfjfcfaa
/-- The pairs that were pushed: a key, and its place. -/
def placed (keys : List Int) : Nat → KV
  | 0 => []
  | j + 1 => placed keys j ++ [(keys.getD j 0, (j : Int))]
theorem placed_len (keys : List Int) : ∀ j, (placed keys j).length = j
  | 0 => rfl
  | j + 1 => by simp [placed, placed_len keys j]
/-- Some of them, in order. -/
structure Tops (keys : List Int) (x : KV) : Prop where
  mem : ∀ p ∈ x, ∃ i : Nat, i < keys.length ∧ p = (keys.getD i 0, (i : Int))
  inc : x.Pairwise fun a b => a.2 < b.2
theorem Tops.start (keys : List Int) : ∀ j, j ≤ keys.length → Tops keys (placed keys j) ∧ ∀ p ∈ placed keys j, p.2 < j
  | 0, _ => ⟨⟨by simp [placed], List.Pairwise.nil⟩, by simp [placed]⟩
  | j + 1, h => by
    obtain ⟨⟨h1, h2⟩, h3⟩ := Tops.start keys j (by omega)
    refine ⟨⟨fun p hp => ?_, ?_⟩, fun p hp => ?_⟩
    · rcases List.mem_append.1 hp with hp | hp
      · exact h1 p hp
      · exact ⟨j, by omega, by simpa using hp⟩
    · rw [placed, List.pairwise_append]
      refine ⟨h2, List.pairwise_singleton _ _, fun a ha b hb => ?_⟩
      obtain rfl : b = (keys.getD j 0, (j : Int)) := by simpa using hb
      exact h3 a ha
    · rcases List.mem_append.1 hp with hp | hp
      · have := h3 p hp; omega
      · obtain rfl : p = (keys.getD j 0, (j : Int)) := by simpa using hp
        simp only; omega
/-- What is not there any more: 'true' at its place. -/
def Seen (x : KV) (bs : List Bool) : Prop := ∀ i, i < bs.length → (bs.getD i true = false ↔ ∃ p ∈ x, p.2 = (i : Int))
def lex2 (a b : Int × Int) : Prop := a.1 < b.1 ∨ (a.1 = b.1 ∧ a.2 ≤ b.2)

theorem Tops.first {keys : List Int} {x : KV} (h : Tops keys x) (hx : 0 < x.length) : ∃ i : Nat, i < keys.length ∧ topP x = (keys.getD i 0, (i : Int)) ∧ (firstTo x x.length).isSome = true ∧ topP x ∈ x ∧ (∀ p ∈ x, lex2 (topP x) p) ∧ Tops keys (restOf x) ∧ (∀ p, p ∈ restOf x → p ∈ x ∧ p.2 ≠ (i : Int)) ∧ (∀ p ∈ x, p.2 ≠ (i : Int) → p ∈ restOf x) := by
  obtain ⟨a, ha⟩ := firstTo_some x x.length hx
  have hlt := firstTo_lt _ _ _ ha
  have htp : topP x = x[a] := by unfold topP; rw [ha]; simp only; rw [key0_get hlt, val0_get hlt]
  have hm : x[a] ∈ x := List.getElem_mem hlt
  obtain ⟨i, hi, he⟩ := h.mem _ hm
  have hsplit : x = x.take a ++ x[a] :: x.drop (a + 1) := by rw [← List.drop_eq_getElem_cons hlt, List.take_append_drop]
  have hro : restOf x = x.take a ++ x.drop (a + 1) := by unfold restOf; rw [ha]
  have hinc := h.inc
  rw [hsplit, List.pairwise_append, List.pairwise_cons] at hinc
  obtain ⟨i1, ⟨i2, i3⟩, i4⟩ := hinc
  have hsub : ∀ p, p ∈ restOf x → p ∈ x := fun p hp => by
    rw [hro] at hp
    rcases List.mem_append.1 hp with h | h
    · exact List.mem_of_mem_take h
    · exact List.mem_of_mem_drop h
  refine ⟨i, hi, by rw [htp]; exact he, by rw [ha]; rfl, by rw [htp]; exact hm, fun p hp => ?_, ⟨fun p hp => h.mem p (hsub p hp), ?_⟩, fun p hp => ⟨hsub p hp, ?_⟩, fun p hp hne => ?_⟩
  · obtain ⟨j, hj, rfl⟩ := List.getElem_of_mem hp
    have := firstTo_spec _ _ _ ha j hj
    rw [key0_get hlt, key0_get hj] at this
    rw [htp]
    unfold lex2
    rcases this with h1 | ⟨h1, h2⟩
    · exact .inl h1
    · refine .inr ⟨h1, ?_⟩
      rcases Nat.lt_or_ge a j with h3 | h3
      · have := List.pairwise_iff_getElem.1 h.inc a j hlt hj h3; omega
      · obtain rfl : a = j := by omega
        exact Int.le_refl _
  · rw [hro, List.pairwise_append]
    exact ⟨i1, i3, fun u hu v hv => i4 u hu v (List.mem_cons_of_mem _ hv)⟩
  · rw [hro] at hp
    rw [he] at i2 i4
    rcases List.mem_append.1 hp with h | h
    · have := i4 p h _ (List.mem_cons_self ..); simp only at this; omega
    · have := i2 p h; simp only at this; omega
  · rw [hro]
    rw [hsplit] at hp
    rcases List.mem_append.1 hp with h | h
    · exact List.mem_append_left _ h
    · rcases List.mem_cons.1 h with h | h
      · rw [h, he] at hne; exact absurd rfl hne
      · exact List.mem_append_right _ h

theorem Seen.step {x : KV} {bs : List Bool} (h : Seen x bs) {i : Nat} (hi : i < bs.length) (h1 : ∀ p, p ∈ restOf x → p ∈ x ∧ p.2 ≠ (i : Int)) (h2 : ∀ p ∈ x, p.2 ≠ (i : Int) → p ∈ restOf x) : Seen (restOf x) (bs.set i true) := fun j hj => by
  rw [List.length_set] at hj
  have hg : (bs.set i true).getD j true = if i = j then true else bs.getD j true := by
    simp only [List.getD_eq_getElem?_getD, List.getElem?_set]
    by_cases e : i = j
    · subst e; simp [hi]
    · simp [e]
  rw [hg]
  by_cases e : i = j
  · subst e
    rw [if_pos rfl]
    exact ⟨(fun h => by cases h), fun ⟨p, hp, hpe⟩ => absurd hpe (h1 p hp).2⟩
  · rw [if_neg e, h j hj]
    exact ⟨fun ⟨p, hp, hpe⟩ => ⟨p, h2 p hp (by omega), hpe⟩, fun ⟨p, hp, hpe⟩ => ⟨p, (h1 p hp).1, hpe⟩⟩
end Go.Gk
namespace Go.Proofs.Ytnknemepfjfcfaa
open Go.RowKit Go.Gk

theorem rowBools : RowTy Try.prog 44 4 (.bool false) 1 1 := ⟨Try.underlying44, by kernel_rfl, rfl, by decide⟩
theorem made_bools (n : Nat) : (madeCells #[.bool false] n).toList = (List.replicate n false).map Value.bool := by
  apply List.ext_getElem
  · simp [madeCells]
  · intro i h1 h2
    simp [madeCells, Nat.mod_one]

/-- Numbers that came in. -/
abbrev Nums (w : World) (A : Option Addr) (n c : Nat) (keys : List Int) : Prop := keys.length = n ∧ Row (fun _ => True) w (.slice A n c) n 1 (keys.map (Value.int .i64))
theorem nums_at {w : World} {g o n c : Nat} {keys : List Int} (h : Nums w (some ⟨g, o, none⟩) n c keys) {i : Nat} (hi : i < n) : w.cell? ⟨g, o + i, none⟩ = some (.int .i64 (keys.getD i 0)) :=
  h.2.at (by rw [List.getElem?_map, List.getElem?_eq_getElem (by rw [h.1]; exact hi)]; simp [h.1, hi])

set_option maxRecDepth 100000 in
set_option maxHeartbeats 6400000 in
theorem pileTops_any {w : World} {A : Option Addr} {n c : Nat} (hl : ∃ keys, Nums w A n c keys) :
    Calls Try.prog 5 #[.slice A n c] w fun e w' => e = .returned (.bool true) ∧ Tch (fun _ => False) w w' := by
  obtain ⟨keys, hk⟩ := hl
  have hm := hk.2.form
  obtain ⟨_, _, he, hc, hm⟩ := hm
  cases he
  by_cases hbig : ¬ n ≤ 100
  · clear hk
    have hB : (100 : Int) < n := by omega
    go_enter Try.func5, Try.ntmps5
    go_wp2_with fail
    refine (pnew_any w).mono ?_
    rintro e w1 ⟨b, rfl, -, -, t1⟩
    go_wp2_with (go_at_call 11; refine (awake9_any _).mono ?_; rintro e w3 ⟨rfl, t3⟩)
    go_ret
    exact ⟨rfl, t1.trans t3⟩
  have h100 : n ≤ 100 := by omega
  have h100' : ¬ (100 : Int) < n := by omega
  clear hbig
  go_enter Try.func5, Try.ntmps5
  go_wp2_with fail
  refine (pnew_any w).mono ?_
  rintro e w1 ⟨b, rfl, h1, hb1, t1⟩
  have h1 := h1.base (N := w.heap.size) (fun k hk => by omega)
  go_wp2_with fail
  clear h100'
  go_loopw [4] (fun i wr => ∃ j : Nat, j ≤ n ∧ i = .int .i64 j ∧ PileX wr (fun k => w.heap.size ≤ k ∧ k < wr.heap.size) b (placed keys j) j ∧ Tch (fun _ => False) w wr) (fun i _ => n - (intOf i).toNat)
  case atStart => exact ⟨0, Nat.zero_le _, rfl, h1, t1⟩
  case round =>
    obtain ⟨j, hj, rfl, hP, ht⟩ := hrel
    clear h1 t1 hb1
    by_cases hlt : j < n
    · obtain ⟨g, o, rfl⟩ := hk.2.head (by omega)
      have q := nums_at hk hlt
      have r := ht.cell_some q id
      have hpl := placed_len keys j
      have hk0 : (0 : Int) ≤ (j : Int) := Int.natCast_nonneg _
      have hk1 : (j : Int) < (n : Int) := by omega
      have hPU := push_x (a := keys.getD j 0) (v := (j : Int)) hP (by omega) (by omega)
      have hpj : placed keys (j + 1) = placed keys j ++ [(keys.getD j 0, (j : Int))] := rfl
      have HPJ := Hid.out (p := Hid _) hpj
      have HK := Hid.out (p := Hid _) hk
      generalize keys.getD j 0 = kx at *
      clear hpl q hpj hk
      go_wp2_with fail
      refine hPU.mono ?_
      rintro e w3 ⟨rfl, hP3, t3⟩
      have hP3 := hP3.base (N := w.heap.size) (fun k hk => by have := ht.size; omega)
      go_wp2_with fail
      go_roundw
      case rel => exact ⟨j + 1, by omega, by go_num, by rw [HPJ.out]; exact hP3, ht.trans' t3 (fun k hk => .inr hk.1)⟩
      case measure => simp [intOf]; omega
    · obtain rfl : n = j := by omega
      obtain ⟨i, hi, hiz, hsize, hby⟩ := info_parts rowBools.info
      obtain ⟨w2, hmk, ho2, hg2⟩ := run_make_full (P := Try.prog) wr 0 44 4 i _ 1 Try.underlying44 hi hiz hsize .i64 .i64 n (by rw [hby]; omega) (by unfold maxLen; omega) (Nat.zero_le _)
      have t2 : Tch (fun _ => False) wr w2 := Tch.grown hg2 (fun k e => by cases e)
      have hP2 := hP.keep t2 (fun _ _ => id)
      have tw2 := ht.trans t2
      have hz2 : wr.heap.size < w2.heap.size := own_lt ho2 rfl
      rw [Nat.mul_one, show (Value.bool false).cells = #[.bool false] from rfl, made_bools] at ho2
      have hst := Tops.start keys n (Nat.le_of_eq hk.1.symm)
      have hpl := placed_len keys n
      clear hi hiz hsize hby hg2 t2 hP ht hlt
      have hL := Blk.new w2 25 #[.int .i64 0, .int .i64 0]
      have tL := Tch.alloc (fun _ => False) w2 (.cells #[.int .i64 0, .int .i64 0] 25)
      have hP5 := hP2.keep tL (fun _ _ => id)
      have ho5 := tL.own ho2 (fun _ _ => id)
      have tw5 := tw2.trans tL
      have hL1 := hL.lt
      have HK := Hid.out (p := Hid _) hk
      have hG : ∀ k, (w.heap.size ≤ k ∧ k < wr.heap.size) → ¬ wr.heap.size ≤ k := fun k hk => by omega
      have hx0 : (placed keys n).length = n - 0 := by rw [hpl]; rfl
      have hseen : Seen (placed keys n) (List.replicate n false) := fun i hi => by
        rw [List.length_replicate] at hi
        have hmem : ∀ m, i < m → ∃ p ∈ placed keys m, p.2 = (i : Int) := fun m => by
          induction m with
          | zero => intro h; omega
          | succ m ih =>
            intro h
            by_cases e : i = m
            · subst e; exact ⟨_, List.mem_append_right _ (List.mem_singleton.2 rfl), rfl⟩
            · obtain ⟨p, hp, he⟩ := ih (by omega)
              exact ⟨p, List.mem_append_left _ hp, he⟩
        simp only [List.getD_eq_getElem?_getD, List.getElem?_replicate, if_pos hi, Option.getD_some, true_iff]
        exact hmem n hi
      have hwS := tw2.size
      have hws : w.heap.size ≤ wr.heap.size := by have := hL.lt; obtain ⟨h1, h2⟩ := (show w.heap.size ≤ b ∧ b < wr.heap.size from by obtain ⟨rv, row, next, g1, g2, g3, g4⟩ := hP5; exact g4 b (.inl rfl)); omega
      clear hP2 ho2 tw2 tL hk hpl
      go_wp2_with fail
      generalize w2.alloc (.cells #[.int .i64 0, .int .i64 0] 25) = w5 at *
      generalize w2.heap.size = L at *
      generalize wr.heap.size = N at *
      generalize placed keys n = x0 at *
      clear hmk hwS
      have hb5 : Blk w5 L 25 #[.int .i64 ((0, 0) : Int × Int).1, .int .i64 ((0, 0) : Int × Int).2] := hL
      clear hL
      go_loopw [7] (fun i wr => ∃ (j : Nat) (x : KV) (bs : List Bool) (lp : Int × Int), j ≤ n ∧ i = .int .i64 j ∧ (x.length = n - j ∧ bs.length = n) ∧ Tops keys x ∧ Seen x bs ∧ PileX wr (fun k => w.heap.size ≤ k ∧ k < N) b x n ∧ wr.ownsRow 0 4 1 (.slice (some ⟨N, 0, none⟩) n n) n (bs.map Value.bool) ∧ Blk wr L 25 #[.int .i64 lp.1, .int .i64 lp.2] ∧ (0 < j → ∀ p ∈ x, lex2 lp p) ∧ Tch (fun _ => False) w wr) (fun i _ => n - (intOf i).toNat)
      case atStart => exact ⟨0, x0, List.replicate n false, (0, 0), Nat.zero_le _, rfl, ⟨hx0, by simp⟩, hst.1, hseen, hP5, ho5, hb5, fun h => absurd h (by decide), tw5⟩
      case round =>
        obtain ⟨j, x, bs, lp, hj, rfl, ⟨hxl, hbl⟩, hT, hS, hP, ho, hB, hlex, ht⟩ := hrel
        clear hP5 ho5 hb5 tw5 hst hseen hx0 x0
        by_cases hlt : j < n
        · obtain ⟨v, hv, htp, hsome, htm, hmin, hT', hr1, hr2⟩ := hT.first (by omega)
          have hkl := HK.out.1
          have hS' := hS.step (i := v) (by omega) hr1 hr2
          have hbv : bs.getD v true = false := (hS v (by omega)).2 ⟨_, htm, by rw [htp]⟩
          have hkc := HK.out
          obtain ⟨g, o, rfl⟩ := hkc.2.head (by omega)
          have q := nums_at hkc (i := v) (by omega)
          have QS : Hid ((bs.map Value.bool)[v]? = some (.bool false)) := Hid.out (p := Hid _) (by rw [List.getElem?_map, List.getElem?_eq_getElem (by omega)]; simp only [Option.map_some]; congr 2; rw [← hbv]; simp [show v < bs.length by omega])
          have hrl := restOf_len x
          have hpo := pop_x hP (by omega)
          rw [topOf_eq, htp, hsome] at hpo
          have hlx : 0 < j → lex2 lp (keys.getD v 0, (v : Int)) := fun h => by have := hlex h _ htm; rwa [htp] at this
          have hmn : ∀ p ∈ restOf x, lex2 (keys.getD v 0, (v : Int)) p := fun p hp => by have := hmin p (hr1 p hp).1; rwa [htp] at this
          have hset : (bs.map Value.bool).set v (.bool true) = (bs.set v true).map Value.bool := by rw [List.map_set]
          have HMN := Hid.out (p := Hid _) hmn
          have HSET := Hid.out (p := Hid _) hset
          have HT := Hid.out (p := Hid _) hT'
          have HS := Hid.out (p := Hid _) hS'
          clear hmn hset hT' hS'
          generalize keys.getD v 0 = kv at *
          have hvn : v < n := by omega
          have HX := Hid.out (p := Hid _) (show (restOf x).length = n - (j + 1) ∧ (bs.set v true).length = n from ⟨by omega, by simpa using hbl⟩)
          have hvn' : (v : Int) < (n : Int) := by omega
          have hv0 : (0 : Int) ≤ (v : Int) := Int.natCast_nonneg _
          have hjn : (j : Int) < (n : Int) := by omega
          clear hkl hbv hkc hrl htp hsome htm hmin hr1 hr2 hxl hbl hS hT hlex hv hP
          go_wp2_with fail
          refine hpo.mono ?_
          rintro e w6 ⟨rfl, hP6, t6⟩
          have tw6 := ht.trans' t6 (fun k hk => .inr hk.1)
          have ho6 := t6.own ho (fun k e => by have := own_at e; omega)
          have hB6 := hB.keep t6 (fun h => by omega)
          have hx8 := Blk.new w6 25 #[.int .i64 kv, .int .i64 v]
          have t7 := Tch.alloc (fun _ => False) w6 (.cells #[.int .i64 kv, .int .i64 v] 25)
          have hP7 := hP6.keep t7 (fun _ _ => id)
          have ho7 := t7.own ho6 (fun _ _ => id)
          have hB7 := hB6.keep t7 id
          have tw7 := tw6.trans t7
          have hLz := hB6.lt
          have hNL : N < L := by omega
          clear hpo hP6 ho6 hB6 t6 tw6 t7 ho hB
          go_wp2_with fail
          generalize w6.alloc (.cells #[.int .i64 kv, .int .i64 v] 25) = w7 at *
          generalize w6.heap.size = z8 at *
          have qs7 := own_cell ho7 (g := N) rfl QS.out
          have d0 := tw7.cell_some q id
          have d1 : w7.cell? ⟨z8, 0, none⟩ = some (.int .i64 kv) := hx8.cell 0
          have d2 : w7.cell? ⟨z8, 1, none⟩ = some (.int .i64 v) := hx8.cell 1
          go_quiet (fail)
          rename_i nq
          have t8 : Tch (fun _ => False) w7 (w7.drewN nq) := Tch.drewN _ _ _
          clear d0 d1 d2 qs7
          generalize w7.drewN nq = w8 at *
          have hP8 := hP7.keep t8 (fun _ _ => id)
          have ho8 := t8.own ho7 (fun _ _ => id)
          have hB8 := hB7.keep t8 id
          have hx9 := hx8.keep t8 id
          have tw8 := tw7.trans t8
          clear t8 hP7 ho7 hB7 hx8 tw7
          have qs8 := own_cell ho8 (g := N) rfl QS.out
          have fs8 := own_frozen ho8 v
          have t9 : Tch (fun k => k = N) w8 (w8.setCell ⟨N, v, none⟩ (.bool true)) := Tch.setCell (F := fun k => k = N) w8 (p := ⟨N, v, none⟩) (.inl rfl) _
          have hP9 := hP8.keep t9 (fun k hk e => by omega)
          have ho9 := own_set ho8 v (.bool true)
          rw [HSET.out] at ho9
          have hB9 := hB8.keep t9 (fun e => by omega)
          have hx10 := hx9.keep t9 (fun e => by omega)
          have tw9 := tw8.trans' t9 (fun k hk => .inr (by omega))
          have x0 : (w8.setCell ⟨N, v, none⟩ (.bool true)).cell? ⟨z8, 0, none⟩ = some (.int .i64 kv) := hx10.cell 0
          have x1 : (w8.setCell ⟨N, v, none⟩ (.bool true)).cell? ⟨z8, 1, none⟩ = some (.int .i64 v) := hx10.cell 1
          have y0 : w8.cell? ⟨z8, 0, none⟩ = some (.int .i64 kv) := hx9.cell 0
          have y1 : w8.cell? ⟨z8, 1, none⟩ = some (.int .i64 v) := hx9.cell 1
          have l0 : w8.cell? ⟨L, 0, none⟩ = some (.int .i64 lp.1) := hB8.cell 0
          have l1 : w8.cell? ⟨L, 1, none⟩ = some (.int .i64 lp.2) := hB8.cell 1
          have fl0 := hB8.frozen 0
          have fl1 := hB8.frozen 1
          have n1 : ¬ z8 = N := by omega
          have n2 : ¬ N = z8 := by omega
          have n3 : ¬ L = N := by omega
          have n4 : ¬ N = L := by omega
          have n5 : ¬ L = z8 := by omega
          have n6 : ¬ z8 = L := by omega
          have tA := Tch.sets2 (w8.setCell ⟨N, v, none⟩ (.bool true)) L (.int .i64 kv) (.int .i64 v)
          have hPA := hP9.keep tA (fun k hk e => by omega)
          have hoA := tA.own ho9 (fun k e e2 => by have := own_at e; omega)
          have hBA := (hB9.set_ 0 (.int .i64 kv)).set_ 1 (.int .i64 v)
          simp only [List.setIfInBounds_toArray, List.set_cons_succ, List.set_cons_zero] at hBA
          have twA := tw9.trans' tA (fun k hk => .inr (by omega))
          have HREL : Hid (∃ (j' : Nat) (x' : KV) (bs' : List Bool) (lp' : Int × Int), j' ≤ n ∧ Value.int .i64 ((j : Int) + 1) = .int .i64 j' ∧ (x'.length = n - j' ∧ bs'.length = n) ∧ Tops keys x' ∧ Seen x' bs' ∧ PileX (((w8.setCell ⟨N, v, none⟩ (.bool true)).setCell ⟨L, 0, none⟩ (.int .i64 kv)).setCell ⟨L, 1, none⟩ (.int .i64 v)) (fun k => w.heap.size ≤ k ∧ k < N) b x' n ∧ (((w8.setCell ⟨N, v, none⟩ (.bool true)).setCell ⟨L, 0, none⟩ (.int .i64 kv)).setCell ⟨L, 1, none⟩ (.int .i64 v)).ownsRow 0 4 1 (.slice (some ⟨N, 0, none⟩) n n) n (bs'.map Value.bool) ∧ Blk (((w8.setCell ⟨N, v, none⟩ (.bool true)).setCell ⟨L, 0, none⟩ (.int .i64 kv)).setCell ⟨L, 1, none⟩ (.int .i64 v)) L 25 #[.int .i64 lp'.1, .int .i64 lp'.2] ∧ (0 < j' → ∀ p ∈ x', lex2 lp' p) ∧ Tch (fun _ => False) w (((w8.setCell ⟨N, v, none⟩ (.bool true)).setCell ⟨L, 0, none⟩ (.int .i64 kv)).setCell ⟨L, 1, none⟩ (.int .i64 v))) := Hid.out (p := Hid _) ⟨j + 1, restOf x, bs.set v true, (kv, (v : Int)), by omega, by go_num, HX.out, HT.out, HS.out, hPA, hoA, hBA, fun _ => HMN.out, twA⟩
          clear hPA hoA hBA twA tA hP9 ho9 hB9 hx10 tw9 t9 hP8 ho8 hB8 hx9 tw8 HX HT HS HMN
          by_cases hj0 : j = 0
          · subst hj0
            clear hlx
            go_wp2_with fail
            go_roundw
            case rel => exact HREL.out
            case measure => simp [intOf]; omega
          · have hl := hlx (by omega)
            have hj0' : (0 : Int) < (j : Int) := by omega
            unfold lex2 at hl
            by_cases hkl : kv = lp.1
            · subst hkl
              have h1 : ¬ (v : Int) < lp.2 := by omega
              have h2 : decide ((v : Int) < lp.2) = false := by simpa using h1
              clear hl hlx hj0
              go_wp2_with fail
              go_roundw
              case rel => exact HREL.out
              case measure => simp [intOf]; omega
            · have h1 : ¬ kv < lp.1 := by omega
              have h2 : (kv == lp.1) = false := by simpa using hkl
              clear hl hlx hj0 hkl
              go_wp2_with fail
              go_roundw
              case rel => exact HREL.out
              case measure => simp [intOf]; omega
        · obtain rfl : n = j := by omega
          have hxl0 : x.length = 0 := by rw [hxl]; omega
          obtain rfl : x = [] := List.eq_nil_of_length_eq_zero hxl0
          have hpo : Calls Try.prog _ _ _ fun e w' => e = .returned (.tuple #[.agg #[.int .i64 0, .int .i64 0], .bool false]) ∧ PileX w' (fun k => w.heap.size ≤ k ∧ k < N) b [] n ∧ Tch _ wr w' := pop_x hP (by simp)
          clear hlt hlex hxl hxl0
          go_wp2_with fail
          refine hpo.mono ?_
          rintro e w6 ⟨rfl, hP6, t6⟩
          have tw6 := ht.trans' t6 (fun k hk => .inr hk.1)
          have t7 := Tch.alloc (fun _ => False) w6 (.cells #[.int .i64 0, .int .i64 0] 25)
          have hP7 := hP6.keep t7 (fun _ _ => id)
          go_wp2_with fail
          refine (plen_x hP7).mono ?_
          rintro e w8 ⟨rfl, rfl⟩
          go_wp2_with (go_at_call 11; refine (awake9_any _).mono ?_; rintro e w9 ⟨rfl, t9⟩)
          go_ret
          exact ⟨rfl, (tw6.trans t7).trans t9⟩

end Go.Proofs.Ytnknemepfjfcfaa
