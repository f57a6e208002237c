/-
  The document's answer for layer 9: its functions.
-/
import Derived.Test.YtnknemepfjfcfaaRows
import Derived.Test.YtnknemepfjfcfaaGm
import Derived.Test.YtnknemepfjfcfaaRd
import Derived.Test.YtnknemepfjfcfaaGo
import Derived.Test.YtnknemepfjfcfaaPt
import Derived.WalkSpells
import Derived.WalkLawsBesides
import Derived.BigQuiet
import Derived.Deep.QuietTactic
import Derived.Deep.RegionHeld3
import Derived.Outline
import Derived.IntWalk
namespace Go.Gk
def key0 (l : KV) (i : Nat) : Int := (l.getD i (0, 0)).1
def val0 (l : KV) (i : Nat) : Int := (l.getD i (0, 0)).2
theorem key0_get {l : KV} {i : Nat} (h : i < l.length) : key0 l i = l[i].1 := by simp [key0, h]
theorem val0_get {l : KV} {i : Nat} (h : i < l.length) : val0 l i = l[i].2 := by simp [val0, h]
theorem flatP2 : ∀ a, (flatP a).length = 2 := fun _ => rfl
/-- The first among those ahead of i. -/
def firstTo (l : KV) : Nat → Option Nat
  | 0 => none
  | i + 1 => match firstTo l i with
    | none => some i
    | some a => if key0 l i < key0 l a then some i else some a
theorem firstTo_lt (l : KV) : ∀ (i a : Nat), firstTo l i = some a → a < i
  | i + 1, a, h => by
    unfold firstTo at h
    cases hf : firstTo l i with
    | none => simp [hf] at h; omega
    | some b =>
      have := firstTo_lt l i b hf
      simp only [hf] at h
      split at h <;> simp at h <;> omega
theorem firstTo_spec (l : KV) : ∀ (i a : Nat), firstTo l i = some a → ∀ j, j < i → key0 l a < key0 l j ∨ (key0 l a = key0 l j ∧ a ≤ j)
  | i + 1, a, h, j, hj => by
    unfold firstTo at h
    cases hf : firstTo l i with
    | none =>
      simp [hf] at h
      subst h
      have : i = 0 := by
        cases i with
        | zero => rfl
        | succ i => unfold firstTo at hf; split at hf <;> (try split at hf) <;> simp at hf
      obtain rfl : j = i := by omega
      exact .inr ⟨rfl, Nat.le_refl _⟩
    | some b =>
      have hb := firstTo_lt l i b hf
      have hs := firstTo_spec l i b hf
      simp only [hf] at h
      split at h
      · simp at h
        subst h
        by_cases e : j = i
        · subst e; exact .inr ⟨rfl, Nat.le_refl _⟩
        · have := hs j (by omega); omega
      · simp at h
        subst h
        by_cases e : j = i
        · subst e; omega
        · exact hs j (by omega)
theorem firstTo_some (l : KV) : ∀ (i : Nat), 0 < i → ∃ a, firstTo l i = some a
  | i + 1, _ => by
    unfold firstTo
    cases firstTo l i with
    | none => exact ⟨_, rfl⟩
    | some b => dsimp only; split <;> exact ⟨_, rfl⟩
def atInt : Option Nat → Int
  | none => -1
  | some a => a
end Go.Gk
namespace Go.Proofs.Ytnknemepfjfcfaa
open Go.RowKit Go.Gk

theorem prs_und : Try.prog.underlying 28 = some (.slice 25) := Try.underlying28
theorem prs_size : (Try.prog.info? 25).map (·.size) = some 2 := by kernel_rfl
theorem rowPr : RowTy Try.prog 28 25 (.agg #[.int .i64 0, .int .i64 0]) 2 16 := ⟨Try.underlying28, by kernel_rfl, rfl, by decide⟩

/-- Pairs that are read. -/
abbrev Prs (B : Nat → Prop) (w : World) (v : Value) (l : KV) : Prop := Row B w v l.length 2 (l.flatMap flatP)
theorem prs_cells {B : Nat → Prop} {w : World} {g o c : Nat} {l : KV} (h : Prs B w (.slice (some ⟨g, o, none⟩) l.length c) l) {i : Nat} (hi : i < l.length) :
    w.cell? ⟨g, o + i * 2, none⟩ = some (.int .i64 (key0 l i)) ∧ w.cell? ⟨g, o + i * 2 + 1, none⟩ = some (.int .i64 (val0 l i)) := by
  have h0 := flat_at flatP2 l i hi 0 (by decide)
  have h1 := flat_at flatP2 l i hi 1 (by decide)
  rw [key0_get hi, val0_get hi]
  exact ⟨h.at (by simpa [flatP] using h0), by rw [Nat.add_assoc]; exact h.at (by simpa [flatP] using h1)⟩

set_option maxRecDepth 100000 in
set_option maxHeartbeats 800000 in
theorem first_any {B : Nat → Prop} {w : World} {v : Value} {l : KV} (h : Prs B w v l) (hn : l.length ≤ 1000000) :
    Calls Try.prog 56 #[v] w fun e w' => e = .returned (.int .i64 (atInt (firstTo l l.length))) ∧ Tch (fun _ => False) w w' := by
  obtain ⟨A, c, rfl, hc1, hc2⟩ := h.form
  go_enter Try.func56, Try.ntmps56
  go_wp2
  go_loopw [3, 4] (fun at_ i wr => ∃ j : Nat, j ≤ l.length ∧ i = .int .i64 j ∧ at_ = .int .i64 (atInt (firstTo l j)) ∧ Tch (fun _ => False) w wr) (fun _ i _ => l.length - (intOf i).toNat)
  case atStart => exact ⟨0, Nat.zero_le _, rfl, rfl, Tch.refl _ _⟩
  case round =>
    obtain ⟨j, hj, rfl, rfl, ht⟩ := hrel
    by_cases hlt : j < l.length
    · obtain ⟨g, o, rfl⟩ := h.head (by omega)
      have hk := h.keep ht
      have q := (prs_cells hk hlt).1
      have hlt' : (j : Int) < (l.length : Int) := by omega
      have hj0 : (0 : Int) ≤ (j : Int) := by omega
      cases hf : firstTo l j with
      | none =>
        have hst : firstTo l (j + 1) = some j := by rw [firstTo, hf]
        have HST := Hid.out (p := Hid _) hst
        clear hf hst h hk
        simp only [atInt]
        go_wp2_with fail
        go_quiet (fail)
        go_wp2
        go_roundw
        case rel => exact ⟨j + 1, by omega, by go_num, by rw [HST.out], ht.trans (Tch.drewN _ _ _)⟩
        case measure => simp [intOf]; omega
      | some a =>
        have ha := firstTo_lt l j a hf
        have q2 := (prs_cells hk (i := a) (by omega)).1
        have ha0 : (0 : Int) ≤ (a : Int) := by omega
        have ha1 : (a : Int) < (l.length : Int) := by omega
        have hst : firstTo l (j + 1) = if key0 l j < key0 l a then some j else some a := by rw [firstTo, hf]
        generalize key0 l j = x at *
        generalize key0 l a = y at *
        simp only [atInt]
        by_cases hxy : x < y
        · rw [if_pos hxy] at hst
          have HST := Hid.out (p := Hid _) hst
          clear hf hst h hk ha
          go_wp2_with fail
          go_quiet (fail)
          go_wp2
          go_roundw
          case rel => exact ⟨j + 1, by omega, by go_num, by rw [HST.out], ht.trans (Tch.drewN _ _ _)⟩
          case measure => simp [intOf]; omega
        · rw [if_neg hxy] at hst
          have HST := Hid.out (p := Hid _) hst
          clear hf hst h hk ha
          go_wp2_with fail
          go_quiet (fail)
          go_wp2
          go_roundw
          case rel => exact ⟨j + 1, by omega, by go_num, by rw [HST.out], ht.trans (Tch.drewN _ _ _)⟩
          case measure => simp [intOf]; omega
    · obtain rfl : l.length = j := by omega
      clear hlt
      go_wp2
      go_ret
      exact ⟨rfl, ht⟩

/-- What the document's first is. -/
def topOf (l : KV) : Value := match firstTo l l.length with | none => .agg #[.int .i64 0, .int .i64 0] | some a => .agg #[.int .i64 (key0 l a), .int .i64 (val0 l a)]
def restOf (l : KV) : KV := match firstTo l l.length with | none => l | some a => l.take a ++ l.drop (a + 1)

set_option maxRecDepth 100000 in
set_option maxHeartbeats 1600000 in
theorem rpeek_any {B : Nat → Prop} {w : World} {v : Value} {l : KV} (h : Prs B w v l) (hn : l.length ≤ 1000000) :
    Calls Try.prog 36 #[v] w fun e w' => e = .returned (.tuple #[topOf l, .bool (firstTo l l.length).isSome]) ∧ Tch (fun _ => False) w w' := by
  have hr := Blk.new w 25 #[.int .i64 0, .int .i64 0]
  have tr := Tch.alloc (fun _ => False) w (.cells #[.int .i64 0, .int .i64 0] 25)
  have hk := h.keep tr
  have hf := first_any hk hn
  obtain ⟨A, c, rfl, hc1, hc2⟩ := h.form
  unfold topOf
  clear h
  rcases hF : firstTo l l.length with _ | a
  · rw [hF] at hf
    simp only [atInt] at hf
    simp only [Option.isSome_none]
    clear hF
    go_enter Try.func36, Try.ntmps36
    go_wp2_with fail
    generalize w.alloc (.cells #[.int .i64 0, .int .i64 0] 25) = W at *
    generalize hz : w.heap.size = z at *
    have HZ := Hid.out (p := Hid (w.heap.size = z)) hz
    clear hz
    refine hf.mono ?_
    rintro e w1 ⟨rfl, t1⟩
    have hk1 := hk.keep t1
    have hr1 := hr.keep t1 id
    have r0 := hr1.frozen 0
    have r1 := hr1.frozen 1
    have r2 : w1.cell? ⟨z, 0, none⟩ = some (.int .i64 0) := hr1.cell 0
    have r3 : w1.cell? ⟨z, 1, none⟩ = some (.int .i64 0) := hr1.cell 1
    have tw := tr.trans t1
    clear hf hk hr tr t1
    go_wp2
    have hbF := (hr1.set_ 0 (.int .i64 0)).set_ 1 (.int .i64 0)
    simp only [List.setIfInBounds_toArray, List.set_cons_succ, List.set_cons_zero] at hbF
    (try simp only [Exit.inBlock, Exit.then])
    refine bodyPost_ret (results_row_tmp (P := Try.prog) rfl _ _ z 25 _ (0, 0) _ rfl hbF Try.underlying25 rfl (by kernel_rfl)) rfl ?_
    have tf := tw.trans' (Tch.sets2 w1 z (.int .i64 0) (.int .i64 0)) (fun i h => .inr (by rw [HZ.out]; omega))
    exact ⟨rfl, tf⟩
  · have ha := firstTo_lt l _ a hF
    obtain ⟨g, o, rfl⟩ := hk.head (by omega)
    have ha0 : (0 : Int) ≤ (a : Int) := by omega
    have ha1 : (a : Int) < (l.length : Int) := by omega
    simp only [Option.isSome_some]
    generalize hx : key0 l a = x
    generalize hy : val0 l a = y
    have HX := Hid.out (p := Hid _) hx
    have HY := Hid.out (p := Hid _) hy
    rw [hF] at hf
    simp only [atInt] at hf
    clear hF hx hy
    go_enter Try.func36, Try.ntmps36
    go_wp2_with fail
    generalize w.alloc (.cells #[.int .i64 0, .int .i64 0] 25) = W at *
    generalize hz : w.heap.size = z at *
    have HZ := Hid.out (p := Hid (w.heap.size = z)) hz
    clear hz
    refine hf.mono ?_
    rintro e w1 ⟨rfl, t1⟩
    have hk1 := hk.keep t1
    have hr1 := hr.keep t1 id
    have tw := tr.trans t1
    clear hf hk hr tr t1
    have r0 := hr1.frozen 0
    have r1 := hr1.frozen 1
    have r2 : w1.cell? ⟨z, 0, none⟩ = some (.int .i64 0) := hr1.cell 0
    have r3 : w1.cell? ⟨z, 1, none⟩ = some (.int .i64 0) := hr1.cell 1
    obtain ⟨q1, q2⟩ := prs_cells hk1 ha
    rw [HX.out] at q1
    rw [HY.out] at q2
    go_wp2
    have hbF := (hr1.set_ 0 (.int .i64 x)).set_ 1 (.int .i64 y)
    simp only [List.setIfInBounds_toArray, List.set_cons_succ, List.set_cons_zero] at hbF
    (try simp only [Exit.inBlock, Exit.then])
    refine bodyPost_ret (results_row_tmp (P := Try.prog) rfl _ _ z 25 _ (0, 0) _ rfl hbF Try.underlying25 rfl (by kernel_rfl)) rfl ?_
    exact ⟨rfl, tw.trans' (Tch.sets2 _ z _ _) (fun i h => .inr (by rw [HZ.out]; omega))⟩

/-- All cells of pairs are one cell. -/
theorem flatP_one (l : KV) : ∀ u ∈ l.flatMap flatP, u.oneCell' = true := fun u hu => by
  obtain ⟨p, _, hp⟩ := List.mem_flatMap.1 hu
  exact flatP_one1 p u hp

theorem results_tmp_cell_tmp {fn : Func} {s p u : Tmp} {ty : TypeId} (h : fn.results = #[.tmp s, .cell p ty, .tmp u]) (tmps : Array Value) (P : Program) (w : World) :
    (results fn tmps).run P w =
      ((asAddr (tmps.getD p undef)).run P w).andThen fun a w₁ => ((loadVar ty a).run P w₁).andThen fun v w₂ => .ok (.tuple #[tmps.getD s undef, v, tmps.getD u undef]) w₂ := by
  simp only [results, h]
  simp [Sem.run_bind, Result.andThen]
theorem results_tmp_row_tmp {P : Program} {fn : Func} {s p u : Tmp} {ty : TypeId} (h : fn.results = #[.tmp s, .cell p ty, .tmp u]) (tmps : Array Value) (w : World) (g : Nat) (t : TypeId) (cs : Array Value) (fr : Nat × Nat) (d : TypeDesc)
    (hp : tmps.getD p undef = .pointer (some ⟨g, 0, none⟩)) (hg : w.heap[g]? = some (.cells cs t fr))
    (hu : P.underlying ty = some d) (hd : (match d with | .struct _ | .array _ _ => true | _ => false) = true) (hi : (P.info? ty).map (·.size) = some cs.size) :
    (results fn tmps).run P w = .ok (.tuple #[tmps.getD s undef, .agg cs, tmps.getD u undef]) w := by
  rw [results_tmp_cell_tmp h, hp]
  simp [asAddr, run_loadVar_row w g t ty cs fr d hg hu hd hi, Result.andThen]

set_option maxRecDepth 100000 in
set_option maxHeartbeats 1600000 in
theorem rpop_any {B : Nat → Prop} {w : World} {v : Value} {l : KV} (h : Prs B w v l) (hn : l.length ≤ 1000000) (hB : ∀ g, w.heap.size ≤ g → B g) :
    Calls Try.prog 35 #[v] w fun e w' => ∃ v', e = .returned (.tuple #[v', topOf l, .bool (firstTo l l.length).isSome]) ∧ Prs B w' v' (restOf l) ∧ Tch (fun _ => False) w w' := by
  have hr := Blk.new w 25 #[.int .i64 0, .int .i64 0]
  have tr := Tch.alloc (fun _ => False) w (.cells #[.int .i64 0, .int .i64 0] 25)
  have hk := h.keep tr
  have hf := first_any hk hn
  obtain ⟨A, c, rfl, hc1, hc2⟩ := h.form
  unfold topOf restOf
  rcases hF : firstTo l l.length with _ | a
  · rw [hF] at hf
    simp only [atInt] at hf
    simp only [Option.isSome_none]
    clear hF
    go_enter Try.func35, Try.ntmps35
    go_wp2_with fail
    generalize w.alloc (.cells #[.int .i64 0, .int .i64 0] 25) = W at *
    generalize hz : w.heap.size = z at *
    have HZ := Hid.out (p := Hid (w.heap.size = z)) hz
    clear hz
    refine hf.mono ?_
    rintro e w1 ⟨rfl, t1⟩
    have hk1 := hk.keep t1
    have hr1 := hr.keep t1 id
    have r0 := hr1.frozen 0
    have r1 := hr1.frozen 1
    have r2 : w1.cell? ⟨z, 0, none⟩ = some (.int .i64 0) := hr1.cell 0
    have r3 : w1.cell? ⟨z, 1, none⟩ = some (.int .i64 0) := hr1.cell 1
    have tw := tr.trans t1
    clear hf hk hr tr t1
    go_wp2
    have hbF := (hr1.set_ 0 (.int .i64 0)).set_ 1 (.int .i64 0)
    simp only [List.setIfInBounds_toArray, List.set_cons_succ, List.set_cons_zero] at hbF
    (try simp only [Exit.inBlock, Exit.then])
    refine bodyPost_ret (results_tmp_row_tmp (P := Try.prog) rfl _ _ z 25 _ (0, 0) _ rfl hbF Try.underlying25 rfl (by kernel_rfl)) rfl ?_
    have tf := tw.trans' (Tch.sets2 w1 z (.int .i64 0) (.int .i64 0)) (fun i h => .inr (by rw [HZ.out]; omega))
    exact ⟨_, rfl, h.keep tf, tf⟩
  · have ha := firstTo_lt l _ a hF
    obtain ⟨g, o, rfl⟩ := hk.head (by omega)
    have hgz := (h.block (by omega)).2
    clear h
    have ha0 : (0 : Int) ≤ (a : Int) := by omega
    have ha1 : (a : Int) < (l.length : Int) := by omega
    simp only [Option.isSome_some]
    generalize hx : key0 l a = x
    generalize hy : val0 l a = y
    have HX := Hid.out (p := Hid _) hx
    have HY := Hid.out (p := Hid _) hy
    rw [hF] at hf
    simp only [atInt] at hf
    clear hF hx hy
    go_enter Try.func35, Try.ntmps35
    go_wp2_with fail
    generalize w.alloc (.cells #[.int .i64 0, .int .i64 0] 25) = W at *
    generalize hz : w.heap.size = z at *
    have HZ := Hid.out (p := Hid (w.heap.size = z)) hz
    clear hz
    refine hf.mono ?_
    rintro e w1 ⟨rfl, t1⟩
    have hk1 := hk.keep t1
    have hr1 := hr.keep t1 id
    have tw := tr.trans t1
    clear hf hk hr tr t1
    have hal : a ≤ l.length := by omega
    have own0 : (w1.ownsRow 0 25 2 (.slice none 0 0) 0 []) := World.ownsRow_nil _ _ _ _
    have hcut := hk1.takes flatP2 (k := a) hal
    have hsrc := hcut.src
    go_wp2_with (at_builtin; refine wpList_append _ rfl _ _ 28 rfl rowPr own0 (by rfl) hsrc (by rfl) (flatP_one _) (by unfold maxLen; omega) (by omega) ?_; intro v2 w2 ho hg hll; obtain ⟨A2, c2, rfl, hnc2, hcm2, _⟩ := own_form ho)
    have t2 : Tch (fun _ => False) w1 w2 := Tch.grown hg (fun k hk => by cases hk)
    have hk2 := hk1.keep t2
    have hr2 := hr1.keep t2 id
    have tw2 := tw.trans t2
    have hgN := (hk1.block (by omega)).2
    have hzN := hr1.lt
    have hn2 : ∀ g, (Value.slice A2 a c2).ownBlock = some g → w1.heap.size ≤ g := fun g e => by
      rcases hll g (by rw [Nat.zero_add]; exact e) with h | h
      · cases h
      · exact h
    rw [List.nil_append, Nat.zero_add] at ho
    have hN2 := t2.size
    generalize w1.heap.size = N at *
    clear hk1 hr1 tw t2 own0 hcut hsrc hg hll
    have hcutl := hk2.cuts flatP2 (lo := a + 1) (hi := l.length) (by omega) (Nat.le_refl _)
    obtain ⟨q1, q2⟩ := prs_cells hk2 ha
    rw [HX.out] at q1
    rw [HY.out] at q2
    have hs3 := hcutl.src
    rw [List.take_of_length_le (by simp)] at hs3
    have ew : IntKind.i64.wrap ((a : Int) + 1) = (a : Int) + 1 := IntWalk.i64_in _ (by omega)
    have ha2 : (a : Int) + 1 ≤ (l.length : Int) := by omega
    have ha3 : (0 : Int) ≤ (a : Int) + 1 := by omega
    have ha4 : ((a : Int) + 1).toNat = a + 1 := by omega
    have hgz1 : ¬ g = z := by omega
    have hgz2 : ¬ z = g := by omega
    have hfin : ∀ v3 w3, w3.ownsRow 0 25 2 v3 (a + (l.length - (a + 1))) ((l.take a).flatMap flatP ++ (l.drop (a + 1)).flatMap flatP) → (∀ k, v3.ownBlock = some k → N ≤ k) → Tch (fun k => N ≤ k) w2 w3 →
        Prs B ((w3.setCell ⟨z, 0, none⟩ (.int .i64 x)).setCell ⟨z, 1, none⟩ (.int .i64 y)) v3 (l.take a ++ l.drop (a + 1)) ∧ Tch (fun _ => False) w ((w3.setCell ⟨z, 0, none⟩ (.int .i64 x)).setCell ⟨z, 1, none⟩ (.int .i64 y)) := fun v3 w3 h1 h2 h3 => by
      have t4 := Tch.sets2 w3 z (.int .i64 x) (.int .i64 y)
      have h5 := t4.own h1 (fun k hk e => by have := h2 k hk; omega)
      rw [← List.flatMap_append] at h5
      have e1 : a + (l.length - (a + 1)) = (l.take a ++ l.drop (a + 1)).length := by simp; omega
      rw [e1] at h5
      exact ⟨Row.own h5 (fun k hk => hB k (by have := h2 k hk; omega)), (tw2.trans' h3 (fun k hk => .inr (by rw [HZ.out]; omega))).trans' t4 (fun k hk => .inr (by rw [HZ.out]; omega))⟩
    have HF := Hid.out (p := Hid _) hfin
    clear hfin
    by_cases hca : c = a + 1
    · rw [if_pos hca] at hs3
      subst hca
      have hz0 : l.length - (a + 1) = 0 := by omega
      simp only [Nat.sub_self] at hs3
      rw [hz0] at hs3
      have HZ0 := Hid.out (p := Hid _) hz0
      clear hz0
      go_region_held3 (fun w' => w'.cell? ⟨g, o + a * 2, none⟩ = some (.int .i64 x) ∧ w'.cell? ⟨g, o + a * 2 + 1, none⟩ = some (.int .i64 y))
        (first | go_keep | (go_split_ands; exact ⟨(Tch.grown (F := fun k => N ≤ k) hg3 (fun k e => .inl (hn2 k e))).cell_some (by assumption) (by show ¬ N ≤ g; omega), (Tch.grown (F := fun k => N ≤ k) hg3 (fun k e => .inl (hn2 k e))).cell_some (by assumption) (by show ¬ N ≤ g; omega)⟩))
        (go_must (refine step_append _ (by rfl) _ _ _ (by rfl) rowPr ((Tch.drew (fun _ => False) w2).own ho (fun _ _ => id)) (by rfl) (hs3.keep (Tch.drew (fun _ => False) w2) (fun _ _ => id)) (by rfl) (flatP_one _) (by unfold maxLen; omega) (by omega) ?_; intro v3 w3 ho3 hg3 hl3; have t3 : Tch (fun k => N ≤ k) w2 w3 := (Tch.drew _ w2).trans (Tch.grown hg3 (fun k e => .inl (hn2 k e))); have hr3 := hr2.keep t3 (by show ¬ N ≤ z; omega); have s0 := hr3.frozen 0; have s1 := hr3.frozen 1; have s2 : w3.cell? ⟨z, 0, none⟩ = some (.int .i64 0) := hr3.cell 0; have s3 : w3.cell? ⟨z, 1, none⟩ = some (.int .i64 0) := hr3.cell 1))
      all_goals
        go_wp2
        have hbF := (hr3.set_ 0 (.int .i64 x)).set_ 1 (.int .i64 y)
        simp only [List.setIfInBounds_toArray, List.set_cons_succ, List.set_cons_zero] at hbF
        (try simp only [Exit.inBlock, Exit.then])
        refine bodyPost_ret (results_tmp_row_tmp (P := Try.prog) rfl _ _ z 25 _ (0, 0) _ rfl hbF Try.underlying25 rfl (by kernel_rfl)) rfl ?_
        exact ⟨_, rfl, HF.out _ _ (by rw [HZ0.out]; exact ho3) (fun k e => (hl3 k e).elim (hn2 k) (fun h => Nat.le_trans hN2 h)) t3⟩
    · rw [if_neg hca, Option.map_some, Addr.add_mid] at hs3
      go_region_held3 (fun w' => w'.cell? ⟨g, o + a * 2, none⟩ = some (.int .i64 x) ∧ w'.cell? ⟨g, o + a * 2 + 1, none⟩ = some (.int .i64 y))
        (first | go_keep | (go_split_ands; exact ⟨(Tch.grown (F := fun k => N ≤ k) hg3 (fun k e => .inl (hn2 k e))).cell_some (by assumption) (by show ¬ N ≤ g; omega), (Tch.grown (F := fun k => N ≤ k) hg3 (fun k e => .inl (hn2 k e))).cell_some (by assumption) (by show ¬ N ≤ g; omega)⟩))
        (go_must (refine step_append _ (by rfl) _ _ _ (by rfl) rowPr ((Tch.drew (fun _ => False) w2).own ho (fun _ _ => id)) (by rfl) (hs3.keep (Tch.drew (fun _ => False) w2) (fun _ _ => id)) (by rfl) (flatP_one _) (by unfold maxLen; omega) (by omega) ?_; intro v3 w3 ho3 hg3 hl3; have t3 : Tch (fun k => N ≤ k) w2 w3 := (Tch.drew _ w2).trans (Tch.grown hg3 (fun k e => .inl (hn2 k e))); have hr3 := hr2.keep t3 (by show ¬ N ≤ z; omega); have s0 := hr3.frozen 0; have s1 := hr3.frozen 1; have s2 : w3.cell? ⟨z, 0, none⟩ = some (.int .i64 0) := hr3.cell 0; have s3 : w3.cell? ⟨z, 1, none⟩ = some (.int .i64 0) := hr3.cell 1))
      all_goals
        go_wp2
        have hbF := (hr3.set_ 0 (.int .i64 x)).set_ 1 (.int .i64 y)
        simp only [List.setIfInBounds_toArray, List.set_cons_succ, List.set_cons_zero] at hbF
        (try simp only [Exit.inBlock, Exit.then])
        refine bodyPost_ret (results_tmp_row_tmp (P := Try.prog) rfl _ _ z 25 _ (0, 0) _ rfl hbF Try.underlying25 rfl (by kernel_rfl)) rfl ?_
        exact ⟨_, rfl, HF.out _ _ ho3 (fun k e => (hl3 k e).elim (hn2 k) (fun h => Nat.le_trans hN2 h)) t3⟩

def topP (l : KV) : Int × Int := match firstTo l l.length with | none => (0, 0) | some a => (key0 l a, val0 l a)
theorem topOf_eq (l : KV) : topOf l = .agg #[.int .i64 (topP l).1, .int .i64 (topP l).2] := by
  unfold topOf topP; cases firstTo l l.length <;> rfl

set_option maxRecDepth 100000 in
set_option maxHeartbeats 800000 in
theorem rsame_any {B B' : Nat → Prop} {w : World} {v v' : Value} {l : KV} (h : Prs B w v l) (h' : Prs B' w v' l) :
    Calls Try.prog 15 #[v, v'] w fun e w' => e = .returned (.bool true) ∧ Tch (fun _ => False) w w' := by
  obtain ⟨A, c, rfl, hc1, hc2⟩ := h.form
  obtain ⟨A', c', rfl, hc1', hc2'⟩ := h'.form
  go_enter Try.func15, Try.ntmps15
  go_wp2
  go_loopw [5] (fun i wr => ∃ j : Nat, j ≤ l.length ∧ i = .int .i64 j ∧ Tch (fun _ => False) w wr) (fun i _ => l.length - (intOf i).toNat)
  case atStart => exact ⟨0, Nat.zero_le _, rfl, Tch.refl _ _⟩
  case round =>
    obtain ⟨j, hj, rfl, ht⟩ := hrel
    by_cases hlt : j < l.length
    · obtain ⟨g, o, rfl⟩ := h.head (by omega)
      obtain ⟨g', o', rfl⟩ := h'.head (by omega)
      obtain ⟨q1, q2⟩ := prs_cells (h.keep ht) hlt
      obtain ⟨q1', q2'⟩ := prs_cells (h'.keep ht) hlt
      have hlt' : (j : Int) < (l.length : Int) := by omega
      have hj0 : (0 : Int) ≤ (j : Int) := by omega
      generalize key0 l j = x at *
      generalize val0 l j = y at *
      have hne := run_ne_pair_same x y
      clear h h'
      go_wp2_with fail
      go_quiet (fail)
      go_wp2
      go_roundw
      case rel => exact ⟨j + 1, by omega, by go_num, ht.trans (Tch.drewN _ _ _)⟩
      case measure => simp [intOf]; omega
    · obtain rfl : l.length = j := by omega
      clear hlt
      go_wp2
      go_ret
      exact ⟨rfl, ht⟩

def srt (l : KV) : Nat → KV × KV
  | 0 => ([], l)
  | n + 1 => ((srt l n).1 ++ [topP (srt l n).2], restOf (srt l n).2)
theorem restOf_len (l : KV) : (restOf l).length = l.length - 1 := by
  unfold restOf
  cases hf : firstTo l l.length with
  | none =>
    rcases Nat.eq_zero_or_pos l.length with h | h
    · simp; omega
    · obtain ⟨a, ha⟩ := firstTo_some l _ h
      rw [ha] at hf; cases hf
  | some a => have := firstTo_lt l _ a hf; simp; omega
theorem srt_len (l : KV) : ∀ n, (srt l n).1.length = n ∧ (srt l n).2.length = l.length - n
  | 0 => ⟨rfl, rfl⟩
  | n + 1 => by
    have := srt_len l n
    simp only [srt, List.length_append, List.length_singleton, restOf_len]
    omega

set_option maxRecDepth 100000 in
set_option maxHeartbeats 1600000 in
theorem rsorted_any {B : Nat → Prop} {w : World} {v : Value} {l : KV} (h : Prs B w v l) (hn : l.length ≤ 1000000) (hB : ∀ g, w.heap.size ≤ g → B g) :
    Calls Try.prog 17 #[v] w fun e w' => ∃ v', e = .returned v' ∧ Prs B w' v' (srt l l.length).1 ∧ Tch (fun _ => False) w w' := by
  obtain ⟨A, c, rfl, hc1, hc2⟩ := h.form
  go_enter Try.func17, Try.ntmps17
  go_wp2
  go_loopw [3, 4, 5] (fun out left i wr => ∃ j : Nat, j ≤ l.length ∧ i = .int .i64 j ∧ wr.ownsRow w.heap.size 25 2 out (srt l j).1.length ((srt l j).1.flatMap flatP) ∧ Prs (fun g => out.ownBlock ≠ some g) wr left (srt l j).2 ∧ Tch (fun _ => False) w wr) (fun _ _ i _ => l.length - (intOf i).toNat)
  case atStart => exact ⟨0, Nat.zero_le _, rfl, World.ownsRow_nil _ _ _ _, h.weak (fun _ _ e => by cases e), Tch.refl _ _⟩
  case round =>
    obtain ⟨j, hj, rfl, ho, hl, ht⟩ := hrel
    have n1 : (srt l j).1.length ≤ l.length := by rw [(srt_len l j).1]; exact hj
    have n2 : (srt l j).2.length ≤ l.length := by rw [(srt_len l j).2]; omega
    by_cases hlt : j < l.length
    · have hst : (srt l (j + 1)) = ((srt l j).1 ++ [topP (srt l j).2], restOf (srt l j).2) := rfl
      have HST := Hid.out (p := Hid _) hst
      generalize (srt l j).1 = os at *
      generalize (srt l j).2 = ls at *
      obtain ⟨O, co, rfl, _, _, _⟩ := own_form ho
      obtain ⟨L, cl, rfl, _, _⟩ := hl.form
      have hP := rpop_any hl (by omega) (fun g hg e => by have := own_lt ho e; omega)
      rw [topOf_eq] at hP
      generalize hp : topP ls = p at *
      have hlt' : (j : Int) < (l.length : Int) := by omega
      clear hst hp h
      go_wp2_with (first
        | (go_at_call 35; with_reducible refine hP.mono ?_; rintro e w1 ⟨v1, rfl, hl1, t1⟩; have ho1 := t1.own ho (fun _ _ => id))
        | (at_builtin; refine wpList_append _ rfl _ _ 28 rfl rowPr (own_base (((ho1.alloc _).alloc _))) (by rfl) (Src.one (news := flatP p) rfl (fun m u hu => by rw [(Blk.new2 w1 (.cells #[.int .i64 p.1, .int .i64 p.2] 25) 25 #[.int .i64 p.1, .int .i64 p.2]).cell m]; simpa [flatP] using hu)) (by rfl) (flatP_one1 _) (by unfold maxLen; omega) (by omega) ?_; intro nv' w2 ho2 hg hll; obtain ⟨A2, c2, rfl, _, _, _⟩ := own_form ho2))
      have t2 : Tch (fun k => w.heap.size ≤ k) wr w2 := (Exn.touch t1).trans (((Tch.alloc _ _ _).trans (Tch.alloc _ _ _)).trans (Tch.grown hg (fun k e => .inl ((ho.lt k e).1))))
      have tf := ht.trans' t2 (fun k hk => .inr hk)
      have hb2 : ∀ g, (Value.slice A2 (os.length + 1) c2).ownBlock = some g → w.heap.size ≤ g := fun g e => by
        rcases hll g e with h | h
        · exact (ho.lt g h).1
        · have := ht.size; have := t1.size; simp at h; omega
      go_roundw
      case rel =>
        refine ⟨j + 1, by omega, by go_num, ?_, ?_, tf⟩
        · rw [HST.out]
          have := own_rebase ho2 hb2
          simpa using this
        · rw [HST.out]
          have t3 : Tch (fun k => (Value.slice O os.length co).ownBlock = some k) w1 w2 := ((Tch.alloc _ _ _).trans (Tch.alloc _ _ _)).trans (Tch.grown hg (fun k e => .inl e))
          refine hl1.keepTo t3 (fun g hg hne => ⟨hne, fun e => ?_⟩)
          rcases hll g e with h | h
          · exact hne h
          · simp at h; omega
      case measure => simp [intOf]; omega
    · obtain rfl : l.length = j := by omega
      have ho' := Row.own (P := B) ho (fun g e => hB g (ho.lt g e).1)
      clear hlt
      go_wp2
      go_ret
      exact ⟨_, rfl, ho', ht⟩

end Go.Proofs.Ytnknemepfjfcfaa
