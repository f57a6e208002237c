/-
  The methods of pile.Pile[[2]int]: what each does to a pile, told as a list of things.
-/
import Derived.Test.YtnknemepfjfcfaaRows
import Derived.Test.YtnknemepfjfcfaaPh
import Derived.WalkSpells
import Derived.WalkLawsBesides
import Derived.BigQuiet
import Derived.Outline
import Derived.Deep.RegionHeld3
namespace Go.Proofs.Ytnknemepfjfcfaa
open Go.RowKit Go.Gk

theorem rowThings : RowTy Try.prog 65 74 (.agg #[.int .i64 0, .int .i64 0, .int .i64 0]) 3 24 := ⟨Try.underlying65, by kernel_rfl, rfl, by decide⟩

set_option maxRecDepth 100000 in
set_option maxHeartbeats 400000 in
theorem less_any (w : World) (a b c d : Int) : Calls Try.prog 10 #[.agg #[.int .i64 a, .int .i64 b], .agg #[.int .i64 c, .int .i64 d]] w fun e w' => e = .returned (.bool (decide (a < c))) ∧ Tch (fun _ => False) w w' := by
  go_enter Try.func10, Try.ntmps10
  go_wp2
  go_ret
  exact ⟨rfl, (Tch.alloc _ _ _).trans (Tch.alloc _ _ _)⟩

abbrev lessV : Value := .func (.func 10) #[] #[]
theorem run_eql_less (W : World) : (binOp .eql 26 (.func (.func 10) #[] #[]) .nilFunc).run Try.prog W = .ok (.bool false) W := by kernel_rfl
theorem run_neq_less (W : World) : (binOp .neq 26 (.func (.func 10) #[] #[]) .nilFunc).run Try.prog W = .ok (.bool true) W := by kernel_rfl

/-- A pile in block b. -/
structure PileIs (w : World) (b : Nat) (rv : Value) (row : List T3) (next : Int) : Prop where
  blk : Blk w b 67 #[rv, .func (.func 10) #[] #[], .int .i64 next]
  rows : w.ownsRow 0 74 3 rv row.length (row.flatMap flat3)

theorem PileIs.keep {w w' : World} {F : Nat → Prop} {b : Nat} {rv : Value} {row : List T3} {next : Int} (h : PileIs w b rv row next) (t : Tch F w w') (hb : ¬ F b) (hr : ∀ g, rv.ownBlock = some g → ¬ F g) : PileIs w' b rv row next :=
  ⟨h.blk.keep t hb, t.own h.rows hr⟩

set_option maxRecDepth 100000 in
set_option maxHeartbeats 400000 in
theorem pmade_any {w : World} {b : Nat} (h1 : w.cell? ⟨b, 1, none⟩ = some (.func (.func 10) #[] #[])) : Calls Try.prog 37 #[.pointer (some ⟨b, 0, none⟩)] w fun e w' => e = .returned (.bool true) ∧ w = w' := by
  have hq := run_neq_less
  go_enter Try.func37, Try.ntmps37
  go_wp2
  go_ret
  exact ⟨rfl, rfl⟩

set_option maxRecDepth 100000 in
set_option maxHeartbeats 400000 in
theorem plen_any {w : World} {b : Nat} {rv : Value} {row : List T3} {next : Int} (h : PileIs w b rv row next) : Calls Try.prog 14 #[.pointer (some ⟨b, 0, none⟩)] w fun e w' => e = .returned (.int .i64 row.length) ∧ w = w' := by
  have h0 := h.blk.cell 0
  have h1 := h.blk.cell 1
  obtain ⟨A, c, rfl, _, _, _⟩ := own_form h.rows
  go_enter Try.func14, Try.ntmps14
  go_wp2_with (go_at_call 37; refine (pmade_any h1).mono ?_; rintro e w' ⟨rfl, rfl⟩)
  go_ret
  exact ⟨rfl, rfl⟩

set_option maxRecDepth 100000 in
set_option maxHeartbeats 1600000 in
theorem ahead_any {w : World} {b : Nat} {rv : Value} {row : List T3} {next : Int} {i k : Nat} (h : PileIs w b rv row next) (hi : i < row.length) (hk : k < row.length) :
    Calls Try.prog 38 #[.pointer (some ⟨b, 0, none⟩), .int .i64 i, .int .i64 k] w fun e w' => e = .returned (.bool (!decide (le3 (g3 row k) (g3 row i)))) ∧ Tch (fun _ => False) w w' := by
  have h0 := h.blk.cell 0
  have h1 := h.blk.cell 1
  obtain ⟨A, c, rfl, hnc, _, _⟩ := own_form h.rows
  obtain ⟨g, rfl⟩ := own_head h.rows (by omega)
  have fi := flat3_at row i hi
  have fk := flat3_at row k hk
  have p0 := own_cell h.rows (g := g) rfl fi.1
  have p1 := own_cell h.rows (g := g) rfl fi.2.1
  have p2 := own_cell h.rows (g := g) rfl fi.2.2
  have q0 := own_cell h.rows (g := g) rfl fk.1
  have q1 := own_cell h.rows (g := g) rfl fk.2.1
  have q2 := own_cell h.rows (g := g) rfl fk.2.2
  generalize row.length = n at *
  generalize g3 row i = x at *
  generalize g3 row k = y at *
  have i0 : (0 : Int) ≤ (i : Int) := Int.natCast_nonneg _
  have i1 : (i : Int) < (n : Int) := by omega
  have k0 : (0 : Int) ≤ (k : Int) := Int.natCast_nonneg _
  have k1 : (k : Int) < (n : Int) := by omega
  have f0 : w.cell? ⟨b, 0, none⟩ = some (.slice (some ⟨g, 0, none⟩) n c) := h0
  have f1 : w.cell? ⟨b, 1, none⟩ = some (.func (.func 10) #[] #[]) := h1
  clear h h0 h1 fi fk
  go_enter Try.func38, Try.ntmps38
  go_wp2_with fail
  go_region_held3 (fun w' => (w'.cell? ⟨b, 0, none⟩ = some (.slice (some ⟨g, 0, none⟩) n c) ∧ w'.cell? ⟨b, 1, none⟩ = some (.func (.func 10) #[] #[])) ∧ (w'.cell? ⟨g, i * 3, none⟩ = some (.int .i64 x.1) ∧ w'.cell? ⟨g, i * 3 + 1, none⟩ = some (.int .i64 x.2.1) ∧ w'.cell? ⟨g, i * 3 + 2, none⟩ = some (.int .i64 x.2.2)) ∧ w'.cell? ⟨g, k * 3, none⟩ = some (.int .i64 y.1) ∧ w'.cell? ⟨g, k * 3 + 1, none⟩ = some (.int .i64 y.2.1) ∧ w'.cell? ⟨g, k * 3 + 2, none⟩ = some (.int .i64 y.2.2))
    (go_keep) (fail)
  all_goals
    go_wp2_with fail
    first
    | (show Code.wp _ _ _ _ ((w.alloc (.cells #[.int .i64 x.1, .int .i64 x.2.1, .int .i64 x.2.2] 74)).alloc (.cells #[.int .i64 y.1, .int .i64 y.2.1, .int .i64 y.2.2] 74)).drew
       have hA : Blk ((w.alloc (.cells #[.int .i64 x.1, .int .i64 x.2.1, .int .i64 x.2.2] 74)).alloc (.cells #[.int .i64 y.1, .int .i64 y.2.1, .int .i64 y.2.2] 74)).drew w.heap.size 74 #[.int .i64 x.1, .int .i64 x.2.1, .int .i64 x.2.2] := (Blk.new w _ _).alloc _
       have hB : Blk ((w.alloc (.cells #[.int .i64 x.1, .int .i64 x.2.1, .int .i64 x.2.2] 74)).alloc (.cells #[.int .i64 y.1, .int .i64 y.2.1, .int .i64 y.2.2] 74)).drew (w.heap.size + 1) 74 #[.int .i64 y.1, .int .i64 y.2.1, .int .i64 y.2.2] := (show Blk ((w.alloc (.cells #[.int .i64 x.1, .int .i64 x.2.1, .int .i64 x.2.2] 74)).alloc (.cells #[.int .i64 y.1, .int .i64 y.2.1, .int .i64 y.2.2] 74)) (w.heap.size + 1) 74 #[.int .i64 y.1, .int .i64 y.2.1, .int .i64 y.2.2] from by simpa using Blk.new (w.alloc (.cells #[.int .i64 x.1, .int .i64 x.2.1, .int .i64 x.2.2] 74)) 74 #[.int .i64 y.1, .int .i64 y.2.1, .int .i64 y.2.2])
       have htw : Tch (fun _ => False) w ((w.alloc (.cells #[.int .i64 x.1, .int .i64 x.2.1, .int .i64 x.2.2] 74)).alloc (.cells #[.int .i64 y.1, .int .i64 y.2.1, .int .i64 y.2.2] 74)).drew := ((Tch.alloc _ _ _).trans (Tch.alloc _ _ _)).trans (Tch.drew _ _)
       generalize ((w.alloc (.cells #[.int .i64 x.1, .int .i64 x.2.1, .int .i64 x.2.2] 74)).alloc (.cells #[.int .i64 y.1, .int .i64 y.2.1, .int .i64 y.2.2] 74)).drew = W at *
       have uA0 := hA.cell 0
       have uA1 := hA.cell 1
       have uA2 := hA.cell 2
       have uB0 := hB.cell 0
       have uB1 := hB.cell 1
       have uB2 := hB.cell 2
       generalize w.heap.size + 1 = B at *
       generalize w.heap.size = A at *)
    | (show Code.wp _ _ _ _ ((w.alloc (.cells #[.int .i64 y.1, .int .i64 y.2.1, .int .i64 y.2.2] 74)).alloc (.cells #[.int .i64 x.1, .int .i64 x.2.1, .int .i64 x.2.2] 74)).drew
       have hA : Blk ((w.alloc (.cells #[.int .i64 y.1, .int .i64 y.2.1, .int .i64 y.2.2] 74)).alloc (.cells #[.int .i64 x.1, .int .i64 x.2.1, .int .i64 x.2.2] 74)).drew w.heap.size 74 #[.int .i64 y.1, .int .i64 y.2.1, .int .i64 y.2.2] := (Blk.new w _ _).alloc _
       have hB : Blk ((w.alloc (.cells #[.int .i64 y.1, .int .i64 y.2.1, .int .i64 y.2.2] 74)).alloc (.cells #[.int .i64 x.1, .int .i64 x.2.1, .int .i64 x.2.2] 74)).drew (w.heap.size + 1) 74 #[.int .i64 x.1, .int .i64 x.2.1, .int .i64 x.2.2] := (show Blk ((w.alloc (.cells #[.int .i64 y.1, .int .i64 y.2.1, .int .i64 y.2.2] 74)).alloc (.cells #[.int .i64 x.1, .int .i64 x.2.1, .int .i64 x.2.2] 74)) (w.heap.size + 1) 74 #[.int .i64 x.1, .int .i64 x.2.1, .int .i64 x.2.2] from by simpa using Blk.new (w.alloc (.cells #[.int .i64 y.1, .int .i64 y.2.1, .int .i64 y.2.2] 74)) 74 #[.int .i64 x.1, .int .i64 x.2.1, .int .i64 x.2.2])
       have htw : Tch (fun _ => False) w ((w.alloc (.cells #[.int .i64 y.1, .int .i64 y.2.1, .int .i64 y.2.2] 74)).alloc (.cells #[.int .i64 x.1, .int .i64 x.2.1, .int .i64 x.2.2] 74)).drew := ((Tch.alloc _ _ _).trans (Tch.alloc _ _ _)).trans (Tch.drew _ _)
       generalize ((w.alloc (.cells #[.int .i64 y.1, .int .i64 y.2.1, .int .i64 y.2.2] 74)).alloc (.cells #[.int .i64 x.1, .int .i64 x.2.1, .int .i64 x.2.2] 74)).drew = W at *
       have uB0 := hA.cell 0
       have uB1 := hA.cell 1
       have uB2 := hA.cell 2
       have uA0 := hB.cell 0
       have uA1 := hB.cell 1
       have uA2 := hB.cell 2
       generalize w.heap.size + 1 = A at *
       generalize w.heap.size = B at *)
    have f2 : W.cell? ⟨b, 1, none⟩ = some (.func (.func 10) #[] #[]) := htw.cell_some f1 id
    clear p0 p1 p2 q0 q1 q2 f0 f1 hA hB
    simp only [List.getElem?_toArray, List.getElem?_cons_zero, List.getElem?_cons_succ] at uA0 uA1 uA2 uB0 uB1 uB2
    go_region_held3 (fun w' => w'.cell? ⟨b, 1, none⟩ = some (.func (.func 10) #[] #[]) ∧ (w'.cell? ⟨A, 0, none⟩ = some (.int .i64 x.1) ∧ w'.cell? ⟨A, 1, none⟩ = some (.int .i64 x.2.1) ∧ w'.cell? ⟨A, 2, none⟩ = some (.int .i64 x.2.2)) ∧ w'.cell? ⟨B, 0, none⟩ = some (.int .i64 y.1) ∧ w'.cell? ⟨B, 1, none⟩ = some (.int .i64 y.2.1) ∧ w'.cell? ⟨B, 2, none⟩ = some (.int .i64 y.2.2))
      (first
        | go_keep
        | (exact ⟨t7.cell_some f2 id, ⟨t7.cell_some uA0 id, t7.cell_some uA1 id, t7.cell_some uA2 id⟩, t7.cell_some uB0 id, t7.cell_some uB1 id, t7.cell_some uB2 id⟩))
      (first
        | (go_at_call 10; refine (less_any _ _ _ _ _).mono ?_; rintro e w7 ⟨rfl, t7⟩))
    have tw7 : Tch (fun _ => False) w w7 := htw.trans ((Tch.drew _ W).trans t7)
    have t7' : Tch (fun _ => False) W w7 := (Tch.drew _ W).trans t7
    have a0 := t7'.cell_some uA0 id
    have a1 := t7'.cell_some uA1 id
    have a2 := t7'.cell_some uA2 id
    have b0 := t7'.cell_some uB0 id
    have b1 := t7'.cell_some uB1 id
    have b2 := t7'.cell_some uB2 id
    have f3 := t7'.cell_some f2 id
    clear uA0 uA1 uA2 uB0 uB1 uB2 f2 t7 t7' htw
    by_cases hxy : x.1 < y.1
    · have hres := lt3_t hxy
      go_wp2
      go_ret
      exact ⟨congrArg (fun b => Ending.returned (.bool b)) hres.symm, tw7⟩
    · go_wp2_with fail
      go_region_held3 (fun w' => w'.cell? ⟨b, 1, none⟩ = some (.func (.func 10) #[] #[]) ∧ (w'.cell? ⟨A, 0, none⟩ = some (.int .i64 x.1) ∧ w'.cell? ⟨A, 1, none⟩ = some (.int .i64 x.2.1) ∧ w'.cell? ⟨A, 2, none⟩ = some (.int .i64 x.2.2)) ∧ w'.cell? ⟨B, 0, none⟩ = some (.int .i64 y.1) ∧ w'.cell? ⟨B, 1, none⟩ = some (.int .i64 y.2.1) ∧ w'.cell? ⟨B, 2, none⟩ = some (.int .i64 y.2.2))
        (first
          | go_keep
          | (exact ⟨t8.cell_some f3 id, ⟨t8.cell_some a0 id, t8.cell_some a1 id, t8.cell_some a2 id⟩, t8.cell_some b0 id, t8.cell_some b1 id, t8.cell_some b2 id⟩))
        (first
          | (go_at_call 10; refine (less_any _ _ _ _ _).mono ?_; rintro e w8 ⟨rfl, t8⟩))
      have t8' : Tch (fun _ => False) w7 w8 := (Tch.drew _ w7).trans t8
      have a1 := t8'.cell_some a2 id
      have b1 := t8'.cell_some b2 id
      have tw8 := tw7.trans t8'
      clear a0 b0 a2 b2 f3 t8 t8'
      by_cases hyx : y.1 < x.1
      · have hres := lt3_f hyx
        go_wp2
        go_ret
        exact ⟨congrArg (fun b => Ending.returned (.bool b)) hres.symm, tw8⟩
      · go_wp2
        go_ret
        exact ⟨congrArg (fun b => Ending.returned (.bool b)) (lt3_e (show x.1 = y.1 by omega)), tw8⟩

end Go.Proofs.Ytnknemepfjfcfaa
