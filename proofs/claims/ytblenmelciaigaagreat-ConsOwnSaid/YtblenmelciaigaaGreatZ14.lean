/-
  Tallies: the lines at a spot, and what they come to.
-/
import Derived.Test.YtblenmelciaigaaGreatZ9
import Derived.Laws.Cover3
import Derived.Test.YtblenmelciaigaaGreatZ12
import Derived.Test.YtblenmelciaigaaGreatZ13
import Derived.Test.YtblenmelciaigaaGreatZ5
import Derived.Test.YtblenmelciaigaaGreatZ4
namespace Go.Proofs.YtblenmelciaigaaGreat
open Go.RowKit Go.Gk

set_option maxRecDepth 100000 in
set_option maxHeartbeats 800000 in
theorem eqSpot (a b : Spot) (w : World) : (Op.equalIn 10000 169 (spotV a) (spotV b)).run Tryz.prog w = .ok (decide (a = b)) w := by
  obtain ⟨a0, a1, a2⟩ := a
  obtain ⟨b0, b1, b2⟩ := b
  unfold spotV
  have u_int := Tryz.underlying3
  have a_int := Tryz.isAgg3
  have z_int := Tryz.sizeOf3
  have hS : Tryz.prog.underlying 169 = some (.struct (Tryz.prog.fieldsOf 169)) := by kernel_rfl
  have hp : Tryz.prog.stoodInHeld 169 = false := by kernel_rfl
  rw [show (10000 : Nat) = 9999 + 1 from rfl, run_equalIn_agg w 9999 169 _ _ hS hp]
  simp only [Program.fieldsOf, Tryz.underlying169]
  go_simp
  by_cases h0 : a0 = b0 <;> by_cases h1 : a1 = b1 <;> by_cases h2 : a2 = b2 <;> simp [h0, h1, h2]

set_option maxRecDepth 100000 in
set_option maxHeartbeats 800000 in
theorem spotKey : KeyLaw Tryz.prog 169 spotV where
  eq := fun a b w => by
    unfold Op.equal
    exact eqSpot a b w
  check := fun e a w => by
    obtain ⟨a0, a1, a2⟩ := a
    have u_int := Tryz.underlying3
    have a_int := Tryz.isAgg3
    have z_int := Tryz.sizeOf3
    have hci : ∀ (n : Nat) (v : Int) (w : World), (Instr.checkKey e (n + 1) 3 (.int .i64 v)).run Tryz.prog w = .ok () w := fun n v w => by
      rw [Instr.checkKey]
      simp only [Sem.run_bind, run_underlying u_int, Result.andThen_ok]
      rfl
    have hc9 : ∀ (v : Int) (w : World), (Instr.checkKey e 9999 3 (.int .i64 v)).run Tryz.prog w = .ok () w := fun v w => hci 9998 v w
    rw [show (10000 : Nat) = 9999 + 1 from rfl, Instr.checkKey]
    simp only [spotV, Sem.run_bind, run_underlying Tryz.underlying169, Result.andThen_ok]
    rw [← Array.forIn_toList]
    simp only [List.forIn_cons, List.forIn_nil]
    go_simp
  bits := fun a => by simp [spotV, Instr.sameBits]
  desc := ⟨_, Tryz.underlying169, fun a b => rfl⟩

theorem tallyRows : RowTy Tryz.prog 170 172 (.agg #[.int .i64 0, .int .i64 0, .int .i64 0]) 3 24 := ⟨Tryz.underlying170, by kernel_rfl, rfl, by decide⟩
theorem zeroRows (w : World) : (zeroValue 170).run Tryz.prog w = .ok (.slice none 0 0) w := Tryz.zeroValue170 w
theorem one_int3 (l : List Rw3) : ∀ u ∈ l.flatMap int3, u.oneCell' = true := fun u hu => by
  obtain ⟨x, _, hx⟩ := List.mem_flatMap.1 hu
  simp [int3] at hx
  rcases hx with rfl | rfl | rfl <;> rfl
abbrev Tly (w : World) (B t mr mp : Nat) (ps : List Pst) (n : Int) : Prop := TallyIs 127 172 3 w B t mr mp ps n

set_option maxRecDepth 100000 in
set_option maxHeartbeats 400000 in
theorem tlymade_any {w : World} {B t mr mp : Nat} {ps : List Pst} {n : Int} (h : Tly w B t mr mp ps n) :
    Calls Tryz.prog 152 #[.pointer (some ⟨t, 0, none⟩)] w fun e w' => e = .returned (.bool true) ∧ w = w' := by
  have q0 : w.cell? ⟨t, 0, none⟩ = some (.map (some mr)) := h.blk.cell 0
  have hmn : ∀ w, (binOp .neq 124 (.map (some mr)) (.map none)).run Tryz.prog w = .ok (.bool true) w := fun w => run_neq_map_nil w _ _ _ _ Tryz.underlying124
  go_enter Tryz.func152, Tryz.ntmps152
  go_wp2
  go_ret
  exact ⟨rfl, rfl⟩

theorem told2_eq (x : Int) : asTold x = .tuple #[.int .i64 (told2 x).1, .int .i64 (told2 x).2] := by
  unfold asTold told2; split <;> rfl

end Go.Proofs.YtblenmelciaigaaGreat

/-
  Views: keys that may be, leaves, totals.
-/
namespace Go.Gk
open Go.RowKit
def seenL (tp e a s r l n lv : Value) (fs : List Value) : List Value := [tp, e, a, s, r, l, n, lv] ++ fs
/-- Books, seen. -/
structure ViewAt (TV TS TF T eR eI : TypeId) (w : World) (bv bi B t mr mp : Nat) (e a s r l n lv : Value) (fs : List Value) (b : Bks) (us : List (Ent × Value)) : Prop where
  view : Blk w bv TV #[.pointer (some ⟨bi, 0, none⟩)]
  seen : Blk w bi TS (seenL (.pointer (some ⟨t, 0, none⟩)) e a s r l n lv fs).toArray
  tally : TallyIs T eR eI w B t mr mp (posts b.entries) b.entries.length
  bks : BksAt w e a s r l n b us
  leaves : RowsOf int1 1 (fun _ => True) w lv (accLeaves b.accs)
  len : fs.length = 24
  forests : ∀ p : Nat, p < 24 → ∃ g : Nat, fs[p]? = some (.pointer (some ⟨g, 0, none⟩)) ∧ Blk w g TF (holdsCells b.stakes b.ents.length p b.ents.length).toArray
theorem ViewAt.keep {TV TS TF T eR eI : TypeId} {w w' : World} {bv bi B t mr mp : Nat} {e a s r l n lv : Value} {fs : List Value} {b : Bks} {us : List (Ent × Value)} (h : ViewAt TV TS TF T eR eI w bv bi B t mr mp e a s r l n lv fs b us) (tc : Tch (fun _ => False) w w') : ViewAt TV TS TF T eR eI w' bv bi B t mr mp e a s r l n lv fs b us :=
  ⟨h.view.keep tc id, h.seen.keep tc id, h.tally.keep tc (fun _ _ h => h.elim), h.bks.keep tc, h.leaves.keep tc, h.len, fun p hp => let ⟨g, h1, h2⟩ := h.forests p hp; ⟨g, h1, h2.keep tc id⟩⟩
/-- All that a view is made of lies from block k on. -/
structure ViewFar (k : Nat) (w : World) (bv bi B t mr mp : Nat) (e a s r l n lv : Value) (fs : List Value) (b : Bks) : Prop where
  blk : k ≤ bv ∧ k ≤ bi ∧ k ≤ t ∧ k ≤ mr ∧ k ≤ mp
  forests : ∀ (p g : Nat), fs[p]? = some (.pointer (some ⟨g, 0, none⟩)) → k ≤ g
  leaves : RowsOf int1 1 (fun g => k ≤ g) w lv (accLeaves b.accs)
  books : BooksIs (fun g => k ≤ g) w (.agg #[e, a, s, r, l, n]) b
theorem ViewFar.keep {k : Nat} {w w' : World} {bv bi B t mr mp : Nat} {e a s r l n lv : Value} {fs : List Value} {b : Bks} (h : ViewFar k w bv bi B t mr mp e a s r l n lv fs b) {F : Nat → Prop} (tc : Tch F w w') (hF : ∀ g, F g → g < k) : ViewFar k w' bv bi B t mr mp e a s r l n lv fs b :=
  ⟨h.blk, h.forests, h.leaves.keepTo tc (fun g _ hg => ⟨fun hf => by have := hF g hf; omega, hg⟩), h.books.keepTo tc (fun g _ hg => ⟨fun hf => by have := hF g hf; omega, hg⟩)⟩
theorem ViewFar.view {TV TS TF T eR eI : TypeId} {k : Nat} {w w' : World} {bv bi B t mr mp : Nat} {e a s r l n lv : Value} {fs : List Value} {b : Bks} {us : List (Ent × Value)} (h : ViewFar k w bv bi B t mr mp e a s r l n lv fs b) (hv : ViewAt TV TS TF T eR eI w bv bi B t mr mp e a s r l n lv fs b us) {F : Nat → Prop} (tc : Tch F w w') (hF : ∀ g, F g → g < k) : ∃ us', ViewAt TV TS TF T eR eI w' bv bi B t mr mp e a s r l n lv fs b us' := by
  obtain ⟨k1, k2, k3, k4, k5⟩ := h.blk
  have hlt := hv.tally.lt
  have hf := h.keep tc hF
  obtain ⟨e1, a1, s1, r1, l1, n1, us', e0, hb⟩ := (hf.books.keepTo (B' := fun _ => True) (Tch.refl (fun _ => False) _) (fun _ _ _ => ⟨id, trivial⟩)).at
  injection e0 with e0
  injection e0 with e0
  simp only [List.cons.injEq, and_true] at e0
  obtain ⟨rfl, rfl, rfl, rfl, rfl, rfl⟩ := e0
  refine ⟨us', hv.view.keep tc (fun hf => by have := hF _ hf; omega), hv.seen.keep tc (fun hf => by have := hF _ hf; omega), hv.tally.keep tc (fun g _ hf => by have := hF _ hf; omega), hb, hf.leaves.weak (fun _ _ => trivial), hv.len, fun p hp => ?_⟩
  obtain ⟨g, h1, h2⟩ := hv.forests p hp
  have := h.forests p g h1
  exact ⟨g, h1, h2.keep tc (fun hf => by have := hF _ hf; omega)⟩
end Go.Gk
namespace Go.Proofs.YtblenmelciaigaaGreat
open Go.RowKit Go.Gk

abbrev Vw (w : World) (bv bi B t mr mp : Nat) (e a s r l n lv : Value) (fs : List Value) (b : Bks) (us : List (Ent × Value)) : Prop := ViewAt 75 70 141 127 172 3 w bv bi B t mr mp e a s r l n lv fs b us

section
variable {w : World} {bv bi B t mr mp : Nat} {e a s r l n lv : Value} {fs : List Value} {b : Bks} {us : List (Ent × Value)}

set_option maxRecDepth 100000 in
set_option maxHeartbeats 400000 in
theorem vwmade_any (h : Vw w bv bi B t mr mp e a s r l n lv fs b us) :
    Calls Tryz.prog 32 #[.pointer (some ⟨bv, 0, none⟩)] w fun x w' => x = .returned (.bool true) ∧ w = w' := by
  have q0 : w.cell? ⟨bv, 0, none⟩ = some (.pointer (some ⟨bi, 0, none⟩)) := h.view.cell 0
  go_enter Tryz.func32, Tryz.ntmps32
  go_wp2
  go_ret
  exact ⟨rfl, rfl⟩

set_option maxRecDepth 100000 in
set_option maxHeartbeats 400000 in
theorem vwmade_nil (w : World) :
    Calls Tryz.prog 32 #[.pointer none] w fun x w' => x = .returned (.bool false) ∧ w = w' := by
  go_enter Tryz.func32, Tryz.ntmps32
  go_wp2
  go_ret
  exact ⟨rfl, rfl⟩

set_option maxRecDepth 100000 in
set_option maxHeartbeats 1600000 in
theorem vwmay_any (h : Vw w bv bi B t mr mp e a s r l n lv fs b us) (c : Rt6) :
    Calls Tryz.prog 24 #[.pointer (some ⟨bv, 0, none⟩), cellV c] w fun x w' => x = .returned (.int .i64 (cellIn c b.ents.length b.accs.length)) ∧ Tch (fun _ => False) w w' := by
  have HC := Lib.hid (fun w' => cellin_any c b.ents.length b.accs.length w')
  obtain ⟨c1, c2, c3, c4, c5, c6⟩ := c
  unfold cellV at HC ⊢
  simp only at HC ⊢
  generalize cellIn (c1, c2, c3, c4, c5, c6) b.ents.length b.accs.length = R at *
  obtain ⟨Ae, ce, rfl, _, _⟩ := h.bks.ents.form
  obtain ⟨Aa, ca, rfl, _, _⟩ := h.bks.accs.form
  have tw := Tch.alloc (fun _ => False) w (.cells #[.int .i64 c1, .int .i64 c2, .int .i64 c3, .int .i64 c4, .int .i64 c5, .int .i64 c6] 31)
  have hb := Blk.new w 31 #[.int .i64 c1, .int .i64 c2, .int .i64 c3, .int .i64 c4, .int .i64 c5, .int .i64 c6]
  have h1 := h.keep tw
  have HM := Lib.hid (vwmade_any h1)
  go_enter Tryz.func24, Tryz.ntmps24
  go_wp2_with fail
  generalize w.alloc (.cells #[.int .i64 c1, .int .i64 c2, .int .i64 c3, .int .i64 c4, .int .i64 c5, .int .i64 c6] 31) = W at *
  generalize w.heap.size = z at *
  refine HM.out.mono ?_
  rintro _ _ ⟨rfl, rfl⟩
  clear HM
  have y0 := within_cell (F := fun _ => False) (show W.cell? ⟨z, 0, none⟩ = some _ from hb.cell 0) id
  have y1 := within_cell (F := fun _ => False) (show W.cell? ⟨z, 1, none⟩ = some _ from hb.cell 1) id
  have y2 := within_cell (F := fun _ => False) (show W.cell? ⟨z, 2, none⟩ = some _ from hb.cell 2) id
  have y3 := within_cell (F := fun _ => False) (show W.cell? ⟨z, 3, none⟩ = some _ from hb.cell 3) id
  have y4 := within_cell (F := fun _ => False) (show W.cell? ⟨z, 4, none⟩ = some _ from hb.cell 4) id
  have y5 := within_cell (F := fun _ => False) (show W.cell? ⟨z, 5, none⟩ = some _ from hb.cell 5) id
  have v0 := within_cell (F := fun _ => False) (show W.cell? ⟨bv, 0, none⟩ = some _ from h1.view.cell 0) id
  have v1 := within_cell (F := fun _ => False) (show W.cell? ⟨bi, 1, none⟩ = some (.slice Ae b.ents.length ce) from h1.seen.cell 1) id
  have v2 := within_cell (F := fun _ => False) (show W.cell? ⟨bi, 2, none⟩ = some (.slice Aa b.accs.length ca) from h1.seen.cell 2) id
  go_wp2_with fail
  refine wp_region_touch (fun _ => False) [] 19 [] [] (by kernel_rfl) rfl (by kernel_rfl) rfl (fun d _ _ _ _ h => by cases d <;> exact h) ?_ ?_
  · exact trivial
  (intro bef ops hbef hops; clear hbef; subst hops; simp only [List.take_succ_cons, List.take_zero, List.drop_succ_cons, List.drop_zero])
  iterate 19 (refine t_det (by rfl) (by rfl) (by rfl) (by rfl) (fun K hK => ?_); go_big_quiet_op; (first | refine hK _ ?_ | refine ⟨_, fun _ => rfl, hK _ ?_⟩); clear hK K; (try simp only [Act.put, List.setIfInBounds_toArray, List.set_cons_succ, List.set_cons_zero]))
  refine t_nil ?_
  intro w1 hr hp1 hap
  have t1 := (Tch.drew _ W).trans hr
  clear hap hp1 hr y0 y1 y2 y3 y4 y5 v0 v1 v2
  go_wp2_with fail
  refine (HC.out w1).mono ?_
  rintro _ w2 ⟨rfl, t2⟩
  go_wp2
  go_ret
  exact ⟨rfl, tw.trans (t1.trans t2)⟩

set_option maxRecDepth 100000 in
set_option maxHeartbeats 400000 in
theorem vwmay_nil (c : Rt6) (w : World) :
    Calls Tryz.prog 24 #[.pointer none, cellV c] w fun x w' => x = .returned (.int .i64 1) ∧ Tch (fun _ => False) w w' := by
  obtain ⟨c1, c2, c3, c4, c5, c6⟩ := c
  unfold cellV
  have tw := Tch.alloc (fun _ => False) w (.cells #[.int .i64 c1, .int .i64 c2, .int .i64 c3, .int .i64 c4, .int .i64 c5, .int .i64 c6] 31)
  go_enter Tryz.func24, Tryz.ntmps24
  go_wp2_with fail
  refine (vwmade_nil _).mono ?_
  rintro _ _ ⟨rfl, rfl⟩
  go_wp2
  go_ret
  exact ⟨rfl, tw⟩

set_option maxRecDepth 100000 in
set_option maxHeartbeats 800000 in
theorem vwleaf_any (h : Vw w bv bi B t mr mp e a s r l n lv fs b us) (hn : (accLeaves b.accs).length ≤ 1000) (x : Int) :
    Calls Tryz.prog 25 #[.pointer (some ⟨bv, 0, none⟩), .int .i64 x] w (RetB ((accLeaves b.accs).contains x) w) := by
  have HC := Lib.hid (contains_any h.leaves (by omega) x)
  have hM := vwmade_any h
  obtain ⟨A, c, rfl, _, _⟩ := h.leaves.form
  have v0 : w.cell? ⟨bv, 0, none⟩ = some _ := h.view.cell 0
  have v7 : w.cell? ⟨bi, 7, none⟩ = some (.slice A (accLeaves b.accs).length c) := h.seen.cell 7
  generalize (accLeaves b.accs).contains x = R at *
  generalize accLeaves b.accs = L at *
  go_enter Tryz.func25, Tryz.ntmps25
  go_wp2_with fail
  refine hM.mono ?_
  rintro _ _ ⟨rfl, rfl⟩
  clear hM
  go_wp2_with fail
  refine HC.out.mono ?_
  rintro _ w1 ⟨rfl, t1⟩
  go_wp2
  go_ret
  exact ⟨rfl, t1⟩

end
end Go.Proofs.YtblenmelciaigaaGreat

/-
  The laws' own: the same recipes, few books.
-/
namespace Go.Gk
open Go.RowKit
/-- Few entries, of few lines. -/
def few24 (l : List Ent) : Bool := decide (l.length ≤ 30) && l.all fun x => decide (x.lines.length ≤ 60)
def few26 (b : Bks) : Bool := decide (b.ents.length ≤ 50) && decide (b.accs.length ≤ 65) && decide (b.stakes.length ≤ 20) && decide (b.rates.length ≤ 60) && decide (b.locks.length ≤ 60) && few24 b.entries
theorem few26_few {b : Bks} (h : few26 b = true) : BksFew b := by
  unfold few26 few24 at h
  simp only [Bool.and_eq_true, decide_eq_true_eq, List.all_eq_true] at h
  obtain ⟨⟨⟨⟨⟨h1, h2⟩, h3⟩, h4⟩, h5⟩, h6, h7⟩ := h
  exact ⟨h1, h2, h3, h4, h5, h6, h7⟩
theorem few24_map (us : List (Ent × Value)) : few24 (us.map (·.1)) = (decide (us.length ≤ 30) && us.all fun p => decide (p.1.lines.length ≤ 60)) := by
  unfold few24
  rw [List.length_map, List.all_map]; rfl
end Go.Gk
namespace Go.Proofs.YtblenmelciaigaaGreat
open Go.RowKit Go.Gk

set_option maxRecDepth 100000 in
set_option maxHeartbeats 1600000 in
theorem refsame_any {w : World} {u v : Value} {l : List Rt6} (hk : RowsOf int6 6 (fun _ => True) w u l) (hl : RowsOf int6 6 (fun _ => True) w v l) :
    Calls Tryz.prog 16 #[u, v] w fun x w' => x = .returned (.bool true) ∧ Tch (fun _ => False) w w' := by
  have hk0 := hk
  have hl0 := hl
  obtain ⟨A, c, rfl, hc1, hc2⟩ := hk.form
  obtain ⟨A', c', rfl, hc1', hc2'⟩ := hl.form
  clear hk hl
  go_enter Tryz.func16, Tryz.ntmps16
  go_wp2_with fail
  go_loopw [5] (fun i wr => ∃ j : Nat, j ≤ l.length ∧ i = .int .i64 j ∧ Tch (fun _ => False) w wr) (fun i _ => l.length - (intOf i).toNat)
  case atStart => exact ⟨0, Nat.zero_le _, rfl, Tch.refl _ _⟩
  case round =>
    obtain ⟨j, hj, rfl, ht⟩ := hrel
    by_cases hlt : j < l.length
    · have hlt' : (j : Int) < (l.length : Int) := by omega
      have hj0 : (0 : Int) ≤ (j : Int) := Int.natCast_nonneg _
      obtain ⟨g, o, rfl⟩ := hk0.head (by omega)
      obtain ⟨g', o', rfl⟩ := hl0.head (by omega)
      obtain ⟨q0, q1, q2, q3, q4, q5⟩ := Row.six (hk0.keep ht) (fun _ => rfl) hlt rfl
      obtain ⟨r0, r1, r2, r3, r4, r5⟩ := Row.six (hl0.keep ht) (fun _ => rfl) hlt rfl
      clear hk0 hl0
      generalize l[j] = x at *
      obtain ⟨x1, x2, x3, x4, x5, x6⟩ := x
      simp only at q0 q1 q2 q3 q4 q5 r0 r1 r2 r3 r4 r5
      have hcmp : ∀ w' : World, (binOp .neq 31 (.agg #[.int .i64 x1, .int .i64 x2, .int .i64 x3, .int .i64 x4, .int .i64 x5, .int .i64 x6]) (.agg #[.int .i64 x1, .int .i64 x2, .int .i64 x3, .int .i64 x4, .int .i64 x5, .int .i64 x6])).run Tryz.prog w' = .ok (.bool false) w' := fun w' => by rw [run_ne_Cell]; simp
      go_wp2_with fail
      go_quiet (fail)
      rename_i nq
      have t4 : Tch (fun _ => False) wr (wr.drewN nq) := Tch.drewN _ _ _
      have ht := ht.trans t4
      clear q0 q1 q2 q3 q4 q5 r0 r1 r2 r3 r4 r5
      generalize wr.drewN nq = w4 at *
      go_wp2
      go_roundw
      case rel => exact ⟨j + 1, by omega, by go_num, ht⟩
      case measure => simp [intOf]; omega
    · obtain rfl : l.length = j := by omega
      go_wp2
      go_ret
      exact ⟨rfl, ht⟩

set_option maxRecDepth 100000 in
set_option maxHeartbeats 1600000 in
theorem few24_any {w : World} {v : Value} {us : List (Ent × Value)} (hu : EntsIs w v us) :
    Calls Tryz.prog 13 #[v] w fun x w' => x = .returned (.bool (few24 (us.map (·.1)))) ∧ w = w' := by
  rw [few24_map]
  obtain ⟨A, c, rfl, hc1, hc2⟩ := hu.row.form
  obtain ⟨m, hm⟩ : ∃ m, (decide (us.length ≤ 30) && us.all fun p => decide (p.1.lines.length ≤ 60)) = m := ⟨_, rfl⟩
  rw [hm]
  have HM := Lib.hid hm
  clear hm
  go_enter Tryz.func13, Tryz.ntmps13
  by_cases hn : us.length ≤ 30
  rotate_left
  · obtain rfl : m = false := by rw [← HM.out]; simp [hn]
    have hn' : ¬ (us.length : Int) ≤ 30 := by omega
    have hn2 : (30 : Int) < (us.length : Int) := by omega
    clear HM hn
    go_wp2
    go_ret
    exact ⟨rfl, rfl⟩
  have hn' : (us.length : Int) ≤ 30 := by omega
  have hn2 : ¬ (30 : Int) < (us.length : Int) := by omega
  go_wp2_with fail
  go_loopw [3] (fun i wr => ∃ j : Nat, j ≤ us.length ∧ i = .int .i64 j ∧ w = wr ∧ (us.take j).all (fun p => decide (p.1.lines.length ≤ 60)) = true) (fun i _ => us.length - (intOf i).toNat)
  case atStart => exact ⟨0, Nat.zero_le _, rfl, rfl, rfl⟩
  case round =>
    obtain ⟨j, hj, rfl, rfl, hx⟩ := hrel
    have HX := Lib.hid hx
    clear hx
    by_cases hlt : j < us.length
    · have hlt' : (j : Int) < (us.length : Int) := by omega
      have hj0 : (0 : Int) ≤ (j : Int) := Int.natCast_nonneg _
      obtain ⟨g, o, rfl⟩ := hu.row.head (by omega)
      obtain ⟨q0, q1, q2⟩ := Row.three hu.row entC_len hlt rfl
      have hL := hu.lines us[j] (List.getElem_mem _)
      have HS := Lib.hid (all_take_succ (p := fun p : Ent × Value => decide (p.1.lines.length ≤ 60)) hlt)
      have HN := Lib.hid (fun h => all_no (p := fun p : Ent × Value => decide (p.1.lines.length ≤ 60)) hlt h)
      clear hu
      generalize us[j] = x at *
      obtain ⟨⟨yp, yr, yl⟩, yv⟩ := x
      simp only at q0 q1 q2 hL HS HN
      obtain ⟨A', c', rfl, _, _⟩ := hL.form
      by_cases h60 : yl.length ≤ 60
      · have h1 : (yl.length : Int) ≤ 60 := by omega
        have h2 : ¬ (60 : Int) < (yl.length : Int) := by omega
        have HS := Lib.hid (show (us.take (j + 1)).all (fun p => decide (p.1.lines.length ≤ 60)) = true by rw [HS.out, HX.out]; simp [h60])
        go_wp2
        go_roundw
        case rel => exact ⟨j + 1, by omega, by go_num, by trivial, HS.out⟩
        case measure => simp [intOf]; omega
      · have h1 : ¬ (yl.length : Int) ≤ 60 := by omega
        have h2 : (60 : Int) < (yl.length : Int) := by omega
        obtain rfl : m = false := by rw [← HM.out, HN.out (by simp [h60])]; simp
        clear HM
        go_wp2
        go_ret
        exact ⟨rfl, rfl⟩
    · obtain rfl : us.length = j := by omega
      rw [List.take_length] at HX
      obtain rfl : m = true := by rw [← HM.out, HX.out]; simp [hn]
      clear HM HX
      go_wp2
      go_ret
      exact ⟨rfl, rfl⟩

set_option maxRecDepth 100000 in
set_option maxHeartbeats 3200000 in
theorem few26_any {w : World} {e a s r l n : Value} {b : Bks} {us : List (Ent × Value)} (h : BksAt w e a s r l n b us) :
    Calls Tryz.prog 4 #[.agg #[e, a, s, r, l, n]] w fun x w' => x = .returned (.bool (few26 b)) ∧ Tch (fun _ => False) w w' := by
  have tw := Tch.alloc (fun _ => False) w (.cells #[e, a, s, r, l, n] 29)
  have HF := Lib.hid (few24_any (h.keep tw).ent)
  have hM := h.map
  rw [hM] at HF
  obtain ⟨m, hm⟩ : ∃ m, few26 b = m := ⟨_, rfl⟩
  rw [hm]
  unfold few26 at hm
  generalize few24 b.entries = k at *
  have HM := Lib.hid hm
  obtain ⟨Ae, ce, rfl, _, _⟩ := h.ents.form
  obtain ⟨Aa, ca, rfl, _, _⟩ := h.accs.form
  obtain ⟨As, cs, rfl, _, _⟩ := h.stakes.form
  obtain ⟨Ar, cr, rfl, _, _⟩ := h.rates.form
  obtain ⟨Al, cl, rfl, _, _⟩ := h.locks.form
  obtain ⟨An, cn, rfl, _, _⟩ := h.ent.row.form
  clear h hm hM
  generalize b.ents.length = n1 at *
  generalize b.accs.length = n2 at *
  generalize b.stakes.length = n3 at *
  generalize b.rates.length = n4 at *
  generalize b.locks.length = n5 at *
  go_enter Tryz.func4, Tryz.ntmps4
  by_cases h0 : n1 ≤ 50
  rotate_left
  · obtain rfl : m = false := by rw [← HM.out]; simp [h0]
    have g0 : ¬ (n1 : Int) ≤ 50 := by omega
    clear HM HF h0
    go_wp2
    go_ret
    exact ⟨rfl, tw⟩
  have g0 : (n1 : Int) ≤ 50 := by omega
  by_cases h1 : n2 ≤ 65
  rotate_left
  · obtain rfl : m = false := by rw [← HM.out]; simp [h1]
    have g1 : ¬ (n2 : Int) ≤ 65 := by omega
    clear HM HF h1
    go_wp2
    go_ret
    exact ⟨rfl, tw⟩
  have g1 : (n2 : Int) ≤ 65 := by omega
  by_cases h2 : n3 ≤ 20
  rotate_left
  · obtain rfl : m = false := by rw [← HM.out]; simp [h2]
    have g2 : ¬ (n3 : Int) ≤ 20 := by omega
    clear HM HF h2
    go_wp2
    go_ret
    exact ⟨rfl, tw⟩
  have g2 : (n3 : Int) ≤ 20 := by omega
  by_cases h3 : n4 ≤ 60
  rotate_left
  · obtain rfl : m = false := by rw [← HM.out]; simp [h3]
    have g3 : ¬ (n4 : Int) ≤ 60 := by omega
    clear HM HF h3
    go_wp2
    go_ret
    exact ⟨rfl, tw⟩
  have g3 : (n4 : Int) ≤ 60 := by omega
  by_cases h4 : n5 ≤ 60
  rotate_left
  · obtain rfl : m = false := by rw [← HM.out]; simp [h4]
    have g4 : ¬ (n5 : Int) ≤ 60 := by omega
    clear HM HF h4
    go_wp2
    go_ret
    exact ⟨rfl, tw⟩
  have g4 : (n5 : Int) ≤ 60 := by omega
  obtain rfl : m = k := by rw [← HM.out]; simp [h0, h1, h2, h3, h4]
  clear HM h0 h1 h2 h3 h4
  go_wp2_with fail
  refine HF.out.mono ?_
  rintro _ _ ⟨rfl, rfl⟩
  clear HF
  go_wp2
  go_ret
  exact ⟨rfl, tw⟩
end Go.Proofs.YtblenmelciaigaaGreat

/-
  Entities that may be.
-/
namespace Go.Proofs.YtblenmelciaigaaGreat
open Go.RowKit Go.Gk

set_option maxRecDepth 100000 in
set_option maxHeartbeats 400000 in
theorem emoney_any (n : Int) (w : World) :
    Calls Tryz.prog 82 #[.int .i64 n] w fun e w' => e = .returned (.bool (Gk.money n)) ∧ w = w' := by
  unfold Gk.money
  by_cases h : 1 ≤ n
  · rw [decide_eq_true h, Bool.true_and]
    go_enter Tryz.func82, Tryz.ntmps82
    go_wp2
    go_ret
    exact ⟨rfl, rfl⟩
  · rw [decide_eq_false h, Bool.false_and]
    go_enter Tryz.func82, Tryz.ntmps82
    go_wp2
    go_ret
    exact ⟨rfl, rfl⟩

set_option maxRecDepth 100000 in
set_option maxHeartbeats 400000 in
theorem ewrong_any (n : Int) (w : World) :
    Calls Tryz.prog 81 #[.int .i64 n] w fun e w' => e = .returned (.bool (!Gk.money n)) ∧ w = w' := by
  have h := emoney_any n w
  generalize Gk.money n = b at *
  go_enter Tryz.func81, Tryz.ntmps81
  go_wp2_with fail
  refine h.mono ?_
  rintro _ _ ⟨rfl, rfl⟩
  cases b
  · (go_wp2; go_ret; exact ⟨rfl, rfl⟩)
  · (go_wp2; go_ret; exact ⟨rfl, rfl⟩)

set_option maxRecDepth 100000 in
set_option maxHeartbeats 800000 in
/-- slices.IndexFunc over ints, whatever is asked of each. -/
theorem idxint_any {w : World} {v : Value} {l : List Int} (hl : RowsOf int1 1 (fun _ => True) w v l) (hn : l.length ≤ 100000) (p : Int → Bool) (g : Nat) (lb : Array Value) (eg : ∀ args w, (callFunc g args).run Tryz.prog w = .ok (.enter g args) w)
    (hp : ∀ x w', Tch (fun _ => False) w w' → Calls Tryz.prog g (#[.int .i64 x] ++ lb) w' (RetB (p x) w')) :
    Calls Tryz.prog 83 #[v, .func (.func g) #[] lb] w (RetIdx (l.any p) w) := by
  obtain ⟨A, c, rfl, hc1, hc2⟩ := hl.form
  have HP := Lib.hid hp
  clear hp
  go_enter Tryz.func83, Tryz.ntmps83
  go_wp2_with fail
  go_loopw [8] (fun i wr => ∃ j : Nat, j ≤ l.length ∧ i = .int .i64 j ∧ (l.take j).any p = false ∧ Tch (fun _ => False) w wr) (fun i _ => l.length - (intOf i).toNat)
  case atStart => exact ⟨0, Nat.zero_le _, rfl, rfl, Tch.refl _ _⟩
  case round =>
    obtain ⟨j, hj, rfl, h2, ht⟩ := hrel
    have H2 := Lib.hid h2
    clear h2
    by_cases hlt : j < l.length
    · obtain ⟨g', o, rfl⟩ := hl.head (by omega)
      have q := Row.elem int1_len (hl.keep ht) hlt (j := 0) (by decide) (u := .int .i64 l[j]) rfl
      have q : wr.cell? ⟨g', o + j, none⟩ = some (.int .i64 l[j]) := by simpa using q
      have hs := any_take_succ (p := p) hlt
      have hy := fun h => any_yes (p := p) hlt h
      have HC := Lib.hid (HP.out l[j] wr ht)
      have HS := Lib.hid hs
      have HY := Lib.hid hy
      clear hs hy
      generalize l[j] = x at *
      have hlt' : (j : Int) < (l.length : Int) := by omega
      have hj0 : (0 : Int) ≤ (j : Int) := Int.natCast_nonneg _
      go_wp2_with fail
      refine HC.out.mono ?_
      rintro _ w2 ⟨rfl, t2⟩
      clear HC
      cases hb : p x
      · rw [hb] at HS
        clear hb HY
        go_wp2
        go_roundw
        case rel => exact ⟨j + 1, by omega, by go_num, by rw [HS.out, H2.out]; rfl, ht.trans t2⟩
        case measure => simp [intOf]; omega
      · have hy := HY.out hb
        clear hb HY
        go_wp2
        go_ret
        exact ⟨j, rfl, by omega, by omega, by rw [hy]; simp, ht.trans t2⟩
    · obtain rfl : l.length = j := by omega
      rw [List.take_length] at H2
      go_wp2
      go_ret
      exact ⟨-1, rfl, by omega, by omega, by rw [H2.out]; rfl, ht⟩

set_option maxRecDepth 100000 in
set_option maxHeartbeats 800000 in
theorem entcheck_any {w : World} {v : Value} {l : List Int} (hl : RowsOf int1 1 (fun _ => True) w v l) (hn : l.length ≤ 100000) :
    Calls Tryz.prog 45 #[v] w (RetAt (entsOK l) w) := by
  have hi := idxint_any hl hn (fun c => !Gk.money c) 81 #[] (enters_of Tryz.func81 (by kernel_rfl) rfl) (fun x w' t => (ewrong_any x w').mono (by rintro _ _ ⟨rfl, rfl⟩; exact ⟨rfl, Tch.refl _ _⟩))
  have hb : (l.any fun c => !Gk.money c) = !l.all Gk.money := by rw [List.not_all_eq_any_not]
  rw [hb] at hi
  unfold entsOK
  generalize l.all Gk.money = b at *
  clear hb
  obtain ⟨A, c, rfl, hc1, hc2⟩ := hl.form
  have HI := Lib.hid hi
  clear hi
  by_cases hle : l.length ≤ 40
  · rw [decide_eq_true hle, Bool.true_and]
    have hle' : (l.length : Int) ≤ 40 := by omega
    go_enter Tryz.func45, Tryz.ntmps45
    go_wp2_with fail
    refine HI.out.mono ?_
    rintro _ w1 ⟨i, rfl, h1, h2, h3, t⟩
    clear HI
    cases b
    · have h0 : 0 ≤ i := by simpa using h3
      clear h3
      go_wp2
      go_ret2
      exact ⟨_, 23, rfl, rfl, t⟩
    · have h0 : i < 0 := by simpa using h3
      clear h3
      go_wp2
      go_ret2
      exact ⟨_, 0, rfl, rfl, t⟩
  · rw [decide_eq_false hle, Bool.false_and]
    have hle' : 40 < (l.length : Int) := by omega
    go_enter Tryz.func45, Tryz.ntmps45
    go_wp2
    go_ret2
    exact ⟨_, 3, rfl, rfl, Tch.refl _ _⟩
end Go.Proofs.YtblenmelciaigaaGreat
