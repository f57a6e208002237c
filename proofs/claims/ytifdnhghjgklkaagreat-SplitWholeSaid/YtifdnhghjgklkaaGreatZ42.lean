/-
  Plain: the parent's part and the others' part of a whole. No program in sight.
-/
import Derived.Test.YtifdnhghjgklkaaGreatZ28
import Derived.Test.YtifdnhghjgklkaaGreatZ27
import Derived.Test.YtifdnhghjgklkaaGreatZ37
import Derived.Test.YtifdnhghjgklkaaGreatZ46
import Derived.Test.YtifdnhghjgklkaaGreatZ35
import Derived.Test.YtifdnhghjgklkaaGreatZ41
namespace Go.Gk
open Go.RowKit

theorem share_bd {l : List Stk4} {n : Int} (h : stakesOK l n = true) (e p : Int) : 0 ≤ stkShare l e p ∧ stkShare l e p ≤ 10000 ∧ (stkUp l e p = 0 → stkShare l e p = 10000) := by
  unfold stkShare stkUp
  cases ha : stkAt l e p with
  | none => exact ⟨by decide, by decide, fun _ => rfl⟩
  | some s =>
    rcases stkAt_mem l none s ha with h1 | h1
    · obtain ⟨i, hi, rfl⟩ := List.getElem_of_mem h1
      have h2 := (stkLast_at h hi).1
      unfold stkIn at h2
      simp only [Bool.and_eq_true, decide_eq_true_eq, Bool.not_eq_true', Bool.and_eq_false_iff, beq_eq_false_iff_ne, bne_eq_false_iff_eq] at h2
      simp only [Option.map_some, Option.getD_some]
      obtain ⟨⟨_, ⟨⟨a1, a2⟩, a3⟩⟩, _⟩ := h2
      exact ⟨a1, a2, fun h0 => a3.elim (fun h3 => absurd h0 h3) id⟩
    · cases h1
theorem part_bd {b : Bks} (h : stakesOK b.stakes b.ents.length = true) (c : Rt6) : 0 ≤ splitPart b c ∧ splitPart b c ≤ 10000 := by
  unfold splitPart shareAt
  have := share_bd h c.2.1 c.2.2.2.1
  split
  · split
    · exact ⟨this.1, this.2.1⟩
    · decide
  · decide
theorem even_in {x s : Int} (h0 : 0 ≤ s) (h1 : s ≤ 10000) : (0 ≤ x → 0 ≤ evenOf (x * s) 10000 ∧ evenOf (x * s) 10000 ≤ x) ∧ (x ≤ 0 → x ≤ evenOf (x * s) 10000 ∧ evenOf (x * s) 10000 ≤ 0) := by
  have a1 : 0 ≤ x → 0 ≤ x * s ∧ x * s ≤ x * 10000 := fun h => ⟨Int.mul_nonneg h h0, Int.mul_le_mul_of_nonneg_left h1 h⟩
  have a2 : x ≤ 0 → x * s ≤ 0 ∧ x * 10000 ≤ x * s := fun h => ⟨Int.mul_nonpos_of_nonpos_of_nonneg h h0, Int.mul_le_mul_of_nonpos_left h h1⟩
  unfold evenOf
  generalize x * s = P at *
  constructor
  · intro h
    have := a1 h
    split <;> omega
  · intro h
    have := a2 h
    split <;> omega
/-- The parent's part. -/
def partOf (s x : Int) : Int := if s = 10000 then x else if 0 < s then (if x = 0 then 0 else evenOf (x * s) 10000) else 0
theorem part_in {s x : Int} (h0 : 0 ≤ s) (h1 : s ≤ 10000) : (0 ≤ x → 0 ≤ partOf s x ∧ partOf s x ≤ x) ∧ (x ≤ 0 → x ≤ partOf s x ∧ partOf s x ≤ 0) := by
  have h := even_in (x := x) h0 h1
  unfold partOf
  refine ⟨fun hx => ?_, fun hx => ?_⟩
  · have h2 := h.1 hx
    split
    · omega
    · split
      · split <;> omega
      · omega
  · have h2 := h.2 hx
    split
    · omega
    · split
      · split <;> omega
      · omega
theorem told2_in {x : Int} (h : I64 x) : told2 x = (x, 0) := by unfold told2; exact if_pos h
/-- What is read of the parent's part: nothing, or the whole. -/
theorem parent_reads (c : Int × Int × Int × Int × Int) (s : Int) : readsOf (splitRcp (4, c) s) = if s = 10000 ∨ 0 < s then [(7, c)] else [] := by
  unfold splitRcp
  rw [if_neg (show ¬ ((4 : Int) = 5) by decide)]
  by_cases h1 : s = 10000
  · rw [if_pos h1, if_pos (.inl h1)]; rfl
  · rw [if_neg h1]
    by_cases h2 : 0 < s
    · rw [if_pos h2, if_pos (.inr h2)]; rfl
    · rw [if_neg h2, if_neg (by omega)]; rfl
theorem parent_eval (c : Int × Int × Int × Int × Int) {s x : Int} (h0 : 0 ≤ s) (h1 : s ≤ 10000) (hx : I64 x) : evalOf (splitRcp (4, c) s) (if s = 10000 ∨ 0 < s then [(x, 0)] else []) = (partOf s x, 0) := by
  have hb := part_in (x := x) h0 h1
  have hp64 : I64 (partOf s x) := by
    unfold I64 at hx ⊢
    rcases Int.le_total 0 x with h | h
    · have := hb.1 h; omega
    · have := hb.2 h; omega
  unfold evalOf
  rw [parent_reads]
  by_cases h2 : s = 10000
  · have hc : s = 10000 ∨ 0 < s := .inl h2
    simp only [if_pos hc]
    rw [if_pos (show [((7, c) : Rt6)].length = [((x, 0) : Vl)].length from rfl)]
    have hv : valsOf (splitRcp (4, c) s) [(x, 0)] (7, c) = (x, 0) := by
      unfold valsOf
      rw [parent_reads, if_pos (.inl h2)]
      exact lookF_cons ((7, c), (x, 0)) [] (by simp)
    have e : splitRcp (4, c) s = { Rcp.none with plus := [(7, c)] } := by unfold splitRcp; rw [if_neg (show ¬ ((4 : Int) = 5) by decide), if_pos h2]
    rw [e] at hv ⊢
    simp only [Rcp.none, List.map_cons, List.map_nil, Bool.false_eq_true, if_false, List.append_nil] at hv ⊢
    rw [hv]
    unfold netOf ferr
    simp only [List.append_nil, List.foldl_cons, List.foldl_nil, if_true, List.map_cons, List.map_nil, List.sum_cons, List.sum_nil]
    have e2 : (0 : Int) + (x + 0) - 0 = x := by omega
    rw [e2, told2_in hx]
    unfold partOf
    rw [if_pos h2]
  · by_cases h3 : 0 < s
    · have hc : s = 10000 ∨ 0 < s := .inr h3
      simp only [if_pos hc]
      rw [if_pos (show [((7, c) : Rt6)].length = [((x, 0) : Vl)].length from rfl)]
      have hv : valsOf (splitRcp (4, c) s) [(x, 0)] (7, c) = (x, 0) := by
        unfold valsOf
        rw [parent_reads, if_pos (.inr h3)]
        exact lookF_cons ((7, c), (x, 0)) [] (by simp)
      have e : splitRcp (4, c) s = { Rcp.none with scaled := (7, c), rated := true, ratio := (s, 10000), has := true } := by unfold splitRcp; rw [if_neg (show ¬ ((4 : Int) = 5) by decide), if_neg h2, if_pos h3]
      have hsc : scaleOf (x, 0) (s, 10000) true = (partOf s x, 0) := by
        unfold scaleOf partOf
        rw [if_neg (by simp), if_neg h2, if_pos h3]
        by_cases hx0 : x = 0
        · rw [if_pos hx0, if_pos hx0]
        · rw [if_neg hx0, if_pos rfl, if_neg hx0]
          unfold applyOf
          rw [if_pos (by unfold ratOK; simp only [Bool.and_eq_true, decide_eq_true_eq]; omega)]
          refine told2_in ?_
          unfold partOf at hp64
          rw [if_neg h2, if_pos h3, if_neg hx0] at hp64
          exact hp64
      rw [e] at hv ⊢
      simp only [Rcp.none, List.map_nil, if_true, List.nil_append] at hv ⊢
      rw [hv, hsc]
      unfold netOf ferr
      simp only [List.append_nil, List.foldl_cons, List.foldl_nil, if_true, List.map_cons, List.map_nil, List.sum_cons, List.sum_nil]
      have e2 : (0 : Int) + (partOf s x + 0) - 0 = partOf s x := by omega
      rw [e2, told2_in hp64]
    · have hc : ¬ (s = 10000 ∨ 0 < s) := by omega
      simp only [if_neg hc]
      rw [if_pos (show ([] : List Rt6).length = ([] : List Vl).length from rfl)]
      have e : splitRcp (4, c) s = Rcp.none := by unfold splitRcp; rw [if_neg (show ¬ ((4 : Int) = 5) by decide), if_neg h2, if_neg h3]
      rw [e]
      unfold partOf
      rw [if_neg h2, if_neg h3]
      rfl
theorem minor_reads (c : Int × Int × Int × Int × Int) (s : Int) : readsOf (splitRcp (5, c) s) = [(7, c), (4, c)] := by
  unfold splitRcp
  rw [if_pos rfl]
  unfold readsOf rcpAll
  exact uniq_of (by simp [Rcp.none])
theorem minor_eval (c : Int × Int × Int × Int × Int) {s x p : Int} (hx : I64 (x - p)) : evalOf (splitRcp (5, c) s) [(x, 0), (p, 0)] = (x - p, 0) := by
  unfold evalOf
  rw [minor_reads, if_pos (by rfl)]
  have h1 : valsOf (splitRcp (5, c) s) [(x, 0), (p, 0)] (7, c) = (x, 0) := by
    unfold valsOf
    rw [minor_reads]
    exact lookF_cons ((7, c), (x, 0)) [((4, c), (p, 0))] (by simp)
  have h2 : valsOf (splitRcp (5, c) s) [(x, 0), (p, 0)] (4, c) = (p, 0) := by
    unfold valsOf
    rw [minor_reads]
    show lookF [((7, c), (x, 0)), ((4, c), (p, 0))] (4, c) = (p, 0)
    rw [lookF_skip _ _ (by simp)]
    exact lookF_cons ((4, c), (p, 0)) [] (by simp)
  have e : splitRcp (5, c) s = { Rcp.none with plus := [(7, c)], minus := [(4, c)] } := by unfold splitRcp; rw [if_pos rfl]
  rw [e] at h1 h2 ⊢
  simp only [Rcp.none, List.map_cons, List.map_nil, Bool.false_eq_true, if_false, List.append_nil] at h1 h2 ⊢
  rw [h1, h2]
  unfold netOf ferr
  simp only [List.cons_append, List.nil_append, List.foldl_cons, List.foldl_nil, if_true, List.map_cons, List.map_nil, List.sum_cons, List.sum_nil]
  have e2 : (0 : Int) + (x + 0) - (p + 0) = x - p := by omega
  rw [e2, told2_in hx]
end Go.Gk

/-
  Both parts of a whole: what their walk needs.
-/
namespace Go.Gk
open Go.RowKit

theorem may_both (b : Bks) (c : Int × Int × Int × Int × Int) : mayOf b (5, c) 4 5 = mayOf b (4, c) 4 5 := by
  obtain ⟨c2, c3, c4, c5, c6⟩ := c
  have h : cellIn (5, c2, c3, c4, c5, c6) b.ents.length b.accs.length = cellIn (4, c2, c3, c4, c5, c6) b.ents.length b.accs.length := by
    unfold cellIn cellOK
    simp [wi]
  unfold mayOf
  rw [h]
  simp
theorem part_apart {c c' : Int × Int × Int × Int × Int} {s r : Int} (hr : r = 4 ∨ r = 5) : (splitRcp (4, c) s).plus = [] ∨ ∀ o, ¬ ∀ (j : Nat) (u : Value), ((splitRcp (4, c) s).plus.flatMap int6)[j]? = some u → (#[Value.int .i64 r, .int .i64 c'.1, .int .i64 c'.2.1, .int .i64 c'.2.2.1, .int .i64 c'.2.2.2.1, .int .i64 c'.2.2.2.2] : Array Value)[o + j]? = some u := by
  unfold splitRcp
  rw [if_neg (show ¬ ((4 : Int) = 5) by decide)]
  by_cases h1 : s = 10000
  · rw [if_pos h1]
    refine .inr fun o h => ?_
    have h9 := h 0 (.int .i64 7) (by simp [int6])
    have h5 := h 5 (.int .i64 c.2.2.2.2) (by simp [int6])
    have h8 := (Array.getElem?_eq_some_iff.1 h5).1
    simp at h8
    obtain rfl : o = 0 := by omega
    simp at h9
    omega
  · rw [if_neg h1]
    by_cases h2 : 0 < s
    · rw [if_pos h2]; exact .inl rfl
    · rw [if_neg h2]; exact .inl rfl
theorem part_minus (c : Int × Int × Int × Int × Int) (s : Int) : (splitRcp (4, c) s).minus = [] ∧ (splitRcp (4, c) s).base = (0, 0) ∧ (splitRcp (4, c) s).plus.length ≤ 1 := by
  unfold splitRcp
  rw [if_neg (show ¬ ((4 : Int) = 5) by decide)]
  split
  · exact ⟨rfl, rfl, by simp⟩
  · split
    · exact ⟨rfl, rfl, by simp [Rcp.none]⟩
    · exact ⟨rfl, rfl, by simp [Rcp.none]⟩
theorem rest_facts (c : Int × Int × Int × Int × Int) (s : Int) : splitRcp (5, c) s = { Rcp.none with plus := [(7, c)], minus := [(4, c)] } := by
  unfold splitRcp
  rw [if_pos rfl]
theorem rest_part {s x : Int} (h0 : 0 ≤ s) (h1 : s ≤ 10000) (hx : I64 x) : I64 (partOf s x) ∧ I64 (x - partOf s x) := by
  have hb := part_in (x := x) h0 h1
  unfold I64 at hx ⊢
  rcases Int.le_total 0 x with h | h
  · have := hb.1 h; omega
  · have := hb.2 h; omega
/-- Both parts, and whether the key has any. -/
def bothOf (b : Bks) (c : Int × Int × Int × Int × Int) (x : Int) : Vl × Vl × Bool :=
  if mayOf b (4, c) 4 5 = 0 then ((partOf (splitPart b (4, c)) x, 0), (x - partOf (splitPart b (4, c)) x, 0), true) else ((0, 0), (0, 0), false)

theorem results_row_cells {P : Program} {fn : Func} {p q u : Tmp} {ty : TypeId} (h : fn.results = #[.cell p ty, .cell q ty, .tmp u]) (tmps : Array Value) (w : World) (g g2 : Nat) (t t2 : TypeId) (cs cs2 : Array Value) (fr fr2 : Nat × Nat) (d : TypeDesc)
    (hp : tmps.getD p undef = .pointer (some ⟨g, 0, none⟩)) (hg : w.heap[g]? = some (.cells cs t fr))
    (hq : tmps.getD q undef = .pointer (some ⟨g2, 0, none⟩)) (hg2 : w.heap[g2]? = some (.cells cs2 t2 fr2))
    (hu : P.underlying ty = some d) (hd : (match d with | .struct _ | .array _ _ => true | _ => false) = true) (hi : (P.info? ty).map (·.size) = some cs.size) (hi2 : (P.info? ty).map (·.size) = some cs2.size) :
    (results fn tmps).run P w = .ok (.tuple #[.agg cs, .agg cs2, tmps.getD u undef]) w := by
  have e : (results fn tmps).run P w = ((asAddr (tmps.getD p undef)).run P w).andThen fun a w₁ => ((loadVar ty a).run P w₁).andThen fun v0 w₂ => ((asAddr (tmps.getD q undef)).run P w₂).andThen fun a2 w₃ => ((loadVar ty a2).run P w₃).andThen fun v1 w₄ => .ok (.tuple #[v0, v1, tmps.getD u undef]) w₄ := by
    simp only [results, h]
    simp [Sem.run_bind, Result.andThen]
  rw [e, hp, hq]
  simp [asAddr, run_loadVar_row w g t ty cs fr d hg hu hd hi, run_loadVar_row w g2 t2 ty cs2 fr2 d hg2 hu hd hi2, Result.andThen]
end Go.Gk

/-
  Both parts of a whole: the walk.
-/
namespace Go.Proofs.YtifdnhghjgklkaaGreat
open Go.RowKit Go.Gk

section
variable {w : World} {bv bi B t mr mp : Nat} {e a s r l n lv : Value} {fs : List Value} {b : Bks} {us : List (Ent × Value)}

set_option maxRecDepth 100000 in
set_option maxHeartbeats 12800000 in
theorem both_any (h : Vw w bv bi B t mr mp e a s r l n lv fs b us) (hn : (accLeaves b.accs).length ≤ 1000) (h40 : b.ents.length ≤ 40) (hst : stakesOK b.stakes b.ents.length = true) (c1 c2 c3 c4 c5 c6 x : Int) (hx : I64 x) :
    Calls Tryz.prog 31 #[.pointer (some ⟨bv, 0, none⟩), .agg #[.int .i64 c1, .int .i64 c2, .int .i64 c3, .int .i64 c4, .int .i64 c5, .int .i64 c6], .int .i64 x] w fun u w' => u = .returned (.tuple #[vlV (bothOf b (c2, c3, c4, c5, 0) x).1, vlV (bothOf b (c2, c3, c4, c5, 0) x).2.1, .bool (bothOf b (c2, c3, c4, c5, 0) x).2.2]) ∧ Tch (fun _ => False) w w' := by
  have ta := Tch.alloc (fun _ => False) w (.cells #[.int .i64 4, .int .i64 c2, .int .i64 c3, .int .i64 c4, .int .i64 c5, .int .i64 0] 31)
  have tb := Tch.alloc (fun _ => False) (w.alloc (.cells #[.int .i64 4, .int .i64 c2, .int .i64 c3, .int .i64 c4, .int .i64 c5, .int .i64 0] 31)) (.cells #[.int .i64 0, .int .i64 0] 39)
  have tc := Tch.alloc (fun _ => False) ((w.alloc (.cells #[.int .i64 4, .int .i64 c2, .int .i64 c3, .int .i64 c4, .int .i64 c5, .int .i64 0] 31)).alloc (.cells #[.int .i64 0, .int .i64 0] 39)) (.cells #[.int .i64 0, .int .i64 0] 39)
  have tw := (ta.trans tb).trans tc
  have hbC := ((Blk.new w 31 #[.int .i64 4, .int .i64 c2, .int .i64 c3, .int .i64 c4, .int .i64 c5, .int .i64 0]).keep tb id).keep tc id
  have hb1 := (Blk.new2 w (.cells #[.int .i64 4, .int .i64 c2, .int .i64 c3, .int .i64 c4, .int .i64 c5, .int .i64 0] 31) 39 #[.int .i64 0, .int .i64 0]).keep tc id
  have hb2 : Blk (((w.alloc (.cells #[.int .i64 4, .int .i64 c2, .int .i64 c3, .int .i64 c4, .int .i64 c5, .int .i64 0] 31)).alloc (.cells #[.int .i64 0, .int .i64 0] 39)).alloc (.cells #[.int .i64 0, .int .i64 0] 39)) (w.heap.size + 1 + 1) 39 #[.int .i64 0, .int .i64 0] := by
    simpa using Blk.new ((w.alloc (.cells #[.int .i64 4, .int .i64 c2, .int .i64 c3, .int .i64 c4, .int .i64 c5, .int .i64 0] 31)).alloc (.cells #[.int .i64 0, .int .i64 0] 39)) 39 #[.int .i64 0, .int .i64 0]
  have hsz : (((w.alloc (.cells #[.int .i64 4, .int .i64 c2, .int .i64 c3, .int .i64 c4, .int .i64 c5, .int .i64 0] 31)).alloc (.cells #[.int .i64 0, .int .i64 0] 39)).alloc (.cells #[.int .i64 0, .int .i64 0] 39)).heap.size = w.heap.size + 3 := by simp
  have H0 := Lib.hid h
  have HPB := Lib.hid (part_bd hst (4, c2, c3, c4, c5, 0))
  have HP5 := Lib.hid (show splitPart b (5, c2, c3, c4, c5, 0) = splitPart b (4, c2, c3, c4, c5, 0) from rfl)
  have HM5 := Lib.hid (may_both b (c2, c3, c4, c5, 0))
  clear ta tb tc h hst
  go_enter Tryz.func31, Tryz.ntmps31
  go_wp2_with fail
  generalize ((w.alloc (.cells #[.int .i64 4, .int .i64 c2, .int .i64 c3, .int .i64 c4, .int .i64 c5, .int .i64 0] 31)).alloc _).alloc _ = W at *
  generalize hzw : w.heap.size = z at *
  have HZW := Lib.hid hzw
  clear hzw
  have hz4 : z + 3 ≤ W.heap.size := by omega
  have HS := Lib.hid (splitrec_any (H0.out.keep tw) hn h40 4 c2 c3 c4 c5 0)
  unfold SplitOk at HS
  clear hsz
  refine HS.out.mono ?_
  rintro _ w5 ⟨v1, rfl, hr1, t5⟩
  clear HS
  have tt5 := tw.trans t5
  have hC5 := hbC.keep t5 id
  have hA5 := hb1.keep t5 id
  have hB5 := hb2.keep t5 id
  have hz5 := Nat.le_trans hz4 t5.size
  clear tw t5 hbC hb1 hb2 hz4
  have HL4 := Lib.hid (show splitOf b (4, c2, c3, c4, c5, 0) = if mayOf b (4, c2, c3, c4, c5, 0) 4 5 = 0 then (splitRcp (4, c2, c3, c4, c5, 0) (splitPart b (4, c2, c3, c4, c5, 0)), 0) else (Rcp.none, mayOf b (4, c2, c3, c4, c5, 0) 4 5) from rfl)
  have HL5 := Lib.hid (show splitOf b (5, c2, c3, c4, c5, 0) = if mayOf b (4, c2, c3, c4, c5, 0) 4 5 = 0 then (splitRcp (5, c2, c3, c4, c5, 0) (splitPart b (4, c2, c3, c4, c5, 0)), 0) else (Rcp.none, mayOf b (4, c2, c3, c4, c5, 0) 4 5) by
    unfold splitOf
    rw [HM5.out, HP5.out])
  have HBO := Lib.hid (show bothOf b (c2, c3, c4, c5, 0) x = if mayOf b (4, c2, c3, c4, c5, 0) 4 5 = 0 then ((partOf (splitPart b (4, c2, c3, c4, c5, 0)) x, 0), (x - partOf (splitPart b (4, c2, c3, c4, c5, 0)) x, 0), true) else ((0, 0), (0, 0), false) from rfl)
  clear HM5 HP5
  have HR5 := Lib.hid (fun w' (t : Tch (fun _ => False) w w') => splitrec_any (H0.out.keep t) hn h40 5 c2 c3 c4 c5 0)
  unfold SplitOk at HR5
  rw [HL5.out] at HR5
  rw [HL4.out] at hr1 ⊢
  clear H0 HL4 HL5 hn h40
  generalize mayOf b (4, c2, c3, c4, c5, 0) 4 5 = m at *
  generalize splitPart b (4, c2, c3, c4, c5, 0) = sp at *
  by_cases hm : m = 0
  rotate_left
  · simp only [if_neg hm] at hr1 HR5 ⊢
    have hm' : (m != 0) = true := by simpa using hm
    obtain ⟨p1, m1, rfl, hp1, hm1⟩ := hr1
    obtain ⟨P1, k1, rfl, _, _⟩ := hp1.form
    obtain ⟨M1, d1, rfl, _, _⟩ := hm1.form
    unfold rcpV Rcp.none
    simp only [List.length_nil]
    clear hp1 hm1
    have tE := Tch.alloc (fun _ => False) w5 (.cells #[.int .i64 0, .int .i64 0, .slice P1 0 k1, .slice M1 0 d1, .int .i64 0, .int .i64 0, .int .i64 0, .int .i64 0, .int .i64 0, .int .i64 0, .bool false, .int .i64 0, .int .i64 0, .bool false] 46)
    have hC6 := hC5.keep tE id
    have hA6 := hA5.keep tE id
    have hB6 := hB5.keep tE id
    have tt6 := tt5.trans tE
    clear tE hC5 hA5 hB5 tt5
    go_wp2_with (refine wpList_store_cell rfl _ _ _ rfl z 0 (.int .i64 5) (by rfl) (by rfl) rfl (by rfl) hC6 (by simp) ?_; refine Hid.out ?_)
    generalize w5.alloc _ = w6 at *
    refine Lib.hid ?_
    intro w7 hC7 ts
    (try simp only [List.setIfInBounds_toArray, List.set_cons_succ, List.set_cons_zero] at hC7)
    have tt7 := tt6.trans' ts (fun i hi => .inr (by have hi : i = z := hi; have := HZW.out; omega))
    have hA7 := hA6.keep ts (by omega)
    have hB7 := hB6.keep ts (by omega)
    have HR7 := Lib.hid (HR5.out w7 tt7)
    have k0 : w7.cell? ⟨z, 0, none⟩ = some (.int .i64 5) := hC7.cell 0
    have k1 : w7.cell? ⟨z, 1, none⟩ = some (.int .i64 c2) := hC7.cell 1
    have k2 : w7.cell? ⟨z, 2, none⟩ = some (.int .i64 c3) := hC7.cell 2
    have k3 : w7.cell? ⟨z, 3, none⟩ = some (.int .i64 c4) := hC7.cell 3
    have k4 : w7.cell? ⟨z, 4, none⟩ = some (.int .i64 c5) := hC7.cell 4
    have k5 : w7.cell? ⟨z, 5, none⟩ = some (.int .i64 0) := hC7.cell 5
    clear HR5 hA6 hB6 hC6 hC7 ts tt6 hz5
    go_wp2_with fail
    refine HR7.out.mono ?_
    rintro _ w8 ⟨v2, rfl, hr2, t8⟩
    clear HR7 k0 k1 k2 k3 k4 k5
    obtain ⟨p2, m2, rfl, hp2, hm2⟩ := hr2
    obtain ⟨P2, k2, rfl, _, _⟩ := hp2.form
    obtain ⟨M2, d2, rfl, _, _⟩ := hm2.form
    unfold rcpV Rcp.none
    simp only [List.length_nil]
    clear hp2 hm2
    have tE := Tch.alloc (fun _ => False) w8 (.cells #[.int .i64 0, .int .i64 0, .slice P2 0 k2, .slice M2 0 d2, .int .i64 0, .int .i64 0, .int .i64 0, .int .i64 0, .int .i64 0, .int .i64 0, .bool false, .int .i64 0, .int .i64 0, .bool false] 46)
    have hA9 := (hA7.keep t8 id).keep tE id
    have hB9 := (hB7.keep t8 id).keep tE id
    have tt9 := (tt7.trans t8).trans tE
    have HBN := Lib.hid (show bothOf b (c2, c3, c4, c5, 0) x = ((0, 0), (0, 0), false) by rw [HBO.out, if_neg hm])
    clear tE t8 tt7 hA7 hB7 HBO hm
    go_wp2_with (refine wpList_store_blk rfl _ _ _ rfl (z + 1) #[.int .i64 0, .int .i64 0] (by rfl) (by rfl) hA9 (by kernel_rfl) rfl (by simp [Value.oneCell']) ?_; refine Hid.out ?_)
    generalize w8.alloc _ = w9 at *
    refine Lib.hid ?_
    intro wa hA10 ta
    have hB10 := hB9.keep ta (by omega)
    have tt10 := tt9.trans' (F' := fun g => g = z + 1) ta (fun i hi => .inr (by have hi : i = z + 1 := hi; have := HZW.out; omega))
    clear hA9 hB9 tt9 ta
    go_wp2_with (refine wpList_store_blk rfl _ _ _ rfl (z + 1 + 1) #[.int .i64 0, .int .i64 0] (by rfl) (by rfl) hB10 (by kernel_rfl) rfl (by simp [Value.oneCell']) ?_; refine Hid.out ?_)
    refine Lib.hid ?_
    intro wb hB11 tb
    have HA := Lib.hid (hA10.keep tb (by omega))
    have HB := Lib.hid hB11
    have TT := Lib.hid (tt10.trans' (F' := fun g => g = z + 1 + 1) tb (fun i hi => .inr (by have hi : i = z + 1 + 1 := hi; have := HZW.out; omega)))
    clear hA10 hB10 tt10 hB11 tb
    go_wp2
    (try simp only [Exit.inBlock, Exit.then])
    (try rw [Exit.noGoto_ret])
    refine bodyPost_ret (results_row_cells (P := Tryz.prog) rfl _ _ (z + 1) (z + 1 + 1) 39 39 _ _ (0, 0) (0, 0) _ rfl HA.out rfl HB.out Tryz.underlying39 rfl (by kernel_rfl) (by kernel_rfl)) rfl ?_
    rw [HBN.out]
    exact ⟨rfl, TT.out⟩
  subst hm
  simp only [if_pos] at hr1 HR5 HBO ⊢
  obtain ⟨gm, gb, gp⟩ := part_minus (c2, c3, c4, c5, 0) sp
  have ga := Lib.hid (part_apart (c := (c2, c3, c4, c5, 0)) (c' := (c2, c3, c4, c5, 0)) (s := sp) (r := 4) (.inl rfl))
  have GRD := Lib.hid (parent_reads (c2, c3, c4, c5, 0) sp)
  have GEV := Lib.hid (parent_eval (c2, c3, c4, c5, 0) HPB.out.1 HPB.out.2 hx)
  have G2 := Lib.hid (rest_facts (c2, c3, c4, c5, 0) sp)
  have G2R := Lib.hid (minor_reads (c2, c3, c4, c5, 0) sp)
  have G2E := Lib.hid (minor_eval (c2, c3, c4, c5, 0) (s := sp) (x := x) (p := partOf sp x) (rest_part HPB.out.1 HPB.out.2 hx).2)
  rw [G2.out] at HR5 G2R G2E
  have GP64 := Lib.hid (rest_part HPB.out.1 HPB.out.2 hx).1
  generalize splitRcp (4, c2, c3, c4, c5, 0) sp = R1 at *
  obtain ⟨⟨b1, b2⟩, pl, mi, ⟨s1, s2, s3, s4, s5, s6⟩, rt, ⟨r1, r2⟩, hs⟩ := R1
  simp only at gm gb gp ga
  subst gm
  obtain ⟨p1, m1, rfl, hp1, hm1⟩ := hr1
  simp only at hp1 hm1
  obtain ⟨P1, k1, rfl, _, _⟩ := hp1.form
  obtain ⟨M1, d1, rfl, _, _⟩ := hm1.form
  unfold rcpV
  simp only [List.length_nil]
  have tE := Tch.alloc (fun _ => False) w5 (.cells #[.int .i64 b1, .int .i64 b2, .slice P1 pl.length k1, .slice M1 0 d1, .int .i64 s1, .int .i64 s2, .int .i64 s3, .int .i64 s4, .int .i64 s5, .int .i64 s6, .bool rt, .int .i64 r1, .int .i64 r2, .bool hs] 46)
  have bX := Blk.new w5 46 #[.int .i64 b1, .int .i64 b2, .slice P1 pl.length k1, .slice M1 0 d1, .int .i64 s1, .int .i64 s2, .int .i64 s3, .int .i64 s4, .int .i64 s5, .int .i64 s6, .bool rt, .int .i64 r1, .int .i64 r2, .bool hs]
  have hC6 := hC5.keep tE id
  have hA6 := hA5.keep tE id
  have hB6 := hB5.keep tE id
  have tt6 := tt5.trans tE
  have hpE := hp1.keep tE
  have hmE := hm1.keep tE
  have hp3 : RowsOf int6 6 (fun g => g ≠ z) (w5.alloc (.cells #[.int .i64 b1, .int .i64 b2, .slice P1 pl.length k1, .slice M1 0 d1, .int .i64 s1, .int .i64 s2, .int .i64 s3, .int .i64 s4, .int .i64 s5, .int .i64 s6, .bool rt, .int .i64 r1, .int .i64 r2, .bool hs] 46)) (.slice P1 pl.length k1) pl := ga.out.elim (fun h0 => by subst h0; exact Row.none hpE) (fun h0 => Row.apart hpE hC6 h0)
  have hm3 : RowsOf int6 6 (fun g => g ≠ z) (w5.alloc (.cells #[.int .i64 b1, .int .i64 b2, .slice P1 pl.length k1, .slice M1 0 d1, .int .i64 s1, .int .i64 s2, .int .i64 s3, .int .i64 s4, .int .i64 s5, .int .i64 s6, .bool rt, .int .i64 r1, .int .i64 r2, .bool hs] 46)) (.slice M1 0 d1) [] := Row.none hmE
  have HX := Lib.hid (fun w' (t : Tch (fun g => g = z) (w5.alloc (.cells #[.int .i64 b1, .int .i64 b2, .slice P1 pl.length k1, .slice M1 0 d1, .int .i64 s1, .int .i64 s2, .int .i64 s3, .int .i64 s4, .int .i64 s5, .int .i64 s6, .bool rt, .int .i64 r1, .int .i64 r2, .bool hs] 46)) w') => show RcpIs w' (.agg #[.int .i64 b1, .int .i64 b2, .slice P1 pl.length k1, .slice M1 0 d1, .int .i64 s1, .int .i64 s2, .int .i64 s3, .int .i64 s4, .int .i64 s5, .int .i64 s6, .bool rt, .int .i64 r1, .int .i64 r2, .bool hs]) ⟨(b1, b2), pl, [], (s1, s2, s3, s4, s5, s6), rt, (r1, r2), hs⟩ from ⟨_, _, by unfold rcpV; rfl, hp3.keepTo t fun _ _ h => ⟨h, trivial⟩, hm3.keepTo t fun _ _ h => ⟨h, trivial⟩⟩)
  have hs1 : (w5.alloc (.cells #[.int .i64 b1, .int .i64 b2, .slice P1 pl.length k1, .slice M1 0 d1, .int .i64 s1, .int .i64 s2, .int .i64 s3, .int .i64 s4, .int .i64 s5, .int .i64 s6, .bool rt, .int .i64 r1, .int .i64 r2, .bool hs] 46)).heap.size = w5.heap.size + 1 := by simp
  clear tE hC5 hA5 hB5 tt5 hp1 hm1 hpE hmE hp3 hm3 ga G2
  go_wp2_with (refine wpList_store_cell rfl _ _ _ rfl z 0 (.int .i64 5) (by rfl) (by rfl) rfl (by rfl) hC6 (by simp) ?_; refine Hid.out ?_)
  generalize w5.alloc _ = w6 at *
  generalize hy1 : w5.heap.size = y1 at *
  refine Lib.hid ?_
  intro w7 hC7 ts
  (try simp only [List.setIfInBounds_toArray, List.set_cons_succ, List.set_cons_zero] at hC7)
  have tt7 := tt6.trans' ts (fun i hi => .inr (by have hi : i = z := hi; have := HZW.out; omega))
  have hA7 := hA6.keep ts (by omega)
  have hB7 := hB6.keep ts (by omega)
  have bX7 := bX.keep ts (by omega)
  have HR7 := Lib.hid (HR5.out w7 tt7)
  have HX7 := Lib.hid (fun w' (t : Tch (fun _ => False) w7 w') => HX.out w' (ts.trans (Exn.touch t)))
  have k0 : w7.cell? ⟨z, 0, none⟩ = some (.int .i64 5) := hC7.cell 0
  have k1 : w7.cell? ⟨z, 1, none⟩ = some (.int .i64 c2) := hC7.cell 1
  have k2 : w7.cell? ⟨z, 2, none⟩ = some (.int .i64 c3) := hC7.cell 2
  have k3 : w7.cell? ⟨z, 3, none⟩ = some (.int .i64 c4) := hC7.cell 3
  have k4 : w7.cell? ⟨z, 4, none⟩ = some (.int .i64 c5) := hC7.cell 4
  have k5 : w7.cell? ⟨z, 5, none⟩ = some (.int .i64 0) := hC7.cell 5
  have hy7 : y1 + 1 ≤ w7.heap.size := by have := ts.size; omega
  clear HR5 hA6 hB6 hC6 hC7 ts tt6 HX bX hs1
  go_wp2_with fail
  refine HR7.out.mono ?_
  rintro _ w8 ⟨v2, rfl, hr2, t8⟩
  clear HR7 k0 k1 k2 k3 k4 k5
  obtain ⟨p2, m2, rfl, hp2, hm2⟩ := hr2
  simp only at hp2 hm2
  obtain ⟨P2, k2, rfl, _, _⟩ := hp2.form
  obtain ⟨M2, d2, rfl, _, _⟩ := hm2.form
  unfold rcpV Rcp.none
  simp only [List.length_cons, List.length_nil]
  have tE := Tch.alloc (fun _ => False) w8 (.cells #[.int .i64 0, .int .i64 0, .slice P2 1 k2, .slice M2 1 d2, .int .i64 0, .int .i64 0, .int .i64 0, .int .i64 0, .int .i64 0, .int .i64 0, .bool false, .int .i64 0, .int .i64 0, .bool false] 46)
  have bY := Blk.new w8 46 #[.int .i64 0, .int .i64 0, .slice P2 1 k2, .slice M2 1 d2, .int .i64 0, .int .i64 0, .int .i64 0, .int .i64 0, .int .i64 0, .int .i64 0, .bool false, .int .i64 0, .int .i64 0, .bool false]
  have t8E := t8.trans tE
  have tF := Tch.alloc (fun _ => False) (w8.alloc (.cells #[.int .i64 0, .int .i64 0, .slice P2 1 k2, .slice M2 1 d2, .int .i64 0, .int .i64 0, .int .i64 0, .int .i64 0, .int .i64 0, .int .i64 0, .bool false, .int .i64 0, .int .i64 0, .bool false] 46)) (.cells #[.int .i64 x, .int .i64 0] 39)
  have bW := Blk.new (w8.alloc (.cells #[.int .i64 0, .int .i64 0, .slice P2 1 k2, .slice M2 1 d2, .int .i64 0, .int .i64 0, .int .i64 0, .int .i64 0, .int .i64 0, .int .i64 0, .bool false, .int .i64 0, .int .i64 0, .bool false] 46)) 39 #[.int .i64 x, .int .i64 0]
  have tEF := tE.trans tF
  have t8F := t8.trans tEF
  have hA9 := hA7.keep t8F id
  have hB9 := hB7.keep t8F id
  have bX9 := bX7.keep t8F id
  have bY9 := bY.keep tF id
  have tt9 := tt7.trans t8F
  have HX9 := Lib.hid (HX7.out _ t8F)
  have HRD := Lib.hid (reads_any (HX7.out _ t8F) (by simp only [List.length_nil]; omega))
  clear hA7 hB7 bX7 bY tt7
  have x0 : ((w8.alloc (.cells #[.int .i64 0, .int .i64 0, .slice P2 1 k2, .slice M2 1 d2, .int .i64 0, .int .i64 0, .int .i64 0, .int .i64 0, .int .i64 0, .int .i64 0, .bool false, .int .i64 0, .int .i64 0, .bool false] 46)).alloc (.cells #[.int .i64 x, .int .i64 0] 39)).cell? ⟨y1, 0, none⟩ = some (.int .i64 b1) := bX9.cell 0
  have x1 : ((w8.alloc (.cells #[.int .i64 0, .int .i64 0, .slice P2 1 k2, .slice M2 1 d2, .int .i64 0, .int .i64 0, .int .i64 0, .int .i64 0, .int .i64 0, .int .i64 0, .bool false, .int .i64 0, .int .i64 0, .bool false] 46)).alloc (.cells #[.int .i64 x, .int .i64 0] 39)).cell? ⟨y1, 1, none⟩ = some (.int .i64 b2) := bX9.cell 1
  have x2 : ((w8.alloc (.cells #[.int .i64 0, .int .i64 0, .slice P2 1 k2, .slice M2 1 d2, .int .i64 0, .int .i64 0, .int .i64 0, .int .i64 0, .int .i64 0, .int .i64 0, .bool false, .int .i64 0, .int .i64 0, .bool false] 46)).alloc (.cells #[.int .i64 x, .int .i64 0] 39)).cell? ⟨y1, 2, none⟩ = some (.slice P1 pl.length k1) := bX9.cell 2
  have x3 : ((w8.alloc (.cells #[.int .i64 0, .int .i64 0, .slice P2 1 k2, .slice M2 1 d2, .int .i64 0, .int .i64 0, .int .i64 0, .int .i64 0, .int .i64 0, .int .i64 0, .bool false, .int .i64 0, .int .i64 0, .bool false] 46)).alloc (.cells #[.int .i64 x, .int .i64 0] 39)).cell? ⟨y1, 3, none⟩ = some (.slice M1 0 d1) := bX9.cell 3
  have x4 : ((w8.alloc (.cells #[.int .i64 0, .int .i64 0, .slice P2 1 k2, .slice M2 1 d2, .int .i64 0, .int .i64 0, .int .i64 0, .int .i64 0, .int .i64 0, .int .i64 0, .bool false, .int .i64 0, .int .i64 0, .bool false] 46)).alloc (.cells #[.int .i64 x, .int .i64 0] 39)).cell? ⟨y1, 4, none⟩ = some (.int .i64 s1) := bX9.cell 4
  have x5 : ((w8.alloc (.cells #[.int .i64 0, .int .i64 0, .slice P2 1 k2, .slice M2 1 d2, .int .i64 0, .int .i64 0, .int .i64 0, .int .i64 0, .int .i64 0, .int .i64 0, .bool false, .int .i64 0, .int .i64 0, .bool false] 46)).alloc (.cells #[.int .i64 x, .int .i64 0] 39)).cell? ⟨y1, 5, none⟩ = some (.int .i64 s2) := bX9.cell 5
  have x6 : ((w8.alloc (.cells #[.int .i64 0, .int .i64 0, .slice P2 1 k2, .slice M2 1 d2, .int .i64 0, .int .i64 0, .int .i64 0, .int .i64 0, .int .i64 0, .int .i64 0, .bool false, .int .i64 0, .int .i64 0, .bool false] 46)).alloc (.cells #[.int .i64 x, .int .i64 0] 39)).cell? ⟨y1, 6, none⟩ = some (.int .i64 s3) := bX9.cell 6
  have x7 : ((w8.alloc (.cells #[.int .i64 0, .int .i64 0, .slice P2 1 k2, .slice M2 1 d2, .int .i64 0, .int .i64 0, .int .i64 0, .int .i64 0, .int .i64 0, .int .i64 0, .bool false, .int .i64 0, .int .i64 0, .bool false] 46)).alloc (.cells #[.int .i64 x, .int .i64 0] 39)).cell? ⟨y1, 7, none⟩ = some (.int .i64 s4) := bX9.cell 7
  have x8 : ((w8.alloc (.cells #[.int .i64 0, .int .i64 0, .slice P2 1 k2, .slice M2 1 d2, .int .i64 0, .int .i64 0, .int .i64 0, .int .i64 0, .int .i64 0, .int .i64 0, .bool false, .int .i64 0, .int .i64 0, .bool false] 46)).alloc (.cells #[.int .i64 x, .int .i64 0] 39)).cell? ⟨y1, 8, none⟩ = some (.int .i64 s5) := bX9.cell 8
  have x9 : ((w8.alloc (.cells #[.int .i64 0, .int .i64 0, .slice P2 1 k2, .slice M2 1 d2, .int .i64 0, .int .i64 0, .int .i64 0, .int .i64 0, .int .i64 0, .int .i64 0, .bool false, .int .i64 0, .int .i64 0, .bool false] 46)).alloc (.cells #[.int .i64 x, .int .i64 0] 39)).cell? ⟨y1, 9, none⟩ = some (.int .i64 s6) := bX9.cell 9
  have x10 : ((w8.alloc (.cells #[.int .i64 0, .int .i64 0, .slice P2 1 k2, .slice M2 1 d2, .int .i64 0, .int .i64 0, .int .i64 0, .int .i64 0, .int .i64 0, .int .i64 0, .bool false, .int .i64 0, .int .i64 0, .bool false] 46)).alloc (.cells #[.int .i64 x, .int .i64 0] 39)).cell? ⟨y1, 10, none⟩ = some (.bool rt) := bX9.cell 10
  have x11 : ((w8.alloc (.cells #[.int .i64 0, .int .i64 0, .slice P2 1 k2, .slice M2 1 d2, .int .i64 0, .int .i64 0, .int .i64 0, .int .i64 0, .int .i64 0, .int .i64 0, .bool false, .int .i64 0, .int .i64 0, .bool false] 46)).alloc (.cells #[.int .i64 x, .int .i64 0] 39)).cell? ⟨y1, 11, none⟩ = some (.int .i64 r1) := bX9.cell 11
  have x12 : ((w8.alloc (.cells #[.int .i64 0, .int .i64 0, .slice P2 1 k2, .slice M2 1 d2, .int .i64 0, .int .i64 0, .int .i64 0, .int .i64 0, .int .i64 0, .int .i64 0, .bool false, .int .i64 0, .int .i64 0, .bool false] 46)).alloc (.cells #[.int .i64 x, .int .i64 0] 39)).cell? ⟨y1, 12, none⟩ = some (.int .i64 r2) := bX9.cell 12
  have x13 : ((w8.alloc (.cells #[.int .i64 0, .int .i64 0, .slice P2 1 k2, .slice M2 1 d2, .int .i64 0, .int .i64 0, .int .i64 0, .int .i64 0, .int .i64 0, .int .i64 0, .bool false, .int .i64 0, .int .i64 0, .bool false] 46)).alloc (.cells #[.int .i64 x, .int .i64 0] 39)).cell? ⟨y1, 13, none⟩ = some (.bool hs) := bX9.cell 13
  have hsA : (w8.alloc (.cells #[.int .i64 0, .int .i64 0, .slice P2 1 k2, .slice M2 1 d2, .int .i64 0, .int .i64 0, .int .i64 0, .int .i64 0, .int .i64 0, .int .i64 0, .bool false, .int .i64 0, .int .i64 0, .bool false] 46)).heap.size = w8.heap.size + 1 := by simp
  have hsB : ((w8.alloc (.cells #[.int .i64 0, .int .i64 0, .slice P2 1 k2, .slice M2 1 d2, .int .i64 0, .int .i64 0, .int .i64 0, .int .i64 0, .int .i64 0, .int .i64 0, .bool false, .int .i64 0, .int .i64 0, .bool false] 46)).alloc (.cells #[.int .i64 x, .int .i64 0] 39)).heap.size = w8.heap.size + 2 := by simp
  rw [hsA] at bW
  have h2E := hp2.keep tEF
  have h3E := hm2.keep tEF
  have HY9 := Lib.hid (show RcpIs ((w8.alloc (.cells #[.int .i64 0, .int .i64 0, .slice P2 1 k2, .slice M2 1 d2, .int .i64 0, .int .i64 0, .int .i64 0, .int .i64 0, .int .i64 0, .int .i64 0, .bool false, .int .i64 0, .int .i64 0, .bool false] 46)).alloc (.cells #[.int .i64 x, .int .i64 0] 39)) (.agg #[.int .i64 0, .int .i64 0, .slice P2 1 k2, .slice M2 1 d2, .int .i64 0, .int .i64 0, .int .i64 0, .int .i64 0, .int .i64 0, .int .i64 0, .bool false, .int .i64 0, .int .i64 0, .bool false]) ⟨(0, 0), [(7, c2, c3, c4, c5, 0)], [(4, c2, c3, c4, c5, 0)], (0, 0, 0, 0, 0, 0), false, (0, 0), false⟩ from ⟨_, _, by unfold rcpV; rfl, h2E, h3E⟩)
  have hy8 : y1 + 1 ≤ w8.heap.size := Nat.le_trans hy7 t8.size
  have HE9 := Lib.hid (fun w' (t : Tch (fun _ => False) ((w8.alloc (.cells #[.int .i64 0, .int .i64 0, .slice P2 1 k2, .slice M2 1 d2, .int .i64 0, .int .i64 0, .int .i64 0, .int .i64 0, .int .i64 0, .int .i64 0, .bool false, .int .i64 0, .int .i64 0, .bool false] 46)).alloc (.cells #[.int .i64 x, .int .i64 0] 39)) w') => HX7.out w' (t8F.trans t))
  clear hp2 hm2 h2E h3E tE tF tEF t8E t8F t8 hsA HX7 hy7 HX9
  go_wp2_with fail
  generalize (w8.alloc _).alloc _ = W9 at *
  generalize hy2 : w8.heap.size = y2 at *
  clear hy2
  refine HRD.out.mono ?_
  rintro _ wa ⟨u, rfl, hu, ta⟩
  clear HRD x0 x1 x2 x3 x4 x5 x6 x7 x8 x9 x10 x11 x12 x13
  rw [GRD.out] at hu
  have hAa := hA9.keep ta id
  have hBa := hB9.keep ta id
  have bXa := bX9.keep ta id
  have bYa := bY9.keep ta id
  have bWa := bW.keep ta id
  have tta := tt9.trans ta
  have HEa := Lib.hid (fun w' (t : Tch (fun _ => False) wa w') => HE9.out w' (ta.trans t))
  have HYa := Lib.hid (fun w' (t : Tch (fun _ => False) wa w') => HY9.out.keep (ta.trans t))
  have hsa : y2 + 2 ≤ wa.heap.size := by have := ta.size; omega
  clear hA9 hB9 bX9 bY9 bW tt9 HE9 HY9 hsB ta
  by_cases hc : sp = 10000 ∨ 0 < sp
  · rw [if_pos hc] at hu
    obtain ⟨U, ku, rfl, _, _⟩ := hu.form
    simp only [List.length_cons, List.length_nil]
    have l0 : wa.cell? ⟨y2 + 1, 0, none⟩ = some (.int .i64 x) := bWa.cell 0
    have l1 : wa.cell? ⟨y2 + 1, 1, none⟩ = some (.int .i64 0) := bWa.cell 1
    clear hu
    have hO2 : Outs val2 2 39 wa wa (.slice none 0 0) [] := Outs.start val2 2 39 (Tch.refl _ _)
    go_wp2_with (at_builtin; refine wpList_append _ rfl _ _ 70 rfl rowVals (own_base (hO2.own.alloc _)) (by rfl) (Go.Gk.Src.one (news := val2 (x, 0)) rfl (fun m9 u9 hu9 => by rw [(Blk.new wa 39 #[.int .i64 x, .int .i64 0]).cell m9]; simpa [val2] using hu9)) (by rfl) (by simpa using one_val2 [(x, 0)]) (by unfold maxLen; decide) (by decide) ?_; intro v2 wc ho2 hg2 hl2; have hO3 := hO2.step (x := (x, 0)) (Tch.alloc _ _ _) ho2 hg2 (fun g hg => by simpa using hl2 g hg); obtain ⟨O, co, rfl, _, _⟩ := own_form ho2; have bX0 := bXa.keep hO3.tch id; have x0 : wc.cell? ⟨y1, 0, none⟩ = some (.int .i64 b1) := bX0.cell 0; have x1 : wc.cell? ⟨y1, 1, none⟩ = some (.int .i64 b2) := bX0.cell 1; have x2 : wc.cell? ⟨y1, 2, none⟩ = some (.slice P1 pl.length k1) := bX0.cell 2; have x3 : wc.cell? ⟨y1, 3, none⟩ = some (.slice M1 0 d1) := bX0.cell 3; have x4 : wc.cell? ⟨y1, 4, none⟩ = some (.int .i64 s1) := bX0.cell 4; have x5 : wc.cell? ⟨y1, 5, none⟩ = some (.int .i64 s2) := bX0.cell 5; have x6 : wc.cell? ⟨y1, 6, none⟩ = some (.int .i64 s3) := bX0.cell 6; have x7 : wc.cell? ⟨y1, 7, none⟩ = some (.int .i64 s4) := bX0.cell 7; have x8 : wc.cell? ⟨y1, 8, none⟩ = some (.int .i64 s5) := bX0.cell 8; have x9 : wc.cell? ⟨y1, 9, none⟩ = some (.int .i64 s6) := bX0.cell 9; have x10 : wc.cell? ⟨y1, 10, none⟩ = some (.bool rt) := bX0.cell 10; have x11 : wc.cell? ⟨y1, 11, none⟩ = some (.int .i64 r1) := bX0.cell 11; have x12 : wc.cell? ⟨y1, 12, none⟩ = some (.int .i64 r2) := bX0.cell 12; have x13 : wc.cell? ⟨y1, 13, none⟩ = some (.bool hs) := bX0.cell 13)
    clear l0 l1 hO2 ho2 hg2 hl2
    have tc := hO3.tch
    have hAc := hAa.keep tc id
    have hBc := hBa.keep tc id
    have bXc := bXa.keep tc id
    have bYc := bYa.keep tc id
    have bWc := bWa.keep tc id
    have ttc := tta.trans tc
    have HYc := Lib.hid (fun w' (t : Tch (fun _ => False) wc w') => HYa.out w' (tc.trans t))
    have hsc : y2 + 2 ≤ wc.heap.size := by have := tc.size; omega
    have HEV := Lib.hid (eval_any (u := .slice O 1 co) (ins := [(x, 0)]) (HEa.out wc tc) hO3.row (by intro q hq; simp at hq; subst hq; exact hx) (by simp only; rw [gb]; show I64 0; unfold I64; decide) (by simp only [List.length_nil]; omega) (by simp) (fun _ => scale_ok _ _ _ _))
    have hev := GEV.out
    rw [if_pos hc] at hev
    rw [hev] at HEV
    clear hAa hBa bXa bYa bWa tta hsa HYa HEa hev tc GEV GRD

    refine HEV.out.mono ?_
    rintro _ wd ⟨rfl, td⟩
    clear HEV x0 x1 x2 x3 x4 x5 x6 x7 x8 x9 x10 x11 x12 x13
    have hAd := hAc.keep td id
    have hBd := hBc.keep td id
    have bYd := bYc.keep td id
    have bWd := bWc.keep td id
    have tF := Tch.alloc (fun _ => False) wd (.cells #[.int .i64 (partOf sp x), .int .i64 0] 39)
    have bE := Blk.new wd 39 #[.int .i64 (partOf sp x), .int .i64 0]
    have tdF := td.trans tF
    have hAe := hAd.keep tF id
    have hBe := hBd.keep tF id
    have bYe := bYd.keep tF id
    have bWe := bWd.keep tF id
    have tte := ttc.trans tdF
    have HYe := Lib.hid (fun w' (t : Tch (fun _ => False) (wd.alloc (.cells #[.int .i64 (partOf sp x), .int .i64 0] 39)) w') => HYc.out w' (tdF.trans t))
    have hse : y2 + 2 ≤ wd.heap.size := by have := td.size; omega
    unfold vlV
    simp only
    clear hAc hBc bXc bYc bWc ttc HYc hsc hAd hBd bYd bWd tF tdF td hO3 bX0
    go_wp2_with fail
    generalize wd.alloc _ = we at *
    generalize hy3 : wd.heap.size = y3 at *
    have HRE := Lib.hid (fun w' u (t : Tch (fun _ => False) we w') hu i64 => eval_any (u := u) (ins := [(x, 0), (partOf sp x, 0)]) (HYe.out w' t) hu i64 (by show I64 0; unfold I64; decide) (by simp) (by simp) (fun h => by cases h))
    have g2e : evalOf ⟨(0, 0), [(7, c2, c3, c4, c5, 0)], [(4, c2, c3, c4, c5, 0)], (0, 0, 0, 0, 0, 0), false, (0, 0), false⟩ [(x, 0), (partOf sp x, 0)] = (x - partOf sp x, 0) := G2E.out
    rw [g2e] at HRE
    clear g2e
    have yb0 := within_cell (F := fun _ => False) (show we.cell? ⟨y2, 0, none⟩ = some (.int .i64 0) from bYe.cell 0) id
    have yb1 := within_cell (F := fun _ => False) (show we.cell? ⟨y2, 1, none⟩ = some (.int .i64 0) from bYe.cell 1) id
    have yb2 := within_cell (F := fun _ => False) (show we.cell? ⟨y2, 2, none⟩ = some (.slice P2 1 k2) from bYe.cell 2) id
    have yb3 := within_cell (F := fun _ => False) (show we.cell? ⟨y2, 3, none⟩ = some (.slice M2 1 d2) from bYe.cell 3) id
    have yb4 := within_cell (F := fun _ => False) (show we.cell? ⟨y2, 4, none⟩ = some (.int .i64 0) from bYe.cell 4) id
    have yb5 := within_cell (F := fun _ => False) (show we.cell? ⟨y2, 5, none⟩ = some (.int .i64 0) from bYe.cell 5) id
    have yb6 := within_cell (F := fun _ => False) (show we.cell? ⟨y2, 6, none⟩ = some (.int .i64 0) from bYe.cell 6) id
    have yb7 := within_cell (F := fun _ => False) (show we.cell? ⟨y2, 7, none⟩ = some (.int .i64 0) from bYe.cell 7) id
    have yb8 := within_cell (F := fun _ => False) (show we.cell? ⟨y2, 8, none⟩ = some (.int .i64 0) from bYe.cell 8) id
    have yb9 := within_cell (F := fun _ => False) (show we.cell? ⟨y2, 9, none⟩ = some (.int .i64 0) from bYe.cell 9) id
    have yb10 := within_cell (F := fun _ => False) (show we.cell? ⟨y2, 10, none⟩ = some (.bool false) from bYe.cell 10) id
    have yb11 := within_cell (F := fun _ => False) (show we.cell? ⟨y2, 11, none⟩ = some (.int .i64 0) from bYe.cell 11) id
    have yb12 := within_cell (F := fun _ => False) (show we.cell? ⟨y2, 12, none⟩ = some (.int .i64 0) from bYe.cell 12) id
    have yb13 := within_cell (F := fun _ => False) (show we.cell? ⟨y2, 13, none⟩ = some (.bool false) from bYe.cell 13) id
    have yw0 := within_cell (F := fun _ => False) (show we.cell? ⟨y2 + 1, 0, none⟩ = some (.int .i64 x) from bWe.cell 0) id
    have yw1 := within_cell (F := fun _ => False) (show we.cell? ⟨y2 + 1, 1, none⟩ = some (.int .i64 0) from bWe.cell 1) id
    have ye0 := within_cell (F := fun _ => False) (show we.cell? ⟨y3, 0, none⟩ = some (.int .i64 (partOf sp x)) from bE.cell 0) id
    have ye1 := within_cell (F := fun _ => False) (show we.cell? ⟨y3, 1, none⟩ = some (.int .i64 0) from bE.cell 1) id
    refine wp_region_touch (fun _ => False) [] 6 [(4, .inr fun u w' => ∃ g, u = .slice (some ⟨g, 0, none⟩) 2 2 ∧ w'.ownsRow we.heap.size 39 2 u 2 [.int .i64 x, .int .i64 0, .int .i64 (partOf sp x), .int .i64 0]), (5, .inl (vlV (x - partOf sp x, 0)))] [] (by kernel_rfl) rfl (by kernel_rfl) rfl (fun d _ _ _ _ h => by cases d <;> exact h) ?_ ?_
    · exact ⟨fun u a b hr ⟨g, e, h⟩ => ⟨g, e, hr.own h (fun _ _ => id)⟩, trivial⟩
    intro bef ops hbef hops
    have hbt : (bef.getD 5 0).testBit 4 = true := by rw [hbef]; kernel_rfl
    clear hbef
    subst hops
    simp only [List.take_succ_cons, List.take_zero, List.drop_succ_cons, List.drop_zero]
    iterate 4 (refine t_det (by rfl) (by rfl) (by rfl) (by rfl) (fun K hK => ?_); go_big_quiet_op; (first | refine hK _ ?_ | refine ⟨_, fun _ => rfl, hK _ ?_⟩); clear hK K; (try simp only [Act.put, List.setIfInBounds_toArray, List.set_cons_succ, List.set_cons_zero]))
    refine t_loose (by rfl) (by rfl) (fun w2 hr hf => ?_) (fun uB => ?_)
    · refine yields_of_wp (d := 56) rfl (by simp) (fun K hK => ?_)
      go_step
      refine hK _ _ ⟨⟨⟨_, rfl, ?_⟩, Tch.alloc _ _ _⟩, newAt_no⟩
      simpa using own_blk (size := 2) (Blk.new w2 39 #[.int .i64 x, .int .i64 0, .int .i64 (partOf sp x), .int .i64 0]) ((Tch.drew (fun _ => False) we).trans hr).size (by rfl) (by decide)
    simp only [Act.put, List.setIfInBounds_toArray, List.set_cons_succ, List.set_cons_zero]
    refine t_fix (vlV (x - partOf sp x, 0)) (by rfl) (by rfl) (fun w2 hr hf => ?_) ?_
    · obtain ⟨gB, rfl, hB⟩ := hf _ (List.mem_singleton.2 rfl) hbt
      refine yields_of_wp (d := 57) rfl (by simp) (fun K hK => ?_)
      go_step
      refine (HRE.out w2 _ ((Tch.drew _ we).trans hr) (Row.own hB fun _ _ => trivial) (by intro q hq; simp at hq; rcases hq with rfl | rfl; exact hx; exact GP64.out)).mono ?_
      rintro _ w3 ⟨rfl, t3⟩
      exact hK _ _ ⟨⟨rfl, t3⟩, newAt_no⟩
    simp only [Act.put, List.setIfInBounds_toArray, List.set_cons_succ, List.set_cons_zero]
    refine t_nil ?_
    intro w2 hr hp9 hap
    have t2 := (Tch.drew (fun _ => False) we).trans hr
    have hA2 := hAe.keep t2 id
    have hB2 := hBe.keep t2 id
    have tt2 := tte.trans t2
    have HBN := Lib.hid HBO.out
    clear hap hp9 hr hAe hBe tte t2 yb0 yb1 yb2 yb3 yb4 yb5 yb6 yb7 yb8 yb9 yb10 yb11 yb12 yb13 yw0 yw1 ye0 ye1 hbt HBO
    unfold vlV
    simp only
    go_wp2_with (refine wpList_store_blk rfl _ _ _ rfl (z + 1) #[.int .i64 (partOf sp x), .int .i64 0] (by rfl) (by rfl) hA2 (by kernel_rfl) rfl (by simp [Value.oneCell']) ?_; refine Hid.out ?_)
    refine Lib.hid ?_
    intro wx hA10 ta
    have hB10 := hB2.keep ta (by omega)
    have tt10 := tt2.trans' (F' := fun g => g = z + 1) ta (fun i hi => .inr (by have hi : i = z + 1 := hi; have := HZW.out; omega))
    clear hA2 hB2 tt2 ta
    go_wp2_with (refine wpList_store_blk rfl _ _ _ rfl (z + 1 + 1) #[.int .i64 (x - partOf sp x), .int .i64 0] (by rfl) (by rfl) hB10 (by kernel_rfl) rfl (by simp [Value.oneCell']) ?_; refine Hid.out ?_)
    refine Lib.hid ?_
    intro wy hB11 tb
    have HA := Lib.hid (hA10.keep tb (by omega))
    have HB := Lib.hid hB11
    have TT := Lib.hid (tt10.trans' (F' := fun g => g = z + 1 + 1) tb (fun i hi => .inr (by have hi : i = z + 1 + 1 := hi; have := HZW.out; omega)))
    clear hA10 hB10 tt10 hB11 tb
    go_wp2
    (try simp only [Exit.inBlock, Exit.then])
    (try rw [Exit.noGoto_ret])
    refine bodyPost_ret (results_row_cells (P := Tryz.prog) rfl _ _ (z + 1) (z + 1 + 1) 39 39 _ _ (0, 0) (0, 0) _ rfl HA.out rfl HB.out Tryz.underlying39 rfl (by kernel_rfl) (by kernel_rfl)) rfl ?_
    rw [HBN.out]
    exact ⟨rfl, TT.out⟩
  · rw [if_neg hc] at hu
    obtain ⟨U, ku, rfl, _, _⟩ := hu.form
    simp only [List.length_nil]
    clear hu
    have tc := Tch.refl (fun _ => False) wa
    have hAc := hAa.keep tc id
    have hBc := hBa.keep tc id
    have bXc := bXa.keep tc id
    have bYc := bYa.keep tc id
    have bWc := bWa.keep tc id
    have ttc := tta.trans tc
    have HYc := Lib.hid (fun w' (t : Tch (fun _ => False) wa w') => HYa.out w' (tc.trans t))
    have hsc : y2 + 2 ≤ wa.heap.size := by have := tc.size; omega
    have HEV := Lib.hid (eval_any (u := .slice none 0 0) (ins := []) (HEa.out wa tc) (Row.nil _ _ _) (by intro q hq; cases hq) (by simp only; rw [gb]; show I64 0; unfold I64; decide) (by simp only [List.length_nil]; omega) (by simp) (fun _ => scale_ok _ _ _ _))
    have hev := GEV.out
    rw [if_neg hc] at hev
    rw [hev] at HEV
    have x0 : wa.cell? ⟨y1, 0, none⟩ = some (.int .i64 b1) := bXc.cell 0
    have x1 : wa.cell? ⟨y1, 1, none⟩ = some (.int .i64 b2) := bXc.cell 1
    have x2 : wa.cell? ⟨y1, 2, none⟩ = some (.slice P1 pl.length k1) := bXc.cell 2
    have x3 : wa.cell? ⟨y1, 3, none⟩ = some (.slice M1 0 d1) := bXc.cell 3
    have x4 : wa.cell? ⟨y1, 4, none⟩ = some (.int .i64 s1) := bXc.cell 4
    have x5 : wa.cell? ⟨y1, 5, none⟩ = some (.int .i64 s2) := bXc.cell 5
    have x6 : wa.cell? ⟨y1, 6, none⟩ = some (.int .i64 s3) := bXc.cell 6
    have x7 : wa.cell? ⟨y1, 7, none⟩ = some (.int .i64 s4) := bXc.cell 7
    have x8 : wa.cell? ⟨y1, 8, none⟩ = some (.int .i64 s5) := bXc.cell 8
    have x9 : wa.cell? ⟨y1, 9, none⟩ = some (.int .i64 s6) := bXc.cell 9
    have x10 : wa.cell? ⟨y1, 10, none⟩ = some (.bool rt) := bXc.cell 10
    have x11 : wa.cell? ⟨y1, 11, none⟩ = some (.int .i64 r1) := bXc.cell 11
    have x12 : wa.cell? ⟨y1, 12, none⟩ = some (.int .i64 r2) := bXc.cell 12
    have x13 : wa.cell? ⟨y1, 13, none⟩ = some (.bool hs) := bXc.cell 13
    clear hAa hBa bXa bYa bWa tta hsa HYa HEa hev tc GEV GRD
    go_wp2_with fail
    refine HEV.out.mono ?_
    rintro _ wd ⟨rfl, td⟩
    clear HEV x0 x1 x2 x3 x4 x5 x6 x7 x8 x9 x10 x11 x12 x13
    have hAd := hAc.keep td id
    have hBd := hBc.keep td id
    have bYd := bYc.keep td id
    have bWd := bWc.keep td id
    have tF := Tch.alloc (fun _ => False) wd (.cells #[.int .i64 (partOf sp x), .int .i64 0] 39)
    have bE := Blk.new wd 39 #[.int .i64 (partOf sp x), .int .i64 0]
    have tdF := td.trans tF
    have hAe := hAd.keep tF id
    have hBe := hBd.keep tF id
    have bYe := bYd.keep tF id
    have bWe := bWd.keep tF id
    have tte := ttc.trans tdF
    have HYe := Lib.hid (fun w' (t : Tch (fun _ => False) (wd.alloc (.cells #[.int .i64 (partOf sp x), .int .i64 0] 39)) w') => HYc.out w' (tdF.trans t))
    have hse : y2 + 2 ≤ wd.heap.size := by have := td.size; omega
    unfold vlV
    simp only
    clear hAc hBc bXc bYc bWc ttc HYc hsc hAd hBd bYd bWd tF tdF td 
    go_wp2_with fail
    generalize wd.alloc _ = we at *
    generalize hy3 : wd.heap.size = y3 at *
    have HRE := Lib.hid (fun w' u (t : Tch (fun _ => False) we w') hu i64 => eval_any (u := u) (ins := [(x, 0), (partOf sp x, 0)]) (HYe.out w' t) hu i64 (by show I64 0; unfold I64; decide) (by simp) (by simp) (fun h => by cases h))
    have g2e : evalOf ⟨(0, 0), [(7, c2, c3, c4, c5, 0)], [(4, c2, c3, c4, c5, 0)], (0, 0, 0, 0, 0, 0), false, (0, 0), false⟩ [(x, 0), (partOf sp x, 0)] = (x - partOf sp x, 0) := G2E.out
    rw [g2e] at HRE
    clear g2e
    have yb0 := within_cell (F := fun _ => False) (show we.cell? ⟨y2, 0, none⟩ = some (.int .i64 0) from bYe.cell 0) id
    have yb1 := within_cell (F := fun _ => False) (show we.cell? ⟨y2, 1, none⟩ = some (.int .i64 0) from bYe.cell 1) id
    have yb2 := within_cell (F := fun _ => False) (show we.cell? ⟨y2, 2, none⟩ = some (.slice P2 1 k2) from bYe.cell 2) id
    have yb3 := within_cell (F := fun _ => False) (show we.cell? ⟨y2, 3, none⟩ = some (.slice M2 1 d2) from bYe.cell 3) id
    have yb4 := within_cell (F := fun _ => False) (show we.cell? ⟨y2, 4, none⟩ = some (.int .i64 0) from bYe.cell 4) id
    have yb5 := within_cell (F := fun _ => False) (show we.cell? ⟨y2, 5, none⟩ = some (.int .i64 0) from bYe.cell 5) id
    have yb6 := within_cell (F := fun _ => False) (show we.cell? ⟨y2, 6, none⟩ = some (.int .i64 0) from bYe.cell 6) id
    have yb7 := within_cell (F := fun _ => False) (show we.cell? ⟨y2, 7, none⟩ = some (.int .i64 0) from bYe.cell 7) id
    have yb8 := within_cell (F := fun _ => False) (show we.cell? ⟨y2, 8, none⟩ = some (.int .i64 0) from bYe.cell 8) id
    have yb9 := within_cell (F := fun _ => False) (show we.cell? ⟨y2, 9, none⟩ = some (.int .i64 0) from bYe.cell 9) id
    have yb10 := within_cell (F := fun _ => False) (show we.cell? ⟨y2, 10, none⟩ = some (.bool false) from bYe.cell 10) id
    have yb11 := within_cell (F := fun _ => False) (show we.cell? ⟨y2, 11, none⟩ = some (.int .i64 0) from bYe.cell 11) id
    have yb12 := within_cell (F := fun _ => False) (show we.cell? ⟨y2, 12, none⟩ = some (.int .i64 0) from bYe.cell 12) id
    have yb13 := within_cell (F := fun _ => False) (show we.cell? ⟨y2, 13, none⟩ = some (.bool false) from bYe.cell 13) id
    have yw0 := within_cell (F := fun _ => False) (show we.cell? ⟨y2 + 1, 0, none⟩ = some (.int .i64 x) from bWe.cell 0) id
    have yw1 := within_cell (F := fun _ => False) (show we.cell? ⟨y2 + 1, 1, none⟩ = some (.int .i64 0) from bWe.cell 1) id
    have ye0 := within_cell (F := fun _ => False) (show we.cell? ⟨y3, 0, none⟩ = some (.int .i64 (partOf sp x)) from bE.cell 0) id
    have ye1 := within_cell (F := fun _ => False) (show we.cell? ⟨y3, 1, none⟩ = some (.int .i64 0) from bE.cell 1) id
    refine wp_region_touch (fun _ => False) [] 6 [(4, .inr fun u w' => ∃ g, u = .slice (some ⟨g, 0, none⟩) 2 2 ∧ w'.ownsRow we.heap.size 39 2 u 2 [.int .i64 x, .int .i64 0, .int .i64 (partOf sp x), .int .i64 0]), (5, .inl (vlV (x - partOf sp x, 0)))] [] (by kernel_rfl) rfl (by kernel_rfl) rfl (fun d _ _ _ _ h => by cases d <;> exact h) ?_ ?_
    · exact ⟨fun u a b hr ⟨g, e, h⟩ => ⟨g, e, hr.own h (fun _ _ => id)⟩, trivial⟩
    intro bef ops hbef hops
    have hbt : (bef.getD 5 0).testBit 4 = true := by rw [hbef]; kernel_rfl
    clear hbef
    subst hops
    simp only [List.take_succ_cons, List.take_zero, List.drop_succ_cons, List.drop_zero]
    iterate 4 (refine t_det (by rfl) (by rfl) (by rfl) (by rfl) (fun K hK => ?_); go_big_quiet_op; (first | refine hK _ ?_ | refine ⟨_, fun _ => rfl, hK _ ?_⟩); clear hK K; (try simp only [Act.put, List.setIfInBounds_toArray, List.set_cons_succ, List.set_cons_zero]))
    refine t_loose (by rfl) (by rfl) (fun w2 hr hf => ?_) (fun uB => ?_)
    · refine yields_of_wp (d := 56) rfl (by simp) (fun K hK => ?_)
      go_step
      refine hK _ _ ⟨⟨⟨_, rfl, ?_⟩, Tch.alloc _ _ _⟩, newAt_no⟩
      simpa using own_blk (size := 2) (Blk.new w2 39 #[.int .i64 x, .int .i64 0, .int .i64 (partOf sp x), .int .i64 0]) ((Tch.drew (fun _ => False) we).trans hr).size (by rfl) (by decide)
    simp only [Act.put, List.setIfInBounds_toArray, List.set_cons_succ, List.set_cons_zero]
    refine t_fix (vlV (x - partOf sp x, 0)) (by rfl) (by rfl) (fun w2 hr hf => ?_) ?_
    · obtain ⟨gB, rfl, hB⟩ := hf _ (List.mem_singleton.2 rfl) hbt
      refine yields_of_wp (d := 57) rfl (by simp) (fun K hK => ?_)
      go_step
      refine (HRE.out w2 _ ((Tch.drew _ we).trans hr) (Row.own hB fun _ _ => trivial) (by intro q hq; simp at hq; rcases hq with rfl | rfl; exact hx; exact GP64.out)).mono ?_
      rintro _ w3 ⟨rfl, t3⟩
      exact hK _ _ ⟨⟨rfl, t3⟩, newAt_no⟩
    simp only [Act.put, List.setIfInBounds_toArray, List.set_cons_succ, List.set_cons_zero]
    refine t_nil ?_
    intro w2 hr hp9 hap
    have t2 := (Tch.drew (fun _ => False) we).trans hr
    have hA2 := hAe.keep t2 id
    have hB2 := hBe.keep t2 id
    have tt2 := tte.trans t2
    have HBN := Lib.hid HBO.out
    clear hap hp9 hr hAe hBe tte t2 yb0 yb1 yb2 yb3 yb4 yb5 yb6 yb7 yb8 yb9 yb10 yb11 yb12 yb13 yw0 yw1 ye0 ye1 hbt HBO
    unfold vlV
    simp only
    go_wp2_with (refine wpList_store_blk rfl _ _ _ rfl (z + 1) #[.int .i64 (partOf sp x), .int .i64 0] (by rfl) (by rfl) hA2 (by kernel_rfl) rfl (by simp [Value.oneCell']) ?_; refine Hid.out ?_)
    refine Lib.hid ?_
    intro wx hA10 ta
    have hB10 := hB2.keep ta (by omega)
    have tt10 := tt2.trans' (F' := fun g => g = z + 1) ta (fun i hi => .inr (by have hi : i = z + 1 := hi; have := HZW.out; omega))
    clear hA2 hB2 tt2 ta
    go_wp2_with (refine wpList_store_blk rfl _ _ _ rfl (z + 1 + 1) #[.int .i64 (x - partOf sp x), .int .i64 0] (by rfl) (by rfl) hB10 (by kernel_rfl) rfl (by simp [Value.oneCell']) ?_; refine Hid.out ?_)
    refine Lib.hid ?_
    intro wy hB11 tb
    have HA := Lib.hid (hA10.keep tb (by omega))
    have HB := Lib.hid hB11
    have TT := Lib.hid (tt10.trans' (F' := fun g => g = z + 1 + 1) tb (fun i hi => .inr (by have hi : i = z + 1 + 1 := hi; have := HZW.out; omega)))
    clear hA10 hB10 tt10 hB11 tb
    go_wp2
    (try simp only [Exit.inBlock, Exit.then])
    (try rw [Exit.noGoto_ret])
    refine bodyPost_ret (results_row_cells (P := Tryz.prog) rfl _ _ (z + 1) (z + 1 + 1) 39 39 _ _ (0, 0) (0, 0) _ rfl HA.out rfl HB.out Tryz.underlying39 rfl (by kernel_rfl) (by kernel_rfl)) rfl ?_
    rw [HBN.out]
    exact ⟨rfl, TT.out⟩
end
end Go.Proofs.YtifdnhghjgklkaaGreat
