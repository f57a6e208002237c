/-
  Plain: what parents have, and what others have.
-/
import Derived.Test.YtifdnhghjgklkaaGreatZ9
import Derived.Test.YtifdnhghjgklkaaGreatZ14
import Derived.Test.YtifdnhghjgklkaaGreatZ20
import Derived.Test.YtifdnhghjgklkaaGreatZ12
namespace Go.Gk
theorem may_facts {b : Bks} {c : Rt6} {lo hi : Int} (h : mayOf b c lo hi = 0) : (lo ≤ c.1 ∧ c.1 ≤ hi) ∧ (0 ≤ c.2.2.2.1 ∧ c.2.2.2.1 ≤ 23) ∧ (1 ≤ c.2.1 ∧ c.2.1 ≤ b.ents.length) ∧ accLeaf b.accs c.2.2.1 = true := by
  unfold mayOf at h
  by_cases h0 : cellIn c b.ents.length b.accs.length = 0
  · rw [if_pos h0] at h
    by_cases h1 : c.1 < lo ∨ hi < c.1
    · rw [if_pos h1] at h; cases h
    · rw [if_neg h1] at h
      by_cases hl : accLeaf b.accs c.2.2.1 = true
      · unfold cellIn at h0
        by_cases hc : cellOK c = true
        · rw [if_pos hc] at h0
          by_cases h2 : (b.ents.length : Int) < max c.2.1 c.2.2.2.2.2
          · rw [if_pos h2] at h0; cases h0
          · unfold cellOK at hc
            simp only [Bool.and_eq_true, wi, decide_eq_true_eq] at hc
            refine ⟨by omega, by omega, ⟨by omega, by omega⟩, hl⟩
        · rw [if_neg hc] at h0; cases h0
      · rw [if_neg hl] at h; cases h
  · rw [if_neg h0] at h; exact absurd h h0
theorem accIs_at {l : List Acc} {a : Int} (h : accLeaf l a = true) : ∃ k : Nat, ∃ hk : k < l.length, a = (k : Int) + 1 ∧ l[(a - 1).toNat]? = some l[k] := by
  unfold accLeaf accIs at h
  simp only [Bool.and_eq_true, decide_eq_true_eq] at h
  refine ⟨(a - 1).toNat, by omega, by omega, List.getElem?_eq_getElem (by omega)⟩
/-- The share by which an entity is held. -/
def shareAt (b : Bks) (x p : Int) : Int := if 1 ≤ x ∧ x ≤ b.ents.length then stkShare b.stakes x p else 0
def parentAt (b : Bks) (x p : Int) : Int := if 1 ≤ x ∧ x ≤ b.ents.length then stkUp b.stakes x p else 0
def accSplit (b : Bks) (a : Int) : Bool := ((b.accs[(a - 1).toNat]?).map (·.2.2.1)).getD false
def splitPart (b : Bks) (c : Rt6) : Int := if accSplit b c.2.2.1 then shareAt b c.2.1 c.2.2.2.1 else 10000
def splitRcp (c : Rt6) (s : Int) : Rcp :=
  if c.1 = 5 then { Rcp.none with plus := [(7, c.2)], minus := [(4, c.2)] }
  else if s = 10000 then { Rcp.none with plus := [(7, c.2)] }
  else if 0 < s then { Rcp.none with scaled := (7, c.2), rated := true, ratio := (s, 10000), has := true } else Rcp.none
def splitOf (b : Bks) (c : Rt6) : Rcp × Int := if mayOf b c 4 5 = 0 then (splitRcp c (splitPart b c), 0) else (Rcp.none, mayOf b c 4 5)
theorem ok_stakes {b : Bks} (h : booksOK b = true) : b.ents.length ≤ 40 ∧ b.stakes.length ≤ 400 ∧ stakesOK b.stakes b.ents.length = true := by
  unfold booksOK at h
  simp only [Bool.and_eq_true] at h
  have h1 := h.1.1.1.1.1
  have h2 := h.1.1.1.2
  unfold entsOK at h1
  simp only [Bool.and_eq_true, decide_eq_true_eq] at h1
  refine ⟨h1.1, ?_, h2⟩
  unfold stakesOK at h2
  simp only [Bool.and_eq_true, decide_eq_true_eq] at h2
  exact h2.1
end Go.Gk

/-
  Views: accounts, forests; who holds an entity, and by what share.
-/
namespace Go.Gk
open Go.RowKit
theorem holds_n (l : List Stk4) (n p : Int) (k : Nat) : (holdsCells l n p k).toArray[0]? = some (.int .i64 n) := rfl
theorem holds_up (l : List Stk4) (n p : Int) {k i : Nat} (h1 : 1 ≤ i) (h2 : i ≤ k) (h40 : i ≤ 40) : (holdsCells l n p k).toArray[1 + i * 2]? = some (.int .i64 (stkUp l i p)) := by
  rw [List.getElem?_toArray]
  unfold holdsCells
  have h9 := hold_at l p k (i := i) (j := 0) (by omega) (by omega)
  rw [Nat.add_zero] at h9
  rw [show 1 + i * 2 = i * 2 + 1 by omega, List.getElem?_cons_succ, h9]
  unfold holdF
  rw [if_pos ⟨h1, h2⟩]; rfl
theorem holds_share (l : List Stk4) (n p : Int) {k i : Nat} (h1 : 1 ≤ i) (h2 : i ≤ k) (h40 : i ≤ 40) : (holdsCells l n p k).toArray[1 + i * 2 + 1]? = some (.int .i64 (stkShare l i p)) := by
  rw [List.getElem?_toArray]
  unfold holdsCells
  rw [show 1 + i * 2 + 1 = (i * 2 + 1) + 1 by omega, List.getElem?_cons_succ, hold_at l p k (by omega) (by omega)]
  unfold holdF
  rw [if_pos ⟨h1, h2⟩]; rfl
end Go.Gk
namespace Go.Proofs.YtifdnhghjgklkaaGreat
open Go.RowKit Go.Gk

section
variable {w : World} {g n : Nat} {l : List Stk4} {p : Int}

set_option maxRecDepth 100000 in
set_option maxHeartbeats 800000 in
theorem fis_any (h : Blk w g 114 (holdsCells l n p n).toArray) (x : Int) :
    Calls Tryz.prog 54 #[.pointer (some ⟨g, 0, none⟩), .int .i64 x] w fun e w' => e = .returned (.bool (decide (1 ≤ x ∧ x ≤ n))) ∧ w = w' := by
  have q0 : w.cell? ⟨g, 0, none⟩ = some (.int .i64 n) := by rw [h.cell 0]; exact holds_n _ _ _ _
  clear h
  by_cases h1 : 1 ≤ x
  · by_cases h2 : x ≤ n
    · rw [decide_eq_true ⟨h1, h2⟩]
      go_enter Tryz.func54, Tryz.ntmps54
      go_wp2
      go_ret
      exact ⟨rfl, rfl⟩
    · rw [decide_eq_false (fun h => h2 h.2)]
      go_enter Tryz.func54, Tryz.ntmps54
      go_wp2
      go_ret
      exact ⟨rfl, rfl⟩
  · rw [decide_eq_false (fun h => h1 h.1)]
    go_enter Tryz.func54, Tryz.ntmps54
    go_wp2
    go_ret
    exact ⟨rfl, rfl⟩

set_option maxRecDepth 100000 in
set_option maxHeartbeats 800000 in
theorem fshare_any (h : Blk w g 114 (holdsCells l n p n).toArray) (h40 : n ≤ 40) (x : Int) :
    Calls Tryz.prog 32 #[.pointer (some ⟨g, 0, none⟩), .int .i64 x] w fun e w' => e = .returned (.int .i64 (if 1 ≤ x ∧ x ≤ n then stkShare l x p else 0)) ∧ w = w' := by
  have HI := Lib.hid (fis_any h x)
  by_cases hin : 1 ≤ x ∧ x ≤ n
  · rw [decide_eq_true hin] at HI
    rw [if_pos hin]
    obtain ⟨k, rfl⟩ : ∃ k : Nat, x = (k : Int) := ⟨x.toNat, by omega⟩
    have hk0 : (0 : Int) ≤ (k : Int) := Int.natCast_nonneg _
    have hk1 : (k : Int) < 41 := by omega
    have hk2 : k < 41 := by omega
    have q0 : w.cell? ⟨g, 1 + k * 2 + 1, none⟩ = some (.int .i64 (stkShare l k p)) := by rw [h.cell _]; exact holds_share _ _ _ (by omega) (by omega) (by omega)
    generalize stkShare l k p = s at *
    clear h hin
    go_enter Tryz.func32, Tryz.ntmps32
    go_wp2_with fail
    refine HI.out.mono ?_
    rintro _ _ ⟨rfl, rfl⟩
    clear HI
    go_wp2
    go_ret
    exact ⟨rfl, rfl⟩
  · rw [decide_eq_false hin] at HI
    rw [if_neg hin]
    go_enter Tryz.func32, Tryz.ntmps32
    go_wp2_with fail
    refine HI.out.mono ?_
    rintro _ _ ⟨rfl, rfl⟩
    go_wp2
    go_ret
    exact ⟨rfl, rfl⟩

set_option maxRecDepth 100000 in
set_option maxHeartbeats 800000 in
theorem fparent_any (h : Blk w g 114 (holdsCells l n p n).toArray) (h40 : n ≤ 40) (x : Int) :
    Calls Tryz.prog 20 #[.pointer (some ⟨g, 0, none⟩), .int .i64 x] w fun e w' => e = .returned (.int .i64 (if 1 ≤ x ∧ x ≤ n then stkUp l x p else 0)) ∧ w = w' := by
  have HI := Lib.hid (fis_any h x)
  by_cases hin : 1 ≤ x ∧ x ≤ n
  · rw [decide_eq_true hin] at HI
    rw [if_pos hin]
    obtain ⟨k, rfl⟩ : ∃ k : Nat, x = (k : Int) := ⟨x.toNat, by omega⟩
    have hk0 : (0 : Int) ≤ (k : Int) := Int.natCast_nonneg _
    have hk1 : (k : Int) < 41 := by omega
    have hk2 : k < 41 := by omega
    have q0 : w.cell? ⟨g, 1 + k * 2, none⟩ = some (.int .i64 (stkUp l k p)) := by rw [h.cell _]; exact holds_up _ _ _ (by omega) (by omega) (by omega)
    generalize stkUp l k p = s at *
    clear h hin
    go_enter Tryz.func20, Tryz.ntmps20
    go_wp2_with fail
    refine HI.out.mono ?_
    rintro _ _ ⟨rfl, rfl⟩
    clear HI
    go_wp2
    go_ret
    exact ⟨rfl, rfl⟩
  · rw [decide_eq_false hin] at HI
    rw [if_neg hin]
    go_enter Tryz.func20, Tryz.ntmps20
    go_wp2_with fail
    refine HI.out.mono ?_
    rintro _ _ ⟨rfl, rfl⟩
    go_wp2
    go_ret
    exact ⟨rfl, rfl⟩
end

section
variable {w : World} {bv bi B t mr mp : Nat} {e a s r l n lv : Value} {fs : List Value} {b : Bks} {us : List (Ent × Value)}

set_option maxRecDepth 100000 in
set_option maxHeartbeats 800000 in
theorem vwaccounts_any (h : Vw w bv bi B t mr mp e a s r l n lv fs b us) :
    Calls Tryz.prog 55 #[.pointer (some ⟨bv, 0, none⟩)] w fun x w' => x = .returned (.int .i64 b.accs.length) ∧ w = w' := by
  have hM := vwmade_any h
  obtain ⟨Aa, ca, rfl, _, _⟩ := h.bks.accs.form
  have v0 : w.cell? ⟨bv, 0, none⟩ = some _ := h.view.cell 0
  have v2 : w.cell? ⟨bi, 2, none⟩ = some (.slice Aa b.accs.length ca) := h.seen.cell 2
  go_enter Tryz.func55, Tryz.ntmps55
  go_wp2_with fail
  refine hM.mono ?_
  rintro _ _ ⟨rfl, rfl⟩
  clear hM
  go_wp2
  go_ret
  exact ⟨rfl, rfl⟩

set_option maxRecDepth 100000 in
set_option maxHeartbeats 1600000 in
theorem vwaccount_any (h : Vw w bv bi B t mr mp e a s r l n lv fs b us) {k : Nat} (hk : k < b.accs.length) (x : Int) (hx : x = (k : Int) + 1) :
    Calls Tryz.prog 21 #[.pointer (some ⟨bv, 0, none⟩), .int .i64 x] w fun y w' => y = .returned (.tuple #[.agg (acc4 b.accs[k]).toArray, .bool true]) ∧ Tch (fun _ => False) w w' := by
  subst hx
  have tw := Tch.alloc (fun _ => False) w (.cells #[.int .i64 0, .int .i64 0, .bool false, .bool false] 64)
  have bA := Blk.new w 64 #[.int .i64 0, .int .i64 0, .bool false, .bool false]
  have h1 := h.keep tw
  have HA := Lib.hid (vwaccounts_any h1)
  have hacc := h1.bks.accs
  obtain ⟨Aa, ca, rfl, hm1, hm2⟩ := h.bks.accs.form
  obtain ⟨g, o, rfl⟩ := hacc.head (by omega)
  obtain ⟨q0, q1, q2, q3⟩ := Row.four hacc acc4_len hk rfl
  have v0 : (w.alloc (.cells #[.int .i64 0, .int .i64 0, .bool false, .bool false] 64)).cell? ⟨bv, 0, none⟩ = some _ := h1.view.cell 0
  have v2 : (w.alloc (.cells #[.int .i64 0, .int .i64 0, .bool false, .bool false] 64)).cell? ⟨bi, 2, none⟩ = some (.slice (some ⟨g, o, none⟩) b.accs.length ca) := h1.seen.cell 2
  have hk' : (k : Int) < (b.accs.length : Int) := by omega
  have hk0 : (0 : Int) ≤ (k : Int) := Int.natCast_nonneg _
  generalize b.accs[k] = y at *
  obtain ⟨y1, y2, y3, y4⟩ := y
  unfold acc4
  simp only at q0 q1 q2 q3 ⊢
  clear h h1 hacc
  go_enter Tryz.func21, Tryz.ntmps21
  go_wp2_with fail
  generalize w.alloc _ = W at *
  generalize hzw : w.heap.size = z at *
  have HZW := Lib.hid hzw
  clear hzw
  refine HA.out.mono ?_
  rintro _ _ ⟨rfl, rfl⟩
  clear HA
  go_wp2_with (refine wpList_store_blk rfl _ _ _ rfl z #[.int .i64 y1, .int .i64 y2, .bool y3, .bool y4] (by rfl) (by rfl) bA (by kernel_rfl) rfl (by simp [Value.oneCell']) ?_; refine Hid.out ?_)
  refine Lib.hid ?_
  intro w9 hF tF
  have HBF := Lib.hid hF
  have HTF := Lib.hid tF
  clear hF tF bA v0 v2 q0 q1 q2 q3
  go_wp2
  (try simp only [Exit.inBlock, Exit.then])
  (try rw [Exit.noGoto_ret])
  refine bodyPost_ret (results_row_tmp (P := Tryz.prog) rfl _ _ z 64 _ (0, 0) _ rfl HBF.out Tryz.underlying64 rfl (by kernel_rfl)) rfl ?_
  exact ⟨rfl, tw.trans' (F' := fun g => g = z) HTF.out (fun i hi => .inr (by have hi : i = z := hi; have := HZW.out; omega))⟩

set_option maxRecDepth 100000 in
set_option maxHeartbeats 1600000 in
theorem vwforest_at (h : Vw w bv bi B t mr mp e a s r l n lv fs b us) {p g : Nat} (hp : p < 24) (hg : fs[p]? = some (.pointer (some ⟨g, 0, none⟩))) :
    Calls Tryz.prog 18 #[.pointer (some ⟨bv, 0, none⟩), .int .i64 p] w fun x w' => x = .returned (.pointer (some ⟨g, 0, none⟩)) ∧ w = w' := by
  have hM := vwmade_any h
  have v0 : w.cell? ⟨bv, 0, none⟩ = some _ := h.view.cell 0
  have v8 : w.cell? ⟨bi, 8 + p, none⟩ = some (.pointer (some ⟨g, 0, none⟩)) := by
    rw [h.seen.cell (8 + p), List.getElem?_toArray]
    unfold seenL
    rw [List.getElem?_append_right (by simp)]
    simpa using hg
  have hp' : (p : Int) < 24 := by omega
  have hp0 : (0 : Int) ≤ (p : Int) := Int.natCast_nonneg _
  clear h hg
  go_enter Tryz.func18, Tryz.ntmps18
  go_wp2_with fail
  refine hM.mono ?_
  rintro _ _ ⟨rfl, rfl⟩
  clear hM
  go_wp2
  go_ret
  exact ⟨rfl, rfl⟩
end
end Go.Proofs.YtifdnhghjgklkaaGreat

/-
  A value of some cells stored into the midst of a block that is known whole.
-/
namespace Go.Gk
open Go.RowKit
theorem setCells_blk {g : Nat} {t : TypeId} : ∀ (vs : List Value) (o : Nat) (w : World) (pre mid suf : List Value), mid.length = vs.length → pre.length = o → Blk w g t (pre ++ mid ++ suf).toArray → Blk (w.setCells g o vs) g t (pre ++ vs ++ suf).toArray
  | [], o, w, pre, mid, suf, h1, _, h => by
    obtain rfl : mid = [] := List.eq_nil_of_length_eq_zero h1
    exact h
  | v :: r, o, w, pre, mid, suf, h1, h2, h => by
    match mid, h1 with
    | m :: mid, h1 =>
      have h3 := h.set_ o v
      have e : (pre ++ m :: mid ++ suf).set o v = (pre ++ [v]) ++ mid ++ suf := by
        subst h2
        rw [List.append_assoc, List.set_append_right _ _ (Nat.le_refl _), Nat.sub_self]
        simp
      rw [List.setIfInBounds_toArray, e] at h3
      have := setCells_blk r (o + 1) _ (pre ++ [v]) mid suf (by simpa using h1) (by simp [h2]) h3
      simpa [World.setCells] using this
theorem Tch.setCells (g : Nat) : ∀ (vs : List Value) (o : Nat) (w : World), Tch (fun k => k = g) w (w.setCells g o vs)
  | [], _, w => Tch.refl _ w
  | v :: r, o, w => (Tch.setCell (F := fun k => k = g) w (p := ⟨g, o, none⟩) (.inl rfl) v).trans (Tch.setCells g r (o + 1) _)
section
variable {P : Program} {ops : Array Oper} {rest : List Oper} {op : Oper} {a : Act} {w : World} {Q : Exit → Act → World → Prop}
theorem wpList_store_part (hgd : op.guard = none) (ty : TypeId) (x y : Operand) (ho : op.op = .store ty x y) (b : Nat) (pre mid vs suf : List Value) (hx : a.eval x = .pointer (some ⟨b, pre.length, none⟩)) (hy : a.eval y = .agg vs.toArray) (h1 : vs.toArray.all (·.oneCell') = true) (hi : (P.info? ty).map (·.size) = some vs.length) (hm : mid.length = vs.length)
    {t : TypeId} (hb : Blk w b t (pre ++ mid ++ suf).toArray) (h : ∀ W, Blk W b t (pre ++ vs ++ suf).toArray → Tch (fun g => g = b) w W → wpList P ops Q rest (a.put op.dst undef) W) : wpList P ops Q (op :: rest) a w := by
  refine wpList_store_mid hgd ty x y ho b pre.length vs.toArray hx hy (fun j hj => ⟨?_, hb.frozen _⟩) (by rw [hi]; simp) h1 ?_
  · have hj : j < vs.length := by simpa using hj
    have hc := hb.cell (pre.length + j)
    rw [List.getElem?_toArray, List.append_assoc, List.getElem?_append_right (by omega), Nat.add_sub_cancel_left, List.getElem?_append_left (by omega), List.getElem?_eq_getElem (by omega)] at hc
    rw [hc]; rfl
  · exact h _ (setCells_blk vs _ w pre mid suf hm rfl hb) (Tch.setCells b vs _ w)
end
end Go.Gk

/-
  What parents and others have: keys that may be, shares.
-/
namespace Go.Proofs.YtifdnhghjgklkaaGreat
open Go.RowKit Go.Gk

section
variable {w : World} {bv bi B t mr mp : Nat} {e a s r l n lv : Value} {fs : List Value} {b : Bks} {us : List (Ent × Value)}

set_option maxRecDepth 100000 in
set_option maxHeartbeats 1600000 in
theorem splitmay_any (h : Vw w bv bi B t mr mp e a s r l n lv fs b us) (hn : (accLeaves b.accs).length ≤ 1000) (c : Rt6) :
    Calls Tryz.prog 119 #[.pointer (some ⟨bv, 0, none⟩), cellV c] w fun x w' => x = .returned (.int .i64 (mayOf b c 4 5)) ∧ Tch (fun _ => False) w w' := by
  obtain ⟨c1, c2, c3, c4, c5, c6⟩ := c
  have tw := Tch.alloc (fun _ => False) w (.cells #[.int .i64 c1, .int .i64 c2, .int .i64 c3, .int .i64 c4, .int .i64 c5, .int .i64 c6] 31)
  have hb := Blk.new w 31 #[.int .i64 c1, .int .i64 c2, .int .i64 c3, .int .i64 c4, .int .i64 c5, .int .i64 c6]
  have h1 := h.keep tw
  have HM := Lib.hid (vwmay_any h1 (c1, c2, c3, c4, c5, c6))
  have HL := Lib.hid (fun w' (tc : Tch (fun _ => False) (w.alloc (.cells #[.int .i64 c1, .int .i64 c2, .int .i64 c3, .int .i64 c4, .int .i64 c5, .int .i64 c6] 31)) w') => vwleaf_any (h1.keep tc) hn c3)
  rw [leaf_contains] at HL
  obtain ⟨m, hm⟩ : ∃ m, mayOf b (c1, c2, c3, c4, c5, c6) 4 5 = m := ⟨_, rfl⟩
  rw [hm]
  unfold mayOf at hm
  simp only at hm
  generalize cellIn (c1, c2, c3, c4, c5, c6) b.ents.length b.accs.length = k at *
  generalize accLeaf b.accs c3 = lf at *
  have HMM := Lib.hid hm
  unfold cellV at HM ⊢
  simp only at HM ⊢
  clear hm h h1
  go_enter Tryz.func119, Tryz.ntmps119
  go_wp2_with fail
  generalize w.alloc (.cells #[.int .i64 c1, .int .i64 c2, .int .i64 c3, .int .i64 c4, .int .i64 c5, .int .i64 c6] 31) = W at *
  generalize w.heap.size = z at *
  refine HM.out.mono ?_
  rintro _ w1 ⟨rfl, t1⟩
  clear HM
  have tt := tw.trans t1
  by_cases hk : k = 0
  rotate_left
  · have hk' : (k != 0) = true := by simpa using hk
    obtain rfl : m = k := by rw [← HMM.out, if_neg hk]
    clear HMM
    go_wp2
    go_ret
    exact ⟨rfl, tt⟩
  subst hk
  have q0 : w1.cell? ⟨z, 0, none⟩ = some _ := (hb.keep t1 id).cell 0
  have q2 : w1.cell? ⟨z, 2, none⟩ = some _ := (hb.keep t1 id).cell 2
  simp at q0 q2
  by_cases hr : c1 = 4 ∨ c1 = 5
  rotate_left
  · obtain rfl : m = 25 := by rw [← HMM.out, if_pos rfl, if_pos (by omega)]
    have h1 : (c1 != 4) = true := by simp; omega
    have h2 : (c1 != 5) = true := by simp; omega
    clear HMM hr
    go_wp2
    go_ret
    exact ⟨rfl, tt⟩
  have HMM := Lib.hid (show (if lf = true then (0 : Int) else 27) = m by
    have h9 := HMM.out
    rw [if_pos rfl, if_neg (show ¬ (c1 < 4 ∨ 5 < c1) by omega)] at h9
    exact h9)
  rcases hr with rfl | rfl
  all_goals
    go_wp2_with fail
    refine (HL.out w1 t1).mono ?_
    rintro _ w2 ⟨rfl, t2⟩
    clear HL q0 q2
    cases lf
    · obtain rfl : m = 27 := by rw [← HMM.out]; rfl
      go_wp2
      go_ret
      exact ⟨rfl, tt.trans t2⟩
    · obtain rfl : m = 0 := by rw [← HMM.out]; rfl
      go_wp2
      go_ret
      exact ⟨rfl, tt.trans t2⟩

set_option maxRecDepth 100000 in
set_option maxHeartbeats 1600000 in
theorem splitshare_any (h : Vw w bv bi B t mr mp e a s r l n lv fs b us) (h40 : b.ents.length ≤ 40) (c1 c2 c3 c4 c5 c6 : Int) (hl : accLeaf b.accs c3 = true) (hp0 : 0 ≤ c4) (hp1 : c4 ≤ 23) :
    Calls Tryz.prog 121 #[.pointer (some ⟨bv, 0, none⟩), .agg #[.int .i64 c1, .int .i64 c2, .int .i64 c3, .int .i64 c4, .int .i64 c5, .int .i64 c6]] w fun x w' => x = .returned (.int .i64 (splitPart b (c1, c2, c3, c4, c5, c6))) ∧ Tch (fun _ => False) w w' := by
  have tw := Tch.alloc (fun _ => False) w (.cells #[.int .i64 c1, .int .i64 c2, .int .i64 c3, .int .i64 c4, .int .i64 c5, .int .i64 c6] 31)
  have hb := Blk.new w 31 #[.int .i64 c1, .int .i64 c2, .int .i64 c3, .int .i64 c4, .int .i64 c5, .int .i64 c6]
  obtain ⟨k, hk, hc3, hat⟩ := accIs_at hl
  obtain ⟨p, rfl⟩ : ∃ p : Nat, c4 = (p : Int) := ⟨c4.toNat, by omega⟩
  have hp : p < 24 := by omega
  obtain ⟨g, hg, hF⟩ := h.forests p hp
  have HACC := Lib.hid (vwaccount_any (h.keep tw) hk c3 hc3)
  have HFO := Lib.hid (fun w' (t : Tch (fun _ => False) w w') => vwforest_at (h.keep t) hp hg)
  have HSH := Lib.hid (fun w' (t : Tch (fun _ => False) w w') => fshare_any (hF.keep t id) h40 c2)
  obtain ⟨R, hR⟩ : ∃ R, splitPart b (c1, c2, c3, (p : Int), c5, c6) = R := ⟨_, rfl⟩
  rw [hR]
  unfold splitPart accSplit at hR
  simp only at hR
  rw [hat] at hR
  simp only [Option.map_some, Option.getD_some] at hR
  have HR := Lib.hid (show (if b.accs[k].2.2.1 = true then (if 1 ≤ c2 ∧ c2 ≤ b.ents.length then stkShare b.stakes c2 p else 0) else 10000) = R from hR)
  generalize b.accs[k] = y at *
  obtain ⟨y1, y2, y3, y4⟩ := y
  unfold acc4 at HACC
  simp only at HACC HR
  generalize (if 1 ≤ c2 ∧ c2 ≤ (b.ents.length : Int) then stkShare b.stakes c2 p else 0) = S at *
  clear h hR hat hc3 hk hF hg hl h40
  go_enter Tryz.func121, Tryz.ntmps121
  go_wp2_with fail
  generalize w.alloc _ = W at *
  generalize w.heap.size = z at *
  refine HACC.out.mono ?_
  rintro _ w1 ⟨rfl, t1⟩
  clear HACC
  have tb := Tch.alloc (fun _ => False) w1 (.cells #[.int .i64 y1, .int .i64 y2, .bool y3, .bool y4] 64)
  have b1 := (hb.keep t1 id).keep tb id
  have bA := Blk.new w1 64 #[.int .i64 y1, .int .i64 y2, .bool y3, .bool y4]
  have tt := (tw.trans t1).trans tb
  clear hb tw tb
  cases y3
  · obtain rfl : (10000 : Int) = R := HR.out
    clear HR HFO HSH
    go_wp2
    go_ret
    exact ⟨rfl, tt⟩
  · obtain rfl : S = R := HR.out
    clear HR
    go_wp2_with fail
    generalize w1.alloc _ = W1 at *
    generalize w1.heap.size = z1 at *
    have y0 := within_cell (F := fun _ => False) (show W1.cell? ⟨z, 3, none⟩ = some (.int .i64 p) from b1.cell 3) id
    have y1 := within_cell (F := fun _ => False) (show W1.cell? ⟨z, 1, none⟩ = some (.int .i64 c2) from b1.cell 1) id
    refine wp_region_touch (fun _ => False) [] 6 [(3, .inl (.pointer (some ⟨g, 0, none⟩)))] [] (by kernel_rfl) rfl (by kernel_rfl) rfl (fun d _ _ _ _ h => by cases d <;> exact h) ?_ ?_
    · exact trivial
    (intro bef ops hbef hops; clear hbef; subst hops; simp only [List.take_succ_cons, List.take_zero, List.drop_succ_cons, List.drop_zero])
    iterate 3 (refine t_det (by rfl) (by rfl) (by rfl) (by rfl) (fun K hK => ?_); go_big_quiet_op; (first | refine hK _ ?_ | refine ⟨_, fun _ => rfl, hK _ ?_⟩); clear hK K; (try simp only [Act.put, List.setIfInBounds_toArray, List.set_cons_succ, List.set_cons_zero]))
    refine t_fix (.pointer (some ⟨g, 0, none⟩)) (by rfl) (by rfl) (fun w2 hr hf => ?_) ?_
    · refine yields_of_wp (d := 20) rfl (by simp) (fun K hK => ?_)
      go_step
      refine (HFO.out w2 (tt.trans ((Tch.drew _ W1).trans hr))).mono ?_
      rintro _ _ ⟨rfl, rfl⟩
      exact hK _ _ ⟨⟨rfl, Tch.refl _ _⟩, newAt_no⟩
    simp only [Act.put, List.setIfInBounds_toArray, List.set_cons_succ, List.set_cons_zero]
    iterate 2 (refine t_det (by rfl) (by rfl) (by rfl) (by rfl) (fun K hK => ?_); go_big_quiet_op; (first | refine hK _ ?_ | refine ⟨_, fun _ => rfl, hK _ ?_⟩); clear hK K; (try simp only [Act.put, List.setIfInBounds_toArray, List.set_cons_succ, List.set_cons_zero]))
    refine t_nil ?_
    intro w2 hr hp1 hap
    have t2 := tt.trans ((Tch.drew _ W1).trans hr)
    clear hap hp1 hr y0 y1 HFO b1 bA
    go_wp2_with fail
    refine (HSH.out w2 t2).mono ?_
    rintro _ _ ⟨rfl, rfl⟩
    go_wp2
    go_ret
    exact ⟨rfl, t2⟩
end

set_option maxRecDepth 100000 in
set_option maxHeartbeats 800000 in
theorem splitwith_any (c1 c2 c3 c4 c5 c6 rl : Int) {w : World} {g : Nat} (hb : Blk w g 31 #[.int .i64 c1, .int .i64 c2, .int .i64 c3, .int .i64 c4, .int .i64 c5, .int .i64 c6]) :
    Calls Tryz.prog 120 #[.int .i64 rl, .pointer (some ⟨g, 0, none⟩)] w fun x w' => x = .returned (.agg #[.int .i64 rl, .int .i64 c2, .int .i64 c3, .int .i64 c4, .int .i64 c5, .int .i64 c6]) ∧ Tch (fun _ => False) w w' := by
  have ta := Tch.alloc (fun _ => False) w (.cells #[.int .i64 0, .int .i64 0, .int .i64 0, .int .i64 0, .int .i64 0, .int .i64 0] 31)
  have hb1 := hb.keep ta id
  have q0 := hb1.cell 0
  have q1 := hb1.cell 1
  have q2 := hb1.cell 2
  have q3 := hb1.cell 3
  have q4 := hb1.cell 4
  have q5 := hb1.cell 5
  simp at q0 q1 q2 q3 q4 q5
  clear hb1
  go_enter Tryz.func120, Tryz.ntmps120
  go_wp2
  refine bodyPost_ret (results_cell_row (P := Tryz.prog) rfl _ _ (w.heap.size) 31 _ (0, 0) _ rfl ((Blk.new w 31 _).alloc _) Tryz.underlying31 rfl (by kernel_rfl)) rfl ?_
  exact ⟨rfl, (Tch.alloc _ _ _).trans (Tch.alloc _ _ _)⟩
end Go.Proofs.YtifdnhghjgklkaaGreat

/-
  What parents and others have: recipes, made.
-/
namespace Go.Proofs.YtifdnhghjgklkaaGreat
open Go.RowKit Go.Gk

section
variable {w : World} {bv bi B t mr mp : Nat} {e a s r l n lv : Value} {fs : List Value} {b : Bks} {us : List (Ent × Value)}

def SplitOk (b : Bks) (c : Rt6) (w : World) (x : Ending) (w' : World) : Prop := ∃ v, x = .returned (.tuple #[v, .int .i64 (splitOf b c).2]) ∧ RcpIs w' v (splitOf b c).1 ∧ Tch (fun _ => False) w w'

set_option maxRecDepth 100000 in
set_option maxHeartbeats 12800000 in
theorem splitrec_any (h : Vw w bv bi B t mr mp e a s r l n lv fs b us) (hn : (accLeaves b.accs).length ≤ 1000) (h40 : b.ents.length ≤ 40) (c1 c2 c3 c4 c5 c6 : Int) :
    Calls Tryz.prog 71 #[.pointer (some ⟨bv, 0, none⟩), .agg #[.int .i64 c1, .int .i64 c2, .int .i64 c3, .int .i64 c4, .int .i64 c5, .int .i64 c6]] w (SplitOk b (c1, c2, c3, c4, c5, c6) w) := by
  have ta := Tch.alloc (fun _ => False) w (.cells #[.int .i64 c1, .int .i64 c2, .int .i64 c3, .int .i64 c4, .int .i64 c5, .int .i64 c6] 31)
  have tb := Tch.alloc (fun _ => False) (w.alloc (.cells #[.int .i64 c1, .int .i64 c2, .int .i64 c3, .int .i64 c4, .int .i64 c5, .int .i64 c6] 31)) (.cells #[.int .i64 0, .int .i64 0, .slice none 0 0, .slice none 0 0, .int .i64 0, .int .i64 0, .int .i64 0, .int .i64 0, .int .i64 0, .int .i64 0, .bool false, .int .i64 0, .int .i64 0, .bool false] 46)
  have tw := ta.trans tb
  have hbC := (Blk.new w 31 #[.int .i64 c1, .int .i64 c2, .int .i64 c3, .int .i64 c4, .int .i64 c5, .int .i64 c6]).keep tb id
  have hbR := Blk.new2 w (.cells #[.int .i64 c1, .int .i64 c2, .int .i64 c3, .int .i64 c4, .int .i64 c5, .int .i64 c6] 31) 46 #[.int .i64 0, .int .i64 0, .slice none 0 0, .slice none 0 0, .int .i64 0, .int .i64 0, .int .i64 0, .int .i64 0, .int .i64 0, .int .i64 0, .bool false, .int .i64 0, .int .i64 0, .bool false]
  have HM := Lib.hid (splitmay_any (h.keep tw) hn (c1, c2, c3, c4, c5, c6))
  have HH := Lib.hid (h.keep tw)
  have hsz : ((w.alloc (.cells #[.int .i64 c1, .int .i64 c2, .int .i64 c3, .int .i64 c4, .int .i64 c5, .int .i64 c6] 31)).alloc (.cells #[.int .i64 0, .int .i64 0, .slice none 0 0, .slice none 0 0, .int .i64 0, .int .i64 0, .int .i64 0, .int .i64 0, .int .i64 0, .int .i64 0, .bool false, .int .i64 0, .int .i64 0, .bool false] 46)).heap.size = w.heap.size + 2 := by simp
  unfold cellV at HM
  simp only at HM
  have HL : Hid (splitOf b (c1, c2, c3, c4, c5, c6) = if mayOf b (c1, c2, c3, c4, c5, c6) 4 5 = 0 then (splitRcp (c1, c2, c3, c4, c5, c6) (splitPart b (c1, c2, c3, c4, c5, c6)), 0) else (Rcp.none, mayOf b (c1, c2, c3, c4, c5, c6) 4 5)) := Lib.hid rfl
  have HFA := Lib.hid (fun h => may_facts (b := b) (c := (c1, c2, c3, c4, c5, c6)) (lo := 4) (hi := 5) h)
  generalize mayOf b (c1, c2, c3, c4, c5, c6) 4 5 = m at *
  clear ta tb h
  go_enter Tryz.func71, Tryz.ntmps71
  go_wp2_with fail
  generalize (w.alloc (.cells #[.int .i64 c1, .int .i64 c2, .int .i64 c3, .int .i64 c4, .int .i64 c5, .int .i64 c6] 31)).alloc _ = W at *
  generalize hzw : w.heap.size = z at *
  have HZW := Lib.hid hzw
  clear hzw
  refine HM.out.mono ?_
  rintro _ w1 ⟨rfl, t1⟩
  clear HM
  have b1 := hbC.keep t1 id
  have r1 := hbR.keep t1 id
  have h1 := HH.out.keep t1
  have tW := tw.trans t1
  have hlow : z + 2 ≤ w1.heap.size := by have := t1.size; omega
  clear hbC hbR HH tw t1 hsz
  by_cases hm : m = 0
  rotate_left
  · have hm' : (m != 0) = true := by simpa using hm
    have HLN := Lib.hid (show splitOf b (c1, c2, c3, c4, c5, c6) = (Rcp.none, m) by rw [HL.out, if_neg hm])
    clear hm
    go_wp2_with (refine wpList_store_blk rfl _ _ _ rfl (z + 1) #[.int .i64 0, .int .i64 0, .slice none 0 0, .slice none 0 0, .int .i64 0, .int .i64 0, .int .i64 0, .int .i64 0, .int .i64 0, .int .i64 0, .bool false, .int .i64 0, .int .i64 0, .bool false] (by rfl) (by rfl) r1 (by kernel_rfl) rfl (by simp [Value.oneCell']) ?_; refine Hid.out ?_)
    refine Lib.hid ?_
    intro w9 hF tF
    have HBF := Lib.hid hF
    have HTF := Lib.hid tF
    have TT := Lib.hid (tW.trans' (F' := fun g => g = z + 1) tF (fun i hi => .inr (by have hi : i = z + 1 := hi; have := HZW.out; omega)))
    clear hF tF h1 r1 tW
    go_wp2
    (try simp only [Exit.inBlock, Exit.then])
    (try rw [Exit.noGoto_ret])
    refine bodyPost_ret (results_row_tmp (P := Tryz.prog) rfl _ _ (z + 1) 46 _ (0, 0) _ rfl HBF.out Tryz.underlying46 rfl (by kernel_rfl)) rfl ?_
    unfold SplitOk
    rw [HLN.out]
    exact ⟨_, rfl, ⟨_, _, rfl, Row.nil _ _ _, Row.nil _ _ _⟩, TT.out⟩
  subst hm
  obtain ⟨hr, ⟨hp0, hp1⟩, _, hlf⟩ := HFA.out rfl
  (try simp only at hr hp0 hp1 hlf)
  clear HFA
  have tm := Tch.alloc (fun _ => False) w1 (.cells #[.int .i64 0, .int .i64 0, .slice none 0 0, .slice none 0 0, .int .i64 0, .int .i64 0, .int .i64 0, .int .i64 0, .int .i64 0, .int .i64 0, .bool false, .int .i64 0, .int .i64 0, .bool false] 46)
  have HS := Lib.hid (splitshare_any (h1.keep tm) h40 c1 c2 c3 c4 c5 c6 hlf hp0 hp1)
  generalize splitPart b (c1, c2, c3, c4, c5, c6) = sp at *
  have HLL := Lib.hid (show splitOf b (c1, c2, c3, c4, c5, c6) = (splitRcp (c1, c2, c3, c4, c5, c6) sp, 0) by rw [HL.out, if_pos rfl])
  clear HL h1 hlf h40 hn
  have bM := Blk.new w1 46 #[.int .i64 0, .int .i64 0, .slice none 0 0, .slice none 0 0, .int .i64 0, .int .i64 0, .int .i64 0, .int .i64 0, .int .i64 0, .int .i64 0, .bool false, .int .i64 0, .int .i64 0, .bool false]
  have b2 := b1.keep tm id
  have r2 := r1.keep tm id
  have t2 := tW.trans tm
  have hsz2 : (w1.alloc (.cells #[.int .i64 0, .int .i64 0, .slice none 0 0, .slice none 0 0, .int .i64 0, .int .i64 0, .int .i64 0, .int .i64 0, .int .i64 0, .int .i64 0, .bool false, .int .i64 0, .int .i64 0, .bool false] 46)).heap.size = w1.heap.size + 1 := by simp
  have k0 : (w1.alloc (.cells #[.int .i64 0, .int .i64 0, .slice none 0 0, .slice none 0 0, .int .i64 0, .int .i64 0, .int .i64 0, .int .i64 0, .int .i64 0, .int .i64 0, .bool false, .int .i64 0, .int .i64 0, .bool false] 46)).cell? ⟨z, 0, none⟩ = some (.int .i64 c1) := b2.cell 0
  have k1 : (w1.alloc (.cells #[.int .i64 0, .int .i64 0, .slice none 0 0, .slice none 0 0, .int .i64 0, .int .i64 0, .int .i64 0, .int .i64 0, .int .i64 0, .int .i64 0, .bool false, .int .i64 0, .int .i64 0, .bool false] 46)).cell? ⟨z, 1, none⟩ = some (.int .i64 c2) := b2.cell 1
  have k2 : (w1.alloc (.cells #[.int .i64 0, .int .i64 0, .slice none 0 0, .slice none 0 0, .int .i64 0, .int .i64 0, .int .i64 0, .int .i64 0, .int .i64 0, .int .i64 0, .bool false, .int .i64 0, .int .i64 0, .bool false] 46)).cell? ⟨z, 2, none⟩ = some (.int .i64 c3) := b2.cell 2
  have k3 : (w1.alloc (.cells #[.int .i64 0, .int .i64 0, .slice none 0 0, .slice none 0 0, .int .i64 0, .int .i64 0, .int .i64 0, .int .i64 0, .int .i64 0, .int .i64 0, .bool false, .int .i64 0, .int .i64 0, .bool false] 46)).cell? ⟨z, 3, none⟩ = some (.int .i64 c4) := b2.cell 3
  have k4 : (w1.alloc (.cells #[.int .i64 0, .int .i64 0, .slice none 0 0, .slice none 0 0, .int .i64 0, .int .i64 0, .int .i64 0, .int .i64 0, .int .i64 0, .int .i64 0, .bool false, .int .i64 0, .int .i64 0, .bool false] 46)).cell? ⟨z, 4, none⟩ = some (.int .i64 c5) := b2.cell 4
  have k5 : (w1.alloc (.cells #[.int .i64 0, .int .i64 0, .slice none 0 0, .slice none 0 0, .int .i64 0, .int .i64 0, .int .i64 0, .int .i64 0, .int .i64 0, .int .i64 0, .bool false, .int .i64 0, .int .i64 0, .bool false] 46)).cell? ⟨z, 5, none⟩ = some (.int .i64 c6) := b2.cell 5
  clear b1 r1 tW tm
  go_wp2_with fail
  generalize w1.alloc _ = W1 at *
  generalize hmm : w1.heap.size = m at *
  clear hmm
  refine HS.out.mono ?_
  rintro _ w3 ⟨rfl, t3⟩
  have b3 := b2.keep t3 id
  have r3 := r2.keep t3 id
  have n3 := bM.keep t3 id
  have tt3 := t2.trans t3
  have s3 : m < w3.heap.size := by have := t3.size; omega
  clear HS b2 r2 bM t2 t3 k0 k1 k2 k3 k4 k5 hsz2
  have q0 : w3.cell? ⟨z, 0, none⟩ = some (.int .i64 c1) := b3.cell 0
  have hr2 : c1 = 4 ∨ c1 = 5 := by omega
  clear hr
  rcases hr2 with rfl | rfl
  rotate_left
  · have HL5 := Lib.hid (show splitOf b (5, c2, c3, c4, c5, c6) = ({ Rcp.none with plus := [(7, c2, c3, c4, c5, c6)], minus := [(4, c2, c3, c4, c5, c6)] }, 0) by rw [HLL.out]; rfl)
    clear HLL
    have t3 := tt3
    clear tt3
    go_wp2_with fail
    clear q0
    refine (splitwith_any 5 c2 c3 c4 c5 c6 4 b3).mono ?_
    rintro _ x4 ⟨rfl, u4⟩
    have a4 := Tch.alloc (fun _ => False) x4 (.cells #[.int .i64 4, .int .i64 c2, .int .i64 c3, .int .i64 c4, .int .i64 c5, .int .i64 c6] 31)
    have g4 := Blk.new x4 31 #[.int .i64 4, .int .i64 c2, .int .i64 c3, .int .i64 c4, .int .i64 c5, .int .i64 c6]
    have bb4 := (b3.keep u4 id).keep a4 id
    have nn4 := (n3.keep u4 id).keep a4 id
    have rr4 := (r3.keep u4 id).keep a4 id
    have tt4 := (t3.trans u4).trans a4
    have hs4 : m < x4.heap.size ∧ x4.heap.size < (x4.alloc (.cells #[.int .i64 4, .int .i64 c2, .int .i64 c3, .int .i64 c4, .int .i64 c5, .int .i64 c6] 31)).heap.size := by
      have := u4.size
      simp; omega
    clear b3 n3 r3 t3 u4 a4
    go_wp2_with (refine wpList_store_cell rfl _ _ _ rfl m 3 (.slice (some ⟨x4.heap.size, 0, none⟩) 1 1) (by rfl) (by rfl) rfl (by rfl) nn4 (by simp) ?_; refine Hid.out ?_)
    refine Lib.hid ?_
    intro y4 n4 ts4
    generalize x4.heap.size = s4 at *
    (try simp only [List.setIfInBounds_toArray, List.set_cons_succ, List.set_cons_zero] at n4)
    have g4 := g4.keep ts4 (by omega)
    have b4 := bb4.keep ts4 (by omega)
    have r4 := rr4.keep ts4 (by omega)
    have t4 := tt4.trans' ts4 (fun i hi => .inr (by have hi : i = m := hi; have := HZW.out; omega))
    have S4 : m < s4 ∧ s4 < y4.heap.size := by have := ts4.size; omega
    clear bb4 nn4 rr4 tt4 ts4 hs4
    go_wp2_with fail
    refine (splitwith_any 5 c2 c3 c4 c5 c6 7 b4).mono ?_
    rintro _ x5 ⟨rfl, u5⟩
    have a5 := Tch.alloc (fun _ => False) x5 (.cells #[.int .i64 7, .int .i64 c2, .int .i64 c3, .int .i64 c4, .int .i64 c5, .int .i64 c6] 31)
    have g5 := Blk.new x5 31 #[.int .i64 7, .int .i64 c2, .int .i64 c3, .int .i64 c4, .int .i64 c5, .int .i64 c6]
    have bb5 := (b4.keep u5 id).keep a5 id
    have nn5 := (n4.keep u5 id).keep a5 id
    have rr5 := (r4.keep u5 id).keep a5 id
    have tt5 := (t4.trans u5).trans a5
    have g4 := (g4.keep u5 id).keep a5 id
    have hs5 : m < x5.heap.size ∧ x5.heap.size < (x5.alloc (.cells #[.int .i64 7, .int .i64 c2, .int .i64 c3, .int .i64 c4, .int .i64 c5, .int .i64 c6] 31)).heap.size := by
      have := u5.size
      simp; omega
    clear b4 n4 r4 t4 u5 a5
    go_wp2_with (refine wpList_store_cell rfl _ _ _ rfl m 2 (.slice (some ⟨x5.heap.size, 0, none⟩) 1 1) (by rfl) (by rfl) rfl (by rfl) nn5 (by simp) ?_; refine Hid.out ?_)
    refine Lib.hid ?_
    intro y5 n5 ts5
    generalize x5.heap.size = s5 at *
    (try simp only [List.setIfInBounds_toArray, List.set_cons_succ, List.set_cons_zero] at n5)
    have g5 := g5.keep ts5 (by omega)
    have g4 := g4.keep ts5 (by omega)
    have b5 := bb5.keep ts5 (by omega)
    have r5 := rr5.keep ts5 (by omega)
    have t5 := tt5.trans' ts5 (fun i hi => .inr (by have hi : i = m := hi; have := HZW.out; omega))
    have S5 : m < s5 ∧ s5 < y5.heap.size := by have := ts5.size; omega
    clear bb5 nn5 rr5 tt5 ts5 hs5
    go_wp2_with (refine wpList_load_row rfl _ _ rfl m (by rfl) 46 #[.int .i64 0, .int .i64 0, .slice (some ⟨s5, 0, none⟩) 1 1, .slice (some ⟨s4, 0, none⟩) 1 1, .int .i64 0, .int .i64 0, .int .i64 0, .int .i64 0, .int .i64 0, .int .i64 0, .bool false, .int .i64 0, .int .i64 0, .bool false] (0, 0) _ n5 Tryz.underlying46 rfl (by kernel_rfl) ?_; refine Hid.out ?_)
    refine Lib.hid ?_
    go_wp2_with (refine wpList_store_blk rfl _ _ _ rfl (z + 1) #[.int .i64 0, .int .i64 0, .slice (some ⟨s5, 0, none⟩) 1 1, .slice (some ⟨s4, 0, none⟩) 1 1, .int .i64 0, .int .i64 0, .int .i64 0, .int .i64 0, .int .i64 0, .int .i64 0, .bool false, .int .i64 0, .int .i64 0, .bool false] (by rfl) (by rfl) r5 (by kernel_rfl) rfl (by simp [Value.oneCell']) ?_; refine Hid.out ?_)
    refine Lib.hid ?_
    intro w9 hF tF
    have HBF := Lib.hid hF
    have HTF := Lib.hid tF
    have TT := Lib.hid (t5.trans' (F' := fun g => g = z + 1) tF (fun i hi => .inr (by have hi : i = z + 1 := hi; have := HZW.out; omega)))
    clear hF tF n5 r5 t5
    go_wp2
    (try simp only [Exit.inBlock, Exit.then])
    (try rw [Exit.noGoto_ret])
    refine bodyPost_ret (results_row_tmp (P := Tryz.prog) rfl _ _ (z + 1) 46 _ (0, 0) _ rfl HBF.out Tryz.underlying46 rfl (by kernel_rfl)) rfl ?_
    unfold SplitOk
    rw [HL5.out]
    exact ⟨_, rfl, ⟨_, _, rfl, Row.blk (g5.keep HTF.out (by omega)) trivial rfl (by decide), Row.blk (g4.keep HTF.out (by omega)) trivial rfl (by decide)⟩, TT.out⟩
  have t3 := tt3
  clear tt3
  by_cases h1 : sp = 10000
  · subst h1
    have HL4 := Lib.hid (show splitOf b (4, c2, c3, c4, c5, c6) = ({ Rcp.none with plus := [(7, c2, c3, c4, c5, c6)] }, 0) by rw [HLL.out]; rfl)
    clear HLL
    go_wp2_with fail
    clear q0
    refine (splitwith_any 4 c2 c3 c4 c5 c6 7 b3).mono ?_
    rintro _ x5 ⟨rfl, u5⟩
    have a5 := Tch.alloc (fun _ => False) x5 (.cells #[.int .i64 7, .int .i64 c2, .int .i64 c3, .int .i64 c4, .int .i64 c5, .int .i64 c6] 31)
    have g5 := Blk.new x5 31 #[.int .i64 7, .int .i64 c2, .int .i64 c3, .int .i64 c4, .int .i64 c5, .int .i64 c6]
    have bb5 := (b3.keep u5 id).keep a5 id
    have nn5 := (n3.keep u5 id).keep a5 id
    have rr5 := (r3.keep u5 id).keep a5 id
    have tt5 := (t3.trans u5).trans a5
    have hs5 : m < x5.heap.size ∧ x5.heap.size < (x5.alloc (.cells #[.int .i64 7, .int .i64 c2, .int .i64 c3, .int .i64 c4, .int .i64 c5, .int .i64 c6] 31)).heap.size := by
      have := u5.size
      simp; omega
    clear b3 n3 r3 t3 u5 a5
    go_wp2_with (refine wpList_store_cell rfl _ _ _ rfl m 2 (.slice (some ⟨x5.heap.size, 0, none⟩) 1 1) (by rfl) (by rfl) rfl (by rfl) nn5 (by simp) ?_; refine Hid.out ?_)
    refine Lib.hid ?_
    intro y5 n5 ts5
    generalize x5.heap.size = s5 at *
    (try simp only [List.setIfInBounds_toArray, List.set_cons_succ, List.set_cons_zero] at n5)
    have g5 := g5.keep ts5 (by omega)
    have b5 := bb5.keep ts5 (by omega)
    have r5 := rr5.keep ts5 (by omega)
    have t5 := tt5.trans' ts5 (fun i hi => .inr (by have hi : i = m := hi; have := HZW.out; omega))
    have S5 : m < s5 ∧ s5 < y5.heap.size := by have := ts5.size; omega
    clear bb5 nn5 rr5 tt5 ts5 hs5
    go_wp2_with (refine wpList_load_row rfl _ _ rfl m (by rfl) 46 #[.int .i64 0, .int .i64 0, .slice (some ⟨s5, 0, none⟩) 1 1, .slice none 0 0, .int .i64 0, .int .i64 0, .int .i64 0, .int .i64 0, .int .i64 0, .int .i64 0, .bool false, .int .i64 0, .int .i64 0, .bool false] (0, 0) _ n5 Tryz.underlying46 rfl (by kernel_rfl) ?_; refine Hid.out ?_)
    refine Lib.hid ?_
    go_wp2_with (refine wpList_store_blk rfl _ _ _ rfl (z + 1) #[.int .i64 0, .int .i64 0, .slice (some ⟨s5, 0, none⟩) 1 1, .slice none 0 0, .int .i64 0, .int .i64 0, .int .i64 0, .int .i64 0, .int .i64 0, .int .i64 0, .bool false, .int .i64 0, .int .i64 0, .bool false] (by rfl) (by rfl) r5 (by kernel_rfl) rfl (by simp [Value.oneCell']) ?_; refine Hid.out ?_)
    refine Lib.hid ?_
    intro w9 hF tF
    have HBF := Lib.hid hF
    have HTF := Lib.hid tF
    have TT := Lib.hid (t5.trans' (F' := fun g => g = z + 1) tF (fun i hi => .inr (by have hi : i = z + 1 := hi; have := HZW.out; omega)))
    clear hF tF n5 r5 t5
    go_wp2
    (try simp only [Exit.inBlock, Exit.then])
    (try rw [Exit.noGoto_ret])
    refine bodyPost_ret (results_row_tmp (P := Tryz.prog) rfl _ _ (z + 1) 46 _ (0, 0) _ rfl HBF.out Tryz.underlying46 rfl (by kernel_rfl)) rfl ?_
    unfold SplitOk
    rw [HL4.out]
    exact ⟨_, rfl, ⟨_, _, rfl, Row.blk (g5.keep HTF.out (by omega)) trivial rfl (by decide), Row.nil _ _ _⟩, TT.out⟩
  have h1' : (sp == 10000) = false := by simpa using h1
  by_cases h2 : 0 < sp
  · have HL4 := Lib.hid (show splitOf b (4, c2, c3, c4, c5, c6) = ({ Rcp.none with scaled := (7, c2, c3, c4, c5, c6), rated := true, ratio := (sp, 10000), has := true }, 0) by
      rw [HLL.out]
      unfold splitRcp
      rw [if_neg (show ¬ (4 : Int) = 5 by decide), if_neg h1, if_pos h2])
    clear HLL h1
    go_wp2_with fail
    clear q0
    refine (splitwith_any 4 c2 c3 c4 c5 c6 7 b3).mono ?_
    rintro _ x5 ⟨rfl, u5⟩
    have nn5 := n3.keep u5 id
    have r5x := r3.keep u5 id
    have t5x := t3.trans u5
    have hs5 : m < x5.heap.size := by have := u5.size; omega
    clear b3 n3 r3 t3 u5
    go_wp2_with (refine wpList_store_part rfl _ _ _ rfl m [.int .i64 0, .int .i64 0, .slice none 0 0, .slice none 0 0] [.int .i64 0, .int .i64 0, .int .i64 0, .int .i64 0, .int .i64 0, .int .i64 0, .bool false, .int .i64 0, .int .i64 0, .bool false] [.int .i64 7, .int .i64 c2, .int .i64 c3, .int .i64 c4, .int .i64 c5, .int .i64 c6, .bool true, .int .i64 sp, .int .i64 10000, .bool true] [] (by rfl) (by rfl) (by simp [Value.oneCell']) (by kernel_rfl) rfl nn5 ?_; refine Hid.out ?_)
    refine Lib.hid ?_
    intro y5 n5' ts5
    have n5 : Blk y5 m 46 #[.int .i64 0, .int .i64 0, .slice none 0 0, .slice none 0 0, .int .i64 7, .int .i64 c2, .int .i64 c3, .int .i64 c4, .int .i64 c5, .int .i64 c6, .bool true, .int .i64 sp, .int .i64 10000, .bool true] := n5'
    have r5 := r5x.keep ts5 (by omega)
    have t5 := t5x.trans' ts5 (fun i hi => .inr (by have hi : i = m := hi; have := HZW.out; omega))
    have s5 : m < y5.heap.size := by have := ts5.size; omega
    clear nn5 r5x t5x hs5 ts5 n5' s3
    go_wp2_with (refine wpList_load_row rfl _ _ rfl m (by rfl) 46 #[.int .i64 0, .int .i64 0, .slice none 0 0, .slice none 0 0, .int .i64 7, .int .i64 c2, .int .i64 c3, .int .i64 c4, .int .i64 c5, .int .i64 c6, .bool true, .int .i64 sp, .int .i64 10000, .bool true] (0, 0) _ n5 Tryz.underlying46 rfl (by kernel_rfl) ?_; refine Hid.out ?_)
    refine Lib.hid ?_
    go_wp2_with (refine wpList_store_blk rfl _ _ _ rfl (z + 1) #[.int .i64 0, .int .i64 0, .slice none 0 0, .slice none 0 0, .int .i64 7, .int .i64 c2, .int .i64 c3, .int .i64 c4, .int .i64 c5, .int .i64 c6, .bool true, .int .i64 sp, .int .i64 10000, .bool true] (by rfl) (by rfl) r5 (by kernel_rfl) rfl (by simp [Value.oneCell']) ?_; refine Hid.out ?_)
    refine Lib.hid ?_
    intro w9 hF tF
    have HBF := Lib.hid hF
    have HTF := Lib.hid tF
    have TT := Lib.hid (t5.trans' (F' := fun g => g = z + 1) tF (fun i hi => .inr (by have hi : i = z + 1 := hi; have := HZW.out; omega)))
    clear hF tF n5 r5 t5
    go_wp2
    (try simp only [Exit.inBlock, Exit.then])
    (try rw [Exit.noGoto_ret])
    refine bodyPost_ret (results_row_tmp (P := Tryz.prog) rfl _ _ (z + 1) 46 _ (0, 0) _ rfl HBF.out Tryz.underlying46 rfl (by kernel_rfl)) rfl ?_
    unfold SplitOk
    rw [HL4.out]
    exact ⟨_, rfl, ⟨_, _, rfl, Row.nil _ _ _, Row.nil _ _ _⟩, TT.out⟩
  have HL4 := Lib.hid (show splitOf b (4, c2, c3, c4, c5, c6) = (Rcp.none, 0) by
    rw [HLL.out]
    unfold splitRcp
    rw [if_neg (show ¬ (4 : Int) = 5 by decide), if_neg h1, if_neg h2])
  clear HLL h1
  go_wp2_with (refine wpList_load_row rfl _ _ rfl m (by rfl) 46 #[.int .i64 0, .int .i64 0, .slice none 0 0, .slice none 0 0, .int .i64 0, .int .i64 0, .int .i64 0, .int .i64 0, .int .i64 0, .int .i64 0, .bool false, .int .i64 0, .int .i64 0, .bool false] (0, 0) _ n3 Tryz.underlying46 rfl (by kernel_rfl) ?_; refine Hid.out ?_)
  refine Lib.hid ?_
  go_wp2_with (refine wpList_store_blk rfl _ _ _ rfl (z + 1) #[.int .i64 0, .int .i64 0, .slice none 0 0, .slice none 0 0, .int .i64 0, .int .i64 0, .int .i64 0, .int .i64 0, .int .i64 0, .int .i64 0, .bool false, .int .i64 0, .int .i64 0, .bool false] (by rfl) (by rfl) r3 (by kernel_rfl) rfl (by simp [Value.oneCell']) ?_; refine Hid.out ?_)
  refine Lib.hid ?_
  intro w9 hF tF
  have HBF := Lib.hid hF
  have HTF := Lib.hid tF
  have TT := Lib.hid (t3.trans' (F' := fun g => g = z + 1) tF (fun i hi => .inr (by have hi : i = z + 1 := hi; have := HZW.out; omega)))
  clear hF tF n3 r3 t3
  go_wp2
  (try simp only [Exit.inBlock, Exit.then])
  (try rw [Exit.noGoto_ret])
  refine bodyPost_ret (results_row_tmp (P := Tryz.prog) rfl _ _ (z + 1) 46 _ (0, 0) _ rfl HBF.out Tryz.underlying46 rfl (by kernel_rfl)) rfl ?_
  unfold SplitOk
  rw [HL4.out]
  exact ⟨_, rfl, ⟨_, _, rfl, Row.nil _ _ _, Row.nil _ _ _⟩, TT.out⟩
end
end Go.Proofs.YtifdnhghjgklkaaGreat
