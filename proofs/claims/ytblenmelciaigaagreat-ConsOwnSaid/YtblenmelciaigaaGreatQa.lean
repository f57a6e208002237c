/-
  Plain: what a node has that holds nobody. No program in sight.
-/
import Derived.Test.YtblenmelciaigaaGreatZ31
import Derived.Test.YtblenmelciaigaaGreatPf
import Derived.Test.YtblenmelciaigaaGreatZ49
namespace Go.Gk.V33
open Go.RowKit
theorem may_67 {b : Bks} (c2 c3 c4 c5 : Int) : mayOf b (6, c2, c3, c4, c5, 0) 6 6 = mayOf b (7, c2, c3, c4, c5, 0) 7 7 := by
  unfold mayOf cellIn cellOK wi
  simp
theorem kids_lone {b : Bks} {c2 : Int} {p : Nat} (hc : 1 ≤ c2 ∧ c2 ≤ b.ents.length) (h : kidsOf b c2 p = []) : Lone b p c2 := by
  intro i h1 h2 e
  unfold kidsOf at h
  rw [if_pos hc] at h
  have := List.filter_eq_nil_iff.1 h i (ids_iff.2 ⟨h1, h2⟩)
  unfold isKid at this
  rw [e] at this
  simp at this
theorem plus_lone (c : Rt6) (splits : List Int) : consPlus c [] splits = [ofC c 3 c.2.1 c.2.2.1, ofC c 6 c.2.1 c.2.2.1] := by
  unfold consPlus consMin
  by_cases h : c.2.2.1 = 2 <;> simp [h]
theorem plus_two (c : Rt6) (kids splits : List Int) : 2 ≤ (consPlus c kids splits).length := by
  unfold consPlus
  simp only [List.length_cons, List.length_append, List.length_nil]
  omega
theorem of_ne {c : Rt6} {x y : Int} : ofC c 3 x y ≠ ofC c 6 x y := by
  intro h
  unfold ofC at h
  injection h with h1 h2
  cases h1
theorem reads_two (c : Rt6) (x y : Int) : readsOf { Rcp.none with plus := [ofC c 3 x y, ofC c 6 x y] } = [ofC c 3 x y, ofC c 6 x y] := by
  unfold readsOf rcpAll
  simp only [Rcp.none, List.append_nil, Bool.false_eq_true, if_false]
  exact uniq_of (by simp [of_ne])
theorem reads_none : readsOf Rcp.none = [] := rfl
theorem eval_none : evalOf Rcp.none [] = (0, 0) := by decide +kernel
/-- The value itself, or its error. -/
def plainV (o : Vl) : Vl := if o.2 = 0 then o else (0, o.2)
theorem eval_two (c : Rt6) (x y : Int) {o : Vl} (h : I64 o.1) : evalOf { Rcp.none with plus := [ofC c 3 x y, ofC c 6 x y] } [o, (0, 0)] = plainV o := by
  obtain ⟨o1, o2⟩ := o
  have h1 : valsOf { Rcp.none with plus := [ofC c 3 x y, ofC c 6 x y] } [(o1, o2), (0, 0)] (ofC c 3 x y) = (o1, o2) := by
    unfold valsOf
    rw [reads_two]
    simp [lookF, of_ne]
  have h2 : valsOf { Rcp.none with plus := [ofC c 3 x y, ofC c 6 x y] } [(o1, o2), (0, 0)] (ofC c 6 x y) = (0, 0) := by
    unfold valsOf
    rw [reads_two]
    simp [lookF, Ne.symm of_ne]
  unfold evalOf
  rw [reads_two, if_pos (show [ofC c 3 x y, ofC c 6 x y].length = [(o1, o2), ((0, 0) : Vl)].length from rfl)]
  simp only [List.map_cons, List.map_nil, h1, h2]
  unfold plainV netOf
  have h9 : I64 o1 := h
  by_cases h0 : o2 = 0
  · subst h0
    unfold I64 at h9
    simp [Rcp.none, ferr, told2]
    exact h9
  · simp [Rcp.none, ferr, h0]
/-- A recipe's rows lie in blocks that are there. -/
theorem _root_.Go.Gk.RcpIs.far {F : Nat → Prop} {w w' : World} {v : Value} {r : Rcp} (h : RcpIs w v r) (t : Tch F w w') (hF : ∀ g, g < w.heap.size → ¬ F g) : RcpIs w' v r :=
  let ⟨p, m, h1, h2, h3⟩ := h
  ⟨p, m, h1, Row.keepTo h2 t (fun g hg _ => ⟨hF g hg, trivial⟩), Row.keepTo h3 t (fun g hg _ => ⟨hF g hg, trivial⟩)⟩
/-- A row of two cells or more is not a box of one. -/
theorem row_apart {l : List Rt6} (hl : 2 ≤ l.length) {cz : Array Value} (hz : cz.size = 6) : ∀ o, ¬ ∀ (j : Nat) (u : Value), (l.flatMap int6)[j]? = some u → cz[o + j]? = some u := by
  intro o h
  obtain ⟨x, y, r, rfl⟩ : ∃ x y r, l = x :: y :: r := by
    match l, hl with
    | x :: y :: r, _ => exact ⟨x, y, r, rfl⟩
  have h9 := h 11 (.int .i64 y.2.2.2.2.2) (by simp [int6])
  rw [Array.getElem?_eq_none (by omega)] at h9
  cases h9
end Go.Gk.V33
