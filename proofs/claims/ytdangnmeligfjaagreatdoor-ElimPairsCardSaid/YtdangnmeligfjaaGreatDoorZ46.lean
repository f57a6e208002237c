/-
  Balances, plain; sums in two boxes.
-/
import Derived.Test.YtdangnmeligfjaaGreatDoorZ49
import Derived.Test.YtdangnmeligfjaaGreatDoorZ28
import Derived.Test.YtdangnmeligfjaaGreatDoorZ8
namespace Go.Gk
open Go.RowKit
theorem may_per {b : Bks} {r r' c2 c3 p q c6 : Int} (h : mayOf b (r, c2, c3, p, 0, c6) 1 2 = 0) (hr : r' = 1 ∨ r' = 2) (hq : 0 ≤ q ∧ q ≤ p) : mayOf b (r', c2, c3, q, 0, c6) 1 2 = 0 := by
  unfold mayOf at h ⊢
  by_cases h0 : cellIn (r, c2, c3, p, 0, c6) b.ents.length b.accs.length = 0
  · rw [if_pos h0] at h
    have h1 : cellIn (r', c2, c3, q, 0, c6) b.ents.length b.accs.length = 0 := by
      unfold cellIn at h0 ⊢
      by_cases hc : cellOK (r, c2, c3, p, 0, c6) = true
      · rw [if_pos hc] at h0
        have hc2 : cellOK (r', c2, c3, q, 0, c6) = true := by
          unfold cellOK at hc ⊢
          simp only [Bool.and_eq_true, wi, decide_eq_true_eq, Bool.not_eq_true'] at hc ⊢
          simp only at h
          by_cases hr2 : r < 1 ∨ 2 < r
          · rw [if_pos hr2] at h; cases h
          · have e1 : r = 1 ∨ r = 2 := by omega
            rw [if_pos e1, if_pos e1] at hc
            rw [if_pos hr, if_pos hr]
            have e3 : r ≤ 3 := by omega
            have e4 : r' ≤ 3 := by omega
            rw [if_pos e3] at hc
            rw [if_pos e4]
            refine ⟨⟨⟨⟨⟨⟨by omega, hc.1.1.1.1.1.2⟩, hc.1.1.1.1.2⟩, by omega⟩, by omega⟩, hc.1.2⟩, hc.2⟩
        rw [if_pos hc2]
        exact h0
      · rw [if_neg hc] at h0; cases h0
    rw [if_pos h1]
    simp only at h ⊢
    by_cases hr2 : r < 1 ∨ 2 < r
    · rw [if_pos hr2] at h; cases h
    · rw [if_neg hr2] at h
      rw [if_neg (by omega)]
      exact h
  · rw [if_neg h0] at h; exact absurd h h0
theorem Row.apart {P : Nat → Prop} {w : World} {v : Value} {n size : Nat} {cs : List Value} (h : Row P w v n size cs) {z : Nat} {T : TypeId} {cz : Array Value} (hz : Blk w z T cz) (hne : ∀ o, ¬ ∀ (j : Nat) (u : Value), cs[j]? = some u → cz[o + j]? = some u) : Row (fun g => g ≠ z) w v n size cs := by
  obtain ⟨A, c, rfl, h1, h2, h3, h4, h5⟩ := h
  refine ⟨A, c, rfl, h1, h2, h3, h4, fun hn => ?_⟩
  obtain ⟨g, o, ha, ⟨_, hlt⟩, hc⟩ := h5 hn
  refine ⟨g, o, ha, ⟨fun e => hne o fun j u hu => ?_, hlt⟩, hc⟩
  have h6 := hc j u hu
  rw [e, hz.cell (o + j)] at h6
  exact h6
theorem Row.none {P P' : Nat → Prop} {w : World} {v : Value} {size : Nat} {cs : List Value} (h : Row P w v 0 size cs) : Row P' w v 0 size cs := by
  obtain ⟨A, c, rfl, h1, h2, h3, h4, h5⟩ := h
  exact ⟨A, c, rfl, h1, h2, h3, h4, fun hn => absurd hn (by omega)⟩
theorem bal_apart {c2 c3 q c6 c6' p : Int} : ∀ o, ¬ ∀ (j : Nat) (u : Value), ((localPlus (2, c2, c3, q, 0, c6)).flatMap int6)[j]? = some u → (#[Value.int .i64 2, .int .i64 c2, .int .i64 c3, .int .i64 p, .int .i64 0, .int .i64 c6'] : Array Value)[o + j]? = some u := by
  intro o h
  unfold localPlus at h
  split at h
  · have h9 := h 11 (.int .i64 c6) (by simp [int6])
    have h8 := (Array.getElem?_eq_some_iff.1 h9).1
    simp at h8
    omega
  · have h9 := h 0 (.int .i64 1) (by simp [int6])
    have h5 := h 5 (.int .i64 c6) (by simp [int6])
    have h8 := (Array.getElem?_eq_some_iff.1 h5).1
    simp at h8
    obtain rfl : o = 0 := by omega
    simp at h9
theorem dg_fits {x : Int} (h : x.natAbs ≤ 10000000000 * 9223372036854775808) : (dg x.natAbs).length ≤ 50000 := Nat.le_trans (dg_lenk 97 (by omega)) (by decide)
/-- A recipe of a balance. -/
theorem reads_bal (pl : List Rt6) (h : pl.Nodup) : readsOf { Rcp.none with plus := pl } = pl := by
  unfold readsOf rcpAll
  simp only [Rcp.none, List.append_nil, Bool.false_eq_true, if_false]
  exact uniq_of h
theorem bal_nodup (c2 c3 c6 : Int) (q : Int) : (localPlus (2, c2, c3, q, 0, c6)).Nodup := by
  unfold localPlus
  split <;> simp
theorem bal_first (c2 c3 c6 : Int) (m : Vl) : evalOf { Rcp.none with plus := localPlus (2, c2, c3, 0, 0, c6) } [m] = netOf [(0, 0), m] [] := by
  unfold evalOf
  rw [reads_bal _ (bal_nodup ..), if_pos (by simp [localPlus])]
  have hv : valsOf { Rcp.none with plus := localPlus (2, c2, c3, 0, 0, c6) } [m] (1, c2, c3, 0, 0, c6) = m := by
    unfold valsOf
    rw [reads_bal _ (bal_nodup ..)]
    unfold localPlus
    exact lookF_cons ((1, c2, c3, 0, 0, c6), m) [] (by simp)
  simp [Rcp.none, localPlus] at hv ⊢
  rw [hv]
theorem bal_next (c2 c3 c6 : Int) {q : Int} (hq : 0 < q) (l m : Vl) : evalOf { Rcp.none with plus := localPlus (2, c2, c3, q, 0, c6) } [l, m] = netOf [(0, 0), l, m] [] := by
  have e : localPlus (2, c2, c3, q, 0, c6) = [(2, c2, c3, q - 1, 0, c6), (1, c2, c3, q, 0, c6)] := by
    unfold localPlus
    rw [if_pos hq]; rfl
  unfold evalOf
  rw [reads_bal _ (bal_nodup ..), e, if_pos (by simp)]
  have h1 : valsOf { Rcp.none with plus := [(2, c2, c3, q - 1, 0, c6), (1, c2, c3, q, 0, c6)] } [l, m] (2, c2, c3, q - 1, 0, c6) = l := by
    unfold valsOf
    rw [reads_bal _ (e ▸ bal_nodup ..)]
    exact lookF_cons ((2, c2, c3, q - 1, 0, c6), l) [((1, c2, c3, q, 0, c6), m)] (by simp)
  have h2 : valsOf { Rcp.none with plus := [(2, c2, c3, q - 1, 0, c6), (1, c2, c3, q, 0, c6)] } [l, m] (1, c2, c3, q, 0, c6) = m := by
    unfold valsOf
    rw [reads_bal _ (e ▸ bal_nodup ..)]
    show lookF [((2, c2, c3, q - 1, 0, c6), l), ((1, c2, c3, q, 0, c6), m)] (1, c2, c3, q, 0, c6) = m
    rw [lookF_skip _ _ (by simp)]
    exact lookF_cons ((1, c2, c3, q, 0, c6), m) [] (by simp)
  simp [Rcp.none] at h1 h2 ⊢
  rw [h1, h2]
theorem told2_fits {x : Int} (h : (told2 x).2 = 0) : told2 x = (x, 0) := by
  unfold told2 at h ⊢
  split
  · rfl
  · rename_i h9; rw [if_neg h9] at h; cases h
theorem told2_zero {x y : Int} (h : told2 x = (y, 0)) : y = x ∧ I64 x := by
  unfold told2 at h
  split at h
  · injection h with h; exact ⟨h.symm, by assumption⟩
  · injection h with _ h; cases h
theorem net_first {x r1 : Int} (h : told2 x = (r1, 0)) : netOf [(0, 0), (r1, 0)] [] = told2 (0 + r1) := by
  obtain ⟨rfl, h64⟩ := told2_zero h
  unfold netOf ferr
  simp
theorem net_next (t : Int) {x r1 : Int} (h : told2 x = (r1, 0)) : netOf [(0, 0), (t, 0), (r1, 0)] [] = told2 (t + r1) := by
  obtain ⟨rfl, h64⟩ := told2_zero h
  unfold netOf ferr
  simp
end Go.Gk
namespace Go.Proofs.YtdangnmeligfjaaGreatDoor
open Go.RowKit Go.Gk

/-- A sum in a box of its own, beside another box. -/
def SumAt2 (T : TypeId) (y1 y : Nat) (w : World) (x : Int) : Prop := ∃ sg D n c, Blk w y T #[.bool sg, .slice D n c] ∧ BigIs (fun g => g ≠ y1 ∧ g ≠ y) w (.agg #[.bool sg, .slice D n c]) x
theorem BigIs.form2 {B : Nat → Prop} {w : World} {v : Value} {x : Int} (h : BigIs B w v x) : ∃ sg D n c, v = .agg #[.bool sg, .slice D n c] := by
  obtain ⟨dv, rfl, hd⟩ := h
  obtain ⟨D, c, rfl, _, _⟩ := hd.form
  exact ⟨_, D, _, c, rfl⟩
theorem BigIs.beside {w w' : World} {v : Value} {x : Int} {B F : Nat → Prop} (h : BigIs B w v x) (t : Tch F w w') (hn : ∀ g, B g → ¬ F g) : BigIs B w' v x :=
  let ⟨dv, e, hd⟩ := h; ⟨dv, e, hd.keepTo t fun _ _ hg => ⟨hn _ hg, hg⟩⟩
theorem SumAt2.keep {T : TypeId} {y1 y : Nat} {w w' : World} {x : Int} (h : SumAt2 T y1 y w x) (t : Tch (fun g => g = y1) w w') (hy : y ≠ y1) : SumAt2 T y1 y w' x :=
  let ⟨sg, D, n, c, h1, h2⟩ := h; ⟨sg, D, n, c, h1.keep t hy, h2.beside t fun _ hg => hg.1⟩
theorem SumAt2.zero {T : TypeId} {y1 y : Nat} {w : World} (h : Blk w y T #[.bool false, .slice none 0 0]) : SumAt2 T y1 y w 0 :=
  ⟨false, none, 0, 0, h, ⟨.slice none 0 0, rfl, by rw [show dg (0 : Int).natAbs = [] by simp [dg_zero]]; exact Row.nil _ _ _⟩⟩

end Go.Proofs.YtdangnmeligfjaaGreatDoor
