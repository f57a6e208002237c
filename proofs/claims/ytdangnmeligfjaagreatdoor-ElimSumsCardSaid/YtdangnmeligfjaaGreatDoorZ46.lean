/-
  Balances, plain; sums in two boxes.
-/
import Derived.Test.YtdangnmeligfjaaGreatDoorZ49
import Derived.Test.YtdangnmeligfjaaGreatDoorZ28
import Derived.Test.YtdangnmeligfjaaGreatDoorZ8
namespace Go.Gk
open Go.RowKit
theorem may_per {b : Bks} {r r' c2 c3 p q c6 : Int} (h : mayOf b (r, c2, c3, p, 0, c6) 1 2 = 0) (hr : r' = 1 ∨ r' = 2) (hq : 0 ≤ q ∧ q ≤ p) : mayOf b (r', c2, c3, q, 0, c6) 1 2 = 0 := by
 unfold mayOf at h ⊢
 by_cases h0 : cellIn (r, c2, c3, p, 0, c6) b.ents.length b.accs.length = 0
 ·rw [if_pos h0] at h
  have h1 : cellIn (r', c2, c3, q, 0, c6) b.ents.length b.accs.length = 0 := by
   unfold cellIn at h0 ⊢
   by_cases hc : cellOK (r, c2, c3, p, 0, c6) = true
   ·rw [if_pos hc] at h0
    have hc2 : cellOK (r', c2, c3, q, 0, c6) = true := by
     unfold cellOK at hc ⊢
     simp only [Bool.and_eq_true, wi, decide_eq_true_eq, Bool.not_eq_true'] at hc ⊢
     simp only at h
     by_cases hr2 : r < 1 ∨ 2 < r
     ·rw [if_pos hr2] at h; cases h
     ·have e1 : r = 1 ∨ r = 2 := by omega
      rw [if_pos e1, if_pos e1] at hc
      rw [if_pos hr, if_pos hr]
      have e3 : r ≤ 3 := by omega
      have e4 : r' ≤ 3 := by omega
      rw [if_pos e3] at hc
      rw [if_pos e4]
      refine ⟨⟨⟨⟨⟨⟨by omega, hc.1.1.1.1.1.2⟩, hc.1.1.1.1.2⟩, by omega⟩, by omega⟩, hc.1.2⟩, hc.2⟩
    rw [if_pos hc2]
    exact h0
   ·rw [if_neg hc] at h0; cases h0
  rw [if_pos h1]
  simp only at h ⊢
  by_cases hr2 : r < 1 ∨ 2 < r
  ·rw [if_pos hr2] at h; cases h
  ·rw [if_neg hr2] at h
   rw [if_neg (by omega)]
   exact h
 ·rw [if_neg h0] at h; exact absurd h h0
theorem Row.apart {P : Nat → Prop} {w : World} {v : Value} {n size : Nat} {cs : List Value} (h : Row P w v n size cs) {z : Nat} {T : TypeId} {cz : Array Value} (hz : Blk w z T cz) (hne : ∀ o, ¬ ∀ (j : Nat) (u : Value), cs[j]? = some u → cz[o + j]? = some u) : Row (fun g => g ≠ z) w v n size cs := by
 obtain ⟨A, c, rfl, h1, h2, h3, h4, h5⟩ := h
 refine ⟨A, c, rfl, h1, h2, h3, h4, fun hn => ?_⟩
 obtain ⟨g, o, ha, ⟨_, hlt⟩, hc⟩ := h5 hn
 refine ⟨g, o, ha, ⟨fun e => hne o fun j u hu => ?_, hlt⟩, hc⟩
 have h6 := hc j u hu
 rw [e, hz.cell (o + j)] at h6
 exact h6
theorem Row.none {P P' : Nat → Prop} {w : World} {v : Value} {size : Nat} {cs : List Value} (h : Row P w v 0 size cs) : Row P' w v 0 size cs := by
 obtain ⟨A, c, rfl, h1, h2, h3, h4, h5⟩ := h
 exact ⟨A, c, rfl, h1, h2, h3, h4, fun hn => absurd hn (by omega)⟩
theorem dg_fits {x : Int} (h : x.natAbs ≤ 10000000000 * 9223372036854775808) : (dg x.natAbs).length ≤ 50000 := Nat.le_trans (dg_lenk 97 (by omega)) (by decide)
theorem told2_fits {x : Int} (h : (told2 x).2 = 0) : told2 x = (x, 0) := by
 unfold told2 at h ⊢
 split
 ·rfl
 ·rename_i h9; rw [if_neg h9] at h; cases h
end Go.Gk
namespace Go.Proofs.YtdangnmeligfjaaGreatDoor
open Go.RowKit Go.Gk
def SumAt2 (T : TypeId) (y1 y : Nat) (w : World) (x : Int) : Prop := ∃ sg D n c, Blk w y T #[.bool sg, .slice D n c] ∧ BigIs (fun g => g ≠ y1 ∧ g ≠ y) w (.agg #[.bool sg, .slice D n c]) x
theorem BigIs.form2 {B : Nat → Prop} {w : World} {v : Value} {x : Int} (h : BigIs B w v x) : ∃ sg D n c, v = .agg #[.bool sg, .slice D n c] := by
 obtain ⟨dv, rfl, hd⟩ := h
 obtain ⟨D, c, rfl, _, _⟩ := hd.form
 exact ⟨_, D, _, c, rfl⟩
theorem BigIs.beside {w w' : World} {v : Value} {x : Int} {B F : Nat → Prop} (h : BigIs B w v x) (t : Tch F w w') (hn : ∀ g, B g → ¬ F g) : BigIs B w' v x :=
 let ⟨dv, e, hd⟩ := h; ⟨dv, e, hd.keepTo t fun _ _ hg => ⟨hn _ hg, hg⟩⟩
theorem SumAt2.keep {T : TypeId} {y1 y : Nat} {w w' : World} {x : Int} (h : SumAt2 T y1 y w x) (t : Tch (fun g => g = y1) w w') (hy : y ≠ y1) : SumAt2 T y1 y w' x :=
 let ⟨sg, D, n, c, h1, h2⟩ := h; ⟨sg, D, n, c, h1.keep t hy, h2.beside t fun _ hg => hg.1⟩
theorem SumAt2.zero {T : TypeId} {y1 y : Nat} {w : World} (h : Blk w y T #[.bool false, .slice none 0 0]) : SumAt2 T y1 y w 0 :=
 ⟨false, none, 0, 0, h, ⟨.slice none 0 0, rfl, by rw [show dg (0 : Int).natAbs = [] by simp [dg_zero]]; exact Row.nil _ _ _⟩⟩
end Go.Proofs.YtdangnmeligfjaaGreatDoor
