/-
  What the frames of the rows share: a slice of structs or numbers that came in, opened to its cells.
-/
import Derived.Test.YtdangnmeligfjaaGreatDoorRows
import Derived.WalkKit
import Derived.ProofKit
import Derived.OpenShut
import Derived.ShutString
import Derived.ChangeOld
import Derived.Below
import Derived.Deep.Slices
import Derived.Deep.Fields
namespace Go.Proofs.YtdangnmeligfjaaGreatDoor
open Go.ChangeShapes Go.WideShapes Go.ChangeAt Go.RowKit Go.Deep

theorem frame_own : ownKnob Tryz.prog.godebug = none := by kernel_rfl
theorem frame_laid : laidOutB Tryz.prog = true := by kernel_rfl

/-- A list, one by one. -/
theorem list_of {α : Type} {P : Nat → α → Prop} : ∀ (n : Nat), (∀ i, i < n → ∃ x, P i x) → ∃ l : List α, l.length = n ∧ ∀ i (h : i < l.length), P i l[i]
  | 0, _ => ⟨[], rfl, fun i h => by cases h⟩
  | n + 1, h => by
    obtain ⟨l, hl, hp⟩ := list_of n (fun i hi => h i (by omega))
    obtain ⟨x, hx⟩ := h n (by omega)
    refine ⟨l ++ [x], by simp [hl], fun i hi => ?_⟩
    by_cases hin : i < l.length
    · rw [List.getElem_append_left hin]; exact hp i hin
    · have hi' : i < (l ++ [x]).length := hi
      rw [List.length_append] at hi'
      obtain rfl : i = l.length := by simp at hi'; omega
      rw [List.getElem_append_right (Nat.le_refl _)]
      simp only [Nat.sub_self, List.getElem_cons_zero]
      rw [hl]; exact hx

theorem fields_int {H : Type} {enc : TypeId × Value → H} {P : Program} {w : World} {base : Nat} {spare : Nat → Bool} {held : Bool} {t : TypeId} {k : IntKind} {n : Nat} {cs : List Value} {x : Option (DataW H × List MemPlace)}
    (ht : P.underlying t = some (.int k)) (h : DataW.trod enc P w base spare held n t cs = x) (hx : x.isSome) : ∃ m, cs = [.int k m] ∧ (Lit.int k m).wf = true := by
  obtain ⟨y, rfl⟩ := Option.isSome_iff_exists.1 hx
  obtain ⟨m, h1, _, h2⟩ := DataW.trod_int ht h
  exact ⟨m, h1, h2⟩

/-- A slice that came in: nil, or its elements' cells, each read. -/
theorem slice_cells {H : Type} {enc : TypeId × Value → H} {P : Program} {w : World} {base : Nat} {spare : Nat → Bool} {held : Bool} {t e : TypeId} {d : DataW H} {p : List MemPlace} {A : Option Addr} {n c : Nat} (ht : P.underlying t = some (.slice e)) (hC : 0 < P.cellsOf e)
    (h : DataW.Trod enc P w base spare held t (.slice A n c) d p) :
    n ≤ c ∧ c ≤ maxLen ∧ (0 < n → ∃ b off, A = some ⟨b, off, none⟩ ∧ b < w.heap.size ∧ ∀ i, i < n → ∃ (cs : List Value) (m : Nat) (y : DataW H × List MemPlace), cs.length = P.cellsOf e ∧ (∀ j, j < P.cellsOf e → w.cell? ⟨b, off + i * P.cellsOf e + j, none⟩ = cs[j]?) ∧ DataW.trod enc P w base spare held m e cs = some y) := by
  obtain ⟨fuel, hf⟩ := h
  rcases open_slice ht hf with ⟨hcs, _⟩ | ⟨a, len, cap, m, k, D, Pl, hcs, hb, hl, hm, hmm, hx, hi⟩
  · simp [Value.cells] at hcs
    obtain ⟨rfl, rfl, rfl⟩ := hcs
    exact ⟨Nat.le_refl _, Nat.zero_le _, fun h => absurd h (by omega)⟩
  · simp [Value.cells] at hcs
    obtain ⟨rfl, rfl, rfl⟩ := hcs
    refine ⟨hl, hm, fun hn => ?_⟩
    obtain ⟨b, off, spot⟩ := a
    have hnm : n ≤ m := by rw [hmm]; split <;> omega
    have cell : ∀ i, i < n → ∃ cs', cs'.length = P.cellsOf e ∧ (∀ j, j < P.cellsOf e → w.cell? (((⟨b, off, spot⟩ : Addr).add (i * P.cellsOf e)).add j) = cs'[j]?) ∧ DataW.trod enc P w base spare held k e cs' = some (D i, Pl i) := fun i hin => by
      obtain ⟨cs', hc, ht'⟩ := hi i (by omega)
      obtain ⟨_, h1, h2⟩ := World.cells?_some hc
      exact ⟨cs', h1, h2, ht'⟩
    obtain ⟨cs0, h1, h2, _⟩ := cell 0 hn
    have hc0 := h2 0 hC
    rw [List.getElem?_eq_getElem (by omega), Nat.zero_mul] at hc0
    simp only [Addr.add, if_true] at hc0
    obtain rfl : spot = none := World.cell?_spot hc0
    refine ⟨b, off, rfl, World.block_lt_of_cell? w _ hc0, fun i hin => ?_⟩
    obtain ⟨cs', g1, g2, g3⟩ := cell i hin
    refine ⟨cs', k, _, g1, fun j hj => ?_, g3⟩
    rw [← g2 j hj]
    congr 1
    simp only [Addr.add]
    split <;> split <;> simp_all

end Go.Proofs.YtdangnmeligfjaaGreatDoor
