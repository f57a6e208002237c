/-
  A row of numbers that came in, opened.
-/
import Derived.Test.YtnknemepfjfcfaaFb
import Derived.Test.YtnknemepfjfcfaaLt
namespace Go.Proofs.Ytnknemepfjfcfaa
open Go.ChangeShapes Go.WideShapes Go.RowKit Go.Deep Go.Gk

set_option maxRecDepth 100000 in
theorem open_nums9 {H : Type} {enc : TypeId × Value → H} {w : World} {base : Nat} {spare : Nat → Bool} {held : Bool} {d : DataW H} {p : List MemPlace} {A : Option Addr} {n c : Nat} (h : DataW.Trod enc Try.prog w base spare held 41 (.slice A n c) d p) : ∃ keys, Nums w A n c keys := by
  obtain ⟨h1, h2, h0, h3⟩ := slice_cells2 Try.underlying41 (by rw [cells_int9]; omega) h
  rw [cells_int9] at h3
  by_cases hn : 0 < n
  · obtain ⟨b, off, rfl, hb, hc⟩ := h3 hn
    obtain ⟨l, hl, hp⟩ := list_of (P := fun i (x : Int) => w.cell? ⟨b, off + i, none⟩ = some (.int .i64 x)) n (fun i hi => by
      obtain ⟨cs, m, y, hcs, hcell, ht⟩ := hc i hi
      obtain ⟨a, rfl, _⟩ := fields_int Try.underlying3 ht rfl
      exact ⟨a, by simpa using hcell 0 (by omega)⟩)
    subst hl
    refine ⟨l, rfl, _, c, rfl, h1, h2, by simp, h0, fun _ => ⟨b, off, rfl, ⟨trivial, hb⟩, fun j u hu => ?_⟩⟩
    have hj := (List.getElem?_eq_some_iff.1 hu).1
    rw [List.length_map] at hj
    rw [List.getElem?_map, List.getElem?_eq_getElem hj] at hu
    rw [← hu]
    exact hp j hj
  · obtain rfl : n = 0 := by omega
    exact ⟨[], rfl, A, c, rfl, h1, h2, rfl, h0, fun h => absurd h (by decide)⟩

end Go.Proofs.Ytnknemepfjfcfaa
