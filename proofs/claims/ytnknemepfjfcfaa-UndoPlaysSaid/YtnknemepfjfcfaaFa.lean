/-
  The arguments of the rows of layer 16, opened.
-/
import Derived.Test.YtnknemepfjfcfaaFr
import Derived.Test.YtnknemepfjfcfaaUa
namespace Go.Proofs.Ytnknemepfjfcfaa
open Go.ChangeShapes Go.WideShapes Go.RowKit Go.Gk

theorem cells_Act16 : Try.prog.cellsOf 55 = 3 := by kernel_rfl
theorem cells_int : Try.prog.cellsOf 3 = 1 := by kernel_rfl

theorem open_acts16 {H : Type} {enc : TypeId × Value → H} {w : World} {base : Nat} {spare : Nat → Bool} {held : Bool} {d : DataW H} {p : List MemPlace} {A : Option Addr} {n c : Nat}
    (h : DataW.Trod enc Try.prog w base spare held 47 (.slice A n c) d p) : ∃ l, ActsIs w A n c l := by
  obtain ⟨h1, h2, h3⟩ := slice_cells Try.underlying47 (by rw [cells_Act16]; omega) h
  rw [cells_Act16] at h3
  have h2' : c ≤ 9223372036854775807 := by unfold maxLen at h2; exact h2
  by_cases hn : 0 < n
  · obtain ⟨b, off, rfl, hb, hc⟩ := h3 hn
    obtain ⟨l, hl, hp⟩ := list_of (P := fun i (x : Act3) => (wfi x.1 ∧ wfi x.2.1 ∧ wfi x.2.2) ∧ w.cell? ⟨b, off + i * 3, none⟩ = some (.int .i64 x.1) ∧ w.cell? ⟨b, off + i * 3 + 1, none⟩ = some (.int .i64 x.2.1) ∧ w.cell? ⟨b, off + i * 3 + 2, none⟩ = some (.int .i64 x.2.2)) n (fun i hi => by
      obtain ⟨cs, m, y, hcs, hcell, ht⟩ := hc i hi
      match cs, hcs with
      | [c0, c1, c2], _ =>
        obtain ⟨xs, k, _, _, _, hlen, hf⟩ := DataW.trod_struct Try.underlying55 ht
        have g0 : DataW.trod enc Try.prog w base spare held k 3 (([c0, c1, c2].drop 0).take (Try.prog.cellsOf 3)) = xs[0]? := hf 0 _ rfl
        have g1 : DataW.trod enc Try.prog w base spare held k 3 (([c0, c1, c2].drop 1).take (Try.prog.cellsOf 3)) = xs[1]? := hf 1 _ rfl
        have g2 : DataW.trod enc Try.prog w base spare held k 3 (([c0, c1, c2].drop 2).take (Try.prog.cellsOf 3)) = xs[2]? := hf 2 _ rfl
        rw [cells_int] at g0 g1 g2
        have hlen' : xs.length = 3 := hlen
        obtain ⟨m0, e0, w0⟩ := fields_int Try.underlying3 g0 (by rw [List.getElem?_eq_getElem (by omega)]; rfl)
        obtain ⟨m1, e1, w1⟩ := fields_int Try.underlying3 g1 (by rw [List.getElem?_eq_getElem (by omega)]; rfl)
        obtain ⟨m2, e2, w2⟩ := fields_int Try.underlying3 g2 (by rw [List.getElem?_eq_getElem (by omega)]; rfl)
        simp at e0 e1 e2
        subst e0 e1 e2
        exact ⟨(m0, m1, m2), ⟨w0, w1, w2⟩, by simpa using hcell 0 (by omega), by simpa using hcell 1 (by omega), by simpa using hcell 2 (by omega)⟩)
    refine ⟨l, hl, h1, h2', fun a ha => ?_, fun _ => ⟨b, off, rfl, hb, fun i hi => (hp i hi).2⟩⟩
    obtain ⟨i, hi, rfl⟩ := List.getElem_of_mem ha
    exact (hp i hi).1
  · exact ⟨[], by simp; omega, h1, h2', by simp, fun h => absurd h hn⟩

end Go.Proofs.Ytnknemepfjfcfaa
