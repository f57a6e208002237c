/-
  The arguments of the rows of layer 9, opened.
-/
import Derived.Test.YtnknemepfjfcfaaFr
import Derived.Test.YtnknemepfjfcfaaLp
namespace Go.Proofs.Ytnknemepfjfcfaa
open Go.ChangeShapes Go.WideShapes Go.RowKit Go.Deep Go.Gk

/-- A slice that came in: nil, or its elements' cells, each read. -/
theorem slice_cells2 {H : Type} {enc : TypeId × Value → H} {P : Program} {w : World} {base : Nat} {spare : Nat → Bool} {held : Bool} {t e : TypeId} {d : DataW H} {p : List MemPlace} {A : Option Addr} {n c : Nat} (ht : P.underlying t = some (.slice e)) (hC : 0 < P.cellsOf e)
    (h : DataW.Trod enc P w base spare held t (.slice A n c) d p) :
    n ≤ c ∧ c ≤ maxLen ∧ (A = none → n = 0 ∧ c = 0) ∧ (0 < n → ∃ b off, A = some ⟨b, off, none⟩ ∧ b < w.heap.size ∧ ∀ i, i < n → ∃ (cs : List Value) (m : Nat) (y : DataW H × List MemPlace), cs.length = P.cellsOf e ∧ (∀ j, j < P.cellsOf e → w.cell? ⟨b, off + i * P.cellsOf e + j, none⟩ = cs[j]?) ∧ DataW.trod enc P w base spare held m e cs = some y) := by
  obtain ⟨fuel, hf⟩ := h
  rcases open_slice ht hf with ⟨hcs, _⟩ | ⟨a, len, cap, m, k, D, Pl, hcs, hb, hl, hm, hmm, hx, hi⟩
  · simp [Value.cells] at hcs
    obtain ⟨rfl, rfl, rfl⟩ := hcs
    exact ⟨Nat.le_refl _, Nat.zero_le _, fun _ => ⟨rfl, rfl⟩, fun h => absurd h (by omega)⟩
  · simp [Value.cells] at hcs
    obtain ⟨rfl, rfl, rfl⟩ := hcs
    refine ⟨hl, hm, (fun h => by cases h), fun hn => ?_⟩
    obtain ⟨b, off, spot⟩ := a
    have hnm : n ≤ m := by rw [hmm]; split <;> omega
    have cell : ∀ i, i < n → ∃ cs', cs'.length = P.cellsOf e ∧ (∀ j, j < P.cellsOf e → w.cell? (((⟨b, off, spot⟩ : Addr).add (i * P.cellsOf e)).add j) = cs'[j]?) ∧ DataW.trod enc P w base spare held k e cs' = some (D i, Pl i) := fun i hin => by
      obtain ⟨cs', hc, ht'⟩ := hi i (by omega)
      obtain ⟨_, h1, h2⟩ := World.cells?_some hc
      exact ⟨cs', h1, h2, ht'⟩
    obtain ⟨cs0, h1, h2, _⟩ := cell 0 hn
    have hc0 := h2 0 hC
    rw [List.getElem?_eq_getElem (by omega), Nat.zero_mul] at hc0
    simp only [Addr.add, if_true] at hc0
    obtain rfl : spot = none := World.cell?_spot hc0
    refine ⟨b, off, rfl, World.block_lt_of_cell? w _ hc0, fun i hin => ?_⟩
    obtain ⟨cs', g1, g2, g3⟩ := cell i hin
    refine ⟨cs', k, _, g1, fun j hj => ?_, g3⟩
    rw [← g2 j hj]
    congr 1
    simp only [Addr.add]
    split <;> split <;> simp_all

theorem cells_Act9 : Try.prog.cellsOf 32 = 3 := by kernel_rfl
theorem cells_Pair : Try.prog.cellsOf 25 = 2 := by kernel_rfl
theorem cells_int9 : Try.prog.cellsOf 3 = 1 := by kernel_rfl

section
variable {H : Type} {enc : TypeId × Value → H} {w : World} {base : Nat} {spare : Nat → Bool} {held : Bool}

set_option maxRecDepth 100000 in
/-- Two numbers side by side. -/
theorem open_pair {m : Nat} {cs : List Value} {y : DataW H × List MemPlace} (h : DataW.trod enc Try.prog w base spare held m 25 cs = some y) : ∃ a b : Int, cs = [.int .i64 a, .int .i64 b] ∧ (Lit.int .i64 a).wf = true ∧ (Lit.int .i64 b).wf = true := by
  obtain ⟨xs, k, _, _, hl, hlen, hf⟩ := DataW.trod_array Try.underlying25 h
  rw [cells_Pair] at hl
  match cs, hl with
  | [c0, c1], _ =>
    have g0 := hf 0 (by decide)
    have g1 := hf 1 (by decide)
    rw [cells_int9] at g0 g1
    obtain ⟨a, e0, w0⟩ := fields_int Try.underlying3 g0 (by rw [List.getElem?_eq_getElem (by omega)]; rfl)
    obtain ⟨b, e1, w1⟩ := fields_int Try.underlying3 g1 (by rw [List.getElem?_eq_getElem (by omega)]; rfl)
    simp at e0 e1
    subst e0 e1
    exact ⟨a, b, rfl, w0, w1⟩

set_option maxRecDepth 100000 in
theorem open_acts9 {d : DataW H} {p : List MemPlace} {A : Option Addr} {n c : Nat} (h : DataW.Trod enc Try.prog w base spare held 22 (.slice A n c) d p) : ∃ l, Acts9 w A n c l := by
  obtain ⟨h1, h2, _, h3⟩ := slice_cells2 Try.underlying22 (by rw [cells_Act9]; omega) h
  rw [cells_Act9] at h3
  have h2' : c ≤ 9223372036854775807 := by unfold maxLen at h2; exact h2
  by_cases hn : 0 < n
  · obtain ⟨b, off, rfl, hb, hc⟩ := h3 hn
    obtain ⟨l, hl, hp⟩ := list_of (P := fun i (x : Int × Int × Int) => w.cell? ⟨b, off + i * 3, none⟩ = some (.int .i64 x.1) ∧ w.cell? ⟨b, off + i * 3 + 1, none⟩ = some (.int .i64 x.2.1) ∧ w.cell? ⟨b, off + i * 3 + 2, none⟩ = some (.int .i64 x.2.2)) n (fun i hi => by
      obtain ⟨cs, m, y, hcs, hcell, ht⟩ := hc i hi
      match cs, hcs with
      | [c0, c1, c2], _ =>
        obtain ⟨xs, k, _, _, _, hlen, hf⟩ := DataW.trod_struct Try.underlying32 ht
        have g0 : DataW.trod enc Try.prog w base spare held k 3 (([c0, c1, c2].drop 0).take (Try.prog.cellsOf 3)) = xs[0]? := hf 0 _ rfl
        have g1 : DataW.trod enc Try.prog w base spare held k 25 (([c0, c1, c2].drop 1).take (Try.prog.cellsOf 25)) = xs[1]? := hf 1 _ rfl
        rw [cells_int9] at g0
        rw [cells_Pair] at g1
        have hlen' : xs.length = 2 := hlen
        obtain ⟨m0, e0, w0⟩ := fields_int Try.underlying3 g0 (by rw [List.getElem?_eq_getElem (by omega)]; rfl)
        obtain ⟨y1, hy1⟩ : ∃ y, xs[1]? = some y := ⟨_, List.getElem?_eq_getElem (by omega)⟩
        rw [hy1] at g1
        obtain ⟨a, b', e1, _, _⟩ := open_pair g1
        simp at e0 e1
        obtain ⟨rfl, rfl⟩ := e1
        subst e0
        exact ⟨(m0, a, b'), by simpa using hcell 0 (by omega), by simpa using hcell 1 (by omega), by simpa using hcell 2 (by omega)⟩)
    exact ⟨l, hl, h1, h2', fun _ => ⟨b, off, rfl, fun i hi => hp i hi⟩⟩
  · exact ⟨[], by simp; omega, h1, h2', fun h => absurd h hn⟩

set_option maxRecDepth 100000 in
theorem open_pairs9 {d : DataW H} {p : List MemPlace} {A : Option Addr} {n c : Nat} (h : DataW.Trod enc Try.prog w base spare held 28 (.slice A n c) d p) : ∃ l : KV, l.length = n ∧ Prs (fun _ => True) w (.slice A n c) l := by
  obtain ⟨h1, h2, h0, h3⟩ := slice_cells2 Try.underlying28 (by rw [cells_Pair]; omega) h
  rw [cells_Pair] at h3
  by_cases hn : 0 < n
  · obtain ⟨b, off, rfl, hb, hc⟩ := h3 hn
    obtain ⟨l, hl, hp⟩ := list_of (P := fun i (x : Int × Int) => w.cell? ⟨b, off + i * 2, none⟩ = some (.int .i64 x.1) ∧ w.cell? ⟨b, off + i * 2 + 1, none⟩ = some (.int .i64 x.2)) n (fun i hi => by
      obtain ⟨cs, m, y, hcs, hcell, ht⟩ := hc i hi
      obtain ⟨a, b', rfl, _, _⟩ := open_pair ht
      exact ⟨(a, b'), by simpa using hcell 0 (by omega), by simpa using hcell 1 (by omega)⟩)
    subst hl
    refine ⟨l, rfl, _, c, rfl, h1, h2, flat_len flatP2 l, h0, fun _ => ⟨b, off, rfl, ⟨trivial, hb⟩, fun j u hu => ?_⟩⟩
    have hj := (List.getElem?_eq_some_iff.1 hu).1
    rw [flat_len flatP2] at hj
    have hi : j / 2 < l.length := by omega
    have hpi := hp (j / 2) hi
    have hfa := flat_at flatP2 l (j / 2) hi (j % 2) (by omega)
    rw [show j / 2 * 2 + j % 2 = j by omega, hu] at hfa
    rcases Nat.mod_two_eq_zero_or_one j with e | e
    · rw [e] at hfa
      have : u = .int .i64 l[j / 2].1 := by simpa [flatP] using hfa
      rw [this, show off + j = off + j / 2 * 2 by omega]
      exact hpi.1
    · rw [e] at hfa
      have : u = .int .i64 l[j / 2].2 := by simpa [flatP] using hfa
      rw [this, show off + j = off + j / 2 * 2 + 1 by omega]
      exact hpi.2
  · obtain rfl : n = 0 := by omega
    exact ⟨[], rfl, A, c, rfl, h1, h2, rfl, h0, fun h => absurd h (by decide)⟩
end

end Go.Proofs.Ytnknemepfjfcfaa
