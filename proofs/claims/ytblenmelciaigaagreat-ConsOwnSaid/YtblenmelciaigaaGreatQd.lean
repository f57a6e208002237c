/-
  The argument of a row that is a value, opened.
-/
import Derived.Test.YtblenmelciaigaaGreatZ25
import Derived.Test.YtblenmelciaigaaGreatZ49
namespace Go.Proofs.YtblenmelciaigaaGreat
set_option maxRecDepth 100000
open Go.ChangeShapes Go.WideShapes Go.RowKit Go.Deep Go.Gk
theorem cellsD_Errno : Tryz.prog.cellsOf 32 = 1 := by kernel_rfl
theorem cellsD_Value : Tryz.prog.cellsOf 34 = 2 := by kernel_rfl
section
variable {H : Type} {enc : TypeId × Value → H} {w : World} {base : Nat} {spare : Nat → Bool} {held : Bool}
theorem open_value {m : Nat} {cs : List Value} {y : DataW H × List MemPlace} (h : DataW.trod enc Tryz.prog w base spare held m 34 cs = some y) : ∃ a, cs = val2 a ∧ (I64 a.1 ∧ I64 a.2) := by
  obtain ⟨xs, k, _, _, hl, hlen, hf⟩ := DataW.trod_struct Tryz.underlying34 h
  rw [cellsD_Value] at hl
  have hlen' : xs.length = 2 := hlen
  match cs, hl with
  | [c0, c1], _ =>
    have g0 : DataW.trod enc Tryz.prog w base spare held k 3 (([c0, c1].drop 0).take (Tryz.prog.cellsOf 3)) = xs[0]? := hf 0 _ rfl
    rw [cellsD_int] at g0
    obtain ⟨m0, e0, w0⟩ := fields_int Tryz.underlying3 g0 (by rw [List.getElem?_eq_getElem (by omega)]; rfl)
    have g1 : DataW.trod enc Tryz.prog w base spare held k 32 (([c0, c1].drop 1).take (Tryz.prog.cellsOf 32)) = xs[1]? := hf 1 _ rfl
    rw [cellsD_Errno] at g1
    obtain ⟨m1, e1, w1⟩ := fields_int Tryz.underlying32 g1 (by rw [List.getElem?_eq_getElem (by omega)]; rfl)
    simp at e0
    subst e0
    simp at e1
    subst e1
    exact ⟨(m0, m1), rfl, ⟨i64_wf w0, i64_wf w1⟩⟩
/-- A value that came in. -/
theorem open_vl {r : Reach} {base' : Nat} {v : Value} {d : DataW H} {p : List MemPlace} (hval : Value.okWide Tryz.prog w r base' 34 v) (h : DataW.Trod enc Tryz.prog w base spare held 34 v d p) : ∃ o : Vl, v = vlV o ∧ I64 o.1 ∧ I64 o.2 := by
  obtain ⟨cs, rfl, _⟩ := okWide_struct Tryz.underlying34 hval
  obtain ⟨fuel, hf⟩ := h
  obtain ⟨a, e, ha⟩ := open_value hf
  obtain ⟨cs⟩ := cs
  have hcells : (Value.agg ⟨cs⟩).cells.toList = cs := rfl
  rw [hcells] at e
  subst e
  exact ⟨a, rfl, ha⟩
end
end Go.Proofs.YtblenmelciaigaaGreat
