/-
  Plain: a cell of an owned row is written; things in a row are put elsewhere.
-/
import Derived.Test.YtnknemepfjfcfaaPh
import Derived.Deep.MidRow
import Derived.Laws.ResultCell
import Derived.Laws.Rows
namespace Go.Gk
open Go.RowKit

theorem own_set {w : World} {base : Nat} {e : TypeId} {size n c g : Nat} {xs : List Value} (h : w.ownsRow base e size (.slice (some ⟨g, 0, none⟩) n c) n xs) (j : Nat) (u : Value) : (w.setCell ⟨g, j, none⟩ u).ownsRow base e size (.slice (some ⟨g, 0, none⟩) n c) n (xs.set j u) := by
  refine ⟨by rw [List.length_set]; exact h.1, ?_⟩
  rcases h.2 with ⟨h, _⟩ | ⟨g', cap, cur, h1, h2, h3, h4, h5, h6, h7⟩
  · cases h
  · injection h1 with e1 e2 e3
    injection e1 with e1
    injection e1 with e1
    subst e1 e3
    have hb : Blk w g e cur := h3
    have hb' := hb.set_ j u
    refine .inr ⟨g, c, _, rfl, h2, hb', h4, h5, by simpa using h6, ?_⟩
    rw [← h7, Array.toList_setIfInBounds, List.take_set]

theorem flat3_set : ∀ (l : List T3) (i : Nat) (a : T3), ((((l.flatMap flat3).set (i * 3) (.int .i64 a.1)).set (i * 3 + 1) (.int .i64 a.2.1)).set (i * 3 + 2) (.int .i64 a.2.2)) = (l.set i a).flatMap flat3
  | [], i, a => by simp
  | b :: r, 0, a => by simp [flat3]
  | b :: r, i + 1, a => by
    have ih := flat3_set r i a
    have e : ∀ (m : List Value) (j : Nat) (u : Value), (flat3 b ++ m).set (j + 3) u = flat3 b ++ m.set j u := fun m j u => by simp [flat3]
    simp only [List.flatMap_cons, List.set_cons_succ]
    rw [show (i + 1) * 3 = i * 3 + 3 by omega, show i * 3 + 3 + 1 = (i * 3 + 1) + 3 by omega, show i * 3 + 3 + 2 = (i * 3 + 2) + 3 by omega, e, e, e, ih]

/-- The three cells of a thing written. -/
theorem own_thing {w : World} {base : Nat} {e : TypeId} {c g : Nat} {l : List T3} (h : w.ownsRow base e 3 (.slice (some ⟨g, 0, none⟩) l.length c) l.length (l.flatMap flat3)) (i : Nat) (a : T3) :
    (((w.setCell ⟨g, i * 3, none⟩ (.int .i64 a.1)).setCell ⟨g, i * 3 + 1, none⟩ (.int .i64 a.2.1)).setCell ⟨g, i * 3 + 2, none⟩ (.int .i64 a.2.2)).ownsRow base e 3 (.slice (some ⟨g, 0, none⟩) l.length c) l.length ((l.set i a).flatMap flat3) := by
  have h1 := own_set (own_set (own_set h (i * 3) (.int .i64 a.1)) (i * 3 + 1) (.int .i64 a.2.1)) (i * 3 + 2) (.int .i64 a.2.2)
  rwa [flat3_set] at h1

theorem Tch.set3 (w : World) (g i : Nat) (a b c : Value) : Tch (fun k => k = g) w (((w.setCell ⟨g, i, none⟩ a).setCell ⟨g, i + 1, none⟩ b).setCell ⟨g, i + 2, none⟩ c) :=
  ((Tch.setCell (F := fun k => k = g) w (p := ⟨g, i, none⟩) (.inl rfl) a).trans (Tch.setCell (F := fun k => k = g) _ (p := ⟨g, i + 1, none⟩) (.inl rfl) b)).trans (Tch.setCell (F := fun k => k = g) _ (p := ⟨g, i + 2, none⟩) (.inl rfl) c)

theorem own_frozen {w : World} {base : Nat} {e : TypeId} {size n c g : Nat} {xs : List Value} (h : w.ownsRow base e size (.slice (some ⟨g, 0, none⟩) n c) n xs) (j : Nat) : w.frozen? ⟨g, j, none⟩ = false := by
  rcases h.2 with ⟨h, _⟩ | ⟨g', cap, cur, h1, h2, h3, _⟩
  · cases h
  · injection h1 with e1 e2 e3
    injection e1 with e1
    injection e1 with e1
    subst e1
    exact (show Blk w g e cur from h3).frozen j

theorem own_there {w : World} {base : Nat} {e : TypeId} {size n c g : Nat} {xs : List Value} (h : w.ownsRow base e size (.slice (some ⟨g, 0, none⟩) n c) n xs) (o m : Nat) (hm : o + m ≤ xs.length) : w.there g o m := fun j hj => by
  refine ⟨?_, own_frozen h _⟩
  rw [own_cell h (g := g) rfl (List.getElem?_eq_getElem (show o + j < xs.length by omega))]
  rfl

theorem setCells3 (w : World) (g o : Nat) (a b c : Value) : w.setCells g o [a, b, c] = ((w.setCell ⟨g, o, none⟩ a).setCell ⟨g, o + 1, none⟩ b).setCell ⟨g, o + 2, none⟩ c := rfl

/-- A thing written at its place. -/
theorem own_things {w : World} {base : Nat} {e : TypeId} {c g : Nat} {l : List T3} (h : w.ownsRow base e 3 (.slice (some ⟨g, 0, none⟩) l.length c) l.length (l.flatMap flat3)) (i : Nat) (a : T3) :
    (w.setCells g (i * 3) (flat3 a)).ownsRow base e 3 (.slice (some ⟨g, 0, none⟩) (l.set i a).length c) (l.set i a).length ((l.set i a).flatMap flat3) := by
  rw [List.length_set]
  exact own_thing h i a
theorem Tch.setCells {F : Nat → Prop} {g : Nat} (hF : F g) : ∀ (vs : List Value) (o : Nat) (w : World), Tch F w (w.setCells g o vs)
  | [], _, w => Tch.refl _ w
  | v :: r, o, w => (Tch.setCell (F := F) w (p := ⟨g, o, none⟩) (.inl hF) v).trans (Tch.setCells hF r (o + 1) _)

theorem flat3_take (l : List T3) (m : Nat) (h : m ≤ l.length) : (l.flatMap flat3).take (m * 3) = (l.take m).flatMap flat3 := by
  have h1 : l.flatMap flat3 = (l.take m).flatMap flat3 ++ (l.drop m).flatMap flat3 := by rw [← List.flatMap_append, List.take_append_drop]
  rw [h1, List.take_left' (by rw [flat3_len, List.length_take]; omega)]
/-- A row of things is cut at its end. -/
theorem own_cut3 {w : World} {base : Nat} {e : TypeId} {c : Nat} {A : Option Addr} {l : List T3} (h : w.ownsRow base e 3 (.slice A l.length c) l.length (l.flatMap flat3)) (m : Nat) (hm : m ≤ l.length) :
    w.ownsRow base e 3 (.slice A m c) (l.take m).length ((l.take m).flatMap flat3) := by
  have := own_take h hm
  rw [flat3_take _ _ hm] at this
  rwa [List.length_take, Nat.min_eq_left hm]

theorem results_row_tmp {P : Program} {fn : Func} {p u : Tmp} {ty : TypeId} (h : fn.results = #[.cell p ty, .tmp u]) (tmps : Array Value) (w : World) (g : Nat) (t : TypeId) (cs : Array Value) (fr : Nat × Nat) (d : TypeDesc)
    (hp : tmps.getD p undef = .pointer (some ⟨g, 0, none⟩)) (hg : w.heap[g]? = some (.cells cs t fr))
    (hu : P.underlying ty = some d) (hd : (match d with | .struct _ | .array _ _ => true | _ => false) = true) (hi : (P.info? ty).map (·.size) = some cs.size) :
    (results fn tmps).run P w = .ok (.tuple #[.agg cs, tmps.getD u undef]) w := by
  rw [results_cell_tmp h, hp]
  simp [asAddr, run_loadVar_row w g t ty cs fr d hg hu hd hi, Result.andThen]

theorem Tch.sets2 (w : World) (z : Nat) (u v : Value) : Tch (fun g => g = z) w ((w.setCell ⟨z, 0, none⟩ u).setCell ⟨z, 1, none⟩ v) :=
  (Tch.setCell (F := fun g => g = z) w (p := ⟨z, 0, none⟩) (.inl rfl) u).trans (Tch.setCell (F := fun g => g = z) _ (p := ⟨z, 1, none⟩) (.inl rfl) v)

end Go.Gk
