/-
  Recipes of movements and balances, made.
-/
import Derived.Test.YtblenmelciaigaaGreatZ20
namespace Go.Proofs.YtblenmelciaigaaGreat
open Go.RowKit Go.Gk

theorem one6 (x : Rt6) : ∀ u ∈ int6 x, u.oneCell' = true := by
  intro u hu
  unfold int6 at hu
  simp only [List.mem_cons, List.not_mem_nil, or_false] at hu
  rcases hu with rfl | rfl | rfl | rfl | rfl | rfl <;> rfl
theorem rowCells : RowTy Tryz.prog 40 31 (.agg #[.int .i64 0, .int .i64 0, .int .i64 0, .int .i64 0, .int .i64 0, .int .i64 0]) 6 48 := ⟨Tryz.underlying40, by kernel_rfl, rfl, by decide⟩

section
variable {w : World} {bv bi B t mr mp : Nat} {e a s r l n lv : Value} {fs : List Value} {b : Bks} {us : List (Ent × Value)}

def RecOk (b : Bks) (c : Rt6) (w : World) (x : Ending) (w' : World) : Prop := ∃ v, x = .returned (.tuple #[v, .int .i64 (localOf b c).2]) ∧ RcpIs w' v (localOf b c).1 ∧ Tch (fun _ => False) w w'

end
end Go.Proofs.YtblenmelciaigaaGreat
