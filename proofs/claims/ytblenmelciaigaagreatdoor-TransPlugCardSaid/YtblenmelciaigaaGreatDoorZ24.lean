/-
  Plain: few leaves, few posts.
-/
import Derived.Test.YtblenmelciaigaaGreatDoorZ13
import Derived.Test.YtblenmelciaigaaGreatDoorZ9
import Derived.Test.YtblenmelciaigaaGreatDoorZ23
import Derived.Test.YtblenmelciaigaaGreatDoorZ21
namespace Go.Gk
open Go.RowKit
theorem leaves_few {b : Bks} (h : BksFew b) : (accLeaves b.accs).length ≤ 1000 := by
  have h1 := h.accs
  unfold accLeaves
  refine Nat.le_trans (List.length_filter_le _ _) ?_
  unfold accIds
  simp
  omega
theorem posts_few {b : Bks} (h : BksFew b) : (posts b.entries).length ≤ 10000 := by
  have h1 := h.entries
  have h2 := posts_len b.entries 60 h.lines
  have h3 : b.entries.length * 60 ≤ 30 * 60 := Nat.mul_le_mul_right _ h1
  omega
theorem posts_64 {b : Bks} (h : Bks64 b) : ∀ p ∈ posts b.entries, I64 p.2.2.2.2 := by
  intro p hp
  unfold posts at hp
  obtain ⟨x, hx, hp⟩ := List.mem_flatMap.1 hp
  obtain ⟨l, hl, rfl⟩ := List.mem_map.1 hp
  exact ((h.entries x hx).2.2 l hl).2.2.2
end Go.Gk

/-
  The document's: keys that may be.
-/
namespace Go.Gk
open Go.RowKit
section
variable {P : Program} {ops : Array Oper} {rest : List Oper} {op : Oper} {a : Act} {w : World} {Q : Exit → Act → World → Prop}
end
end Go.Gk
namespace Go.Proofs.YtblenmelciaigaaGreatDoor
open Go.RowKit Go.Gk

section
variable {w : World} {e a s r l n : Value} {b : Bks} {us : List (Ent × Value)}

end
end Go.Proofs.YtblenmelciaigaaGreatDoor
