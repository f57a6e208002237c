/-
  Plain: partners of books that may be. No program in sight.
-/
import Derived.Test.YtblenmelciaigaaGreatZ24
import Derived.Test.YtblenmelciaigaaGreatFu
namespace Go.Gk.V33
theorem ids_iff {n : Nat} {x : Int} : x ∈ accIds n ↔ 1 ≤ x ∧ x ≤ n := by
  unfold accIds
  rw [List.mem_map]
  constructor
  · rintro ⟨i, hi, rfl⟩
    have := List.mem_range.1 hi
    omega
  · intro h
    exact ⟨(x - 1).toNat, List.mem_range.2 (by omega), by omega⟩
theorem parts_few {b : Bks} (hok : booksOK b = true) {e a p : Int} {zs : List Int} (hn : zs.Nodup) (hm : ∀ q, q ∈ zs ↔ q ∈ ptnOf (posts b.entries) e a p) : zs.length ≤ b.ents.length ∧ ∀ q ∈ zs, (1 ≤ q ∧ q ≤ b.ents.length) ∧ q ≠ e := by
  have h2 : ∀ q ∈ zs, (1 ≤ q ∧ q ≤ (b.ents.length : Int)) ∧ q ≠ e := fun q hq => by
    obtain ⟨h0, x, hx, he, hxq⟩ := ptn_some ((hm q).1 hq)
    have h1 := ok_lines hok x hx
    unfold lineOK at h1
    simp only [Bool.and_eq_true, decide_eq_true_eq, Bool.not_eq_true', beq_eq_false_iff_ne, ne_eq] at h1
    obtain ⟨⟨⟨_, _⟩, ⟨h3, h4⟩, h5⟩, _⟩ := h1
    rw [hxq] at h3 h4 h5
    rw [he] at h5
    omega
  refine ⟨?_, h2⟩
  have := nodup_sub zs (accIds b.ents.length) hn (fun q hq => ids_iff.2 (h2 q hq).1)
  rwa [accIds_len] at this
/-- Whether a node holds nobody. -/
def Lone (b : Bks) (p : Nat) (x : Int) : Prop := ∀ i : Int, 1 ≤ i → i ≤ b.ents.length → stkUp b.stakes i p ≠ x
end Go.Gk.V33
