/-
  Plain: few leaves, few posts.
-/
import Derived.Test.YtblenmelciaigaaGreatDoorZ13
import Derived.Test.YtblenmelciaigaaGreatDoorZ9
import Derived.Test.YtblenmelciaigaaGreatDoorZ23
import Derived.Test.YtblenmelciaigaaGreatDoorZ21
namespace Go.Gk
open Go.RowKit
theorem leaves_few {b : Bks} (h : BksFew b) : (accLeaves b.accs).length ≤ 1000 := by
  have h1 := h.accs
  unfold accLeaves
  refine Nat.le_trans (List.length_filter_le _ _) ?_
  unfold accIds
  simp
  omega
theorem posts_few {b : Bks} (h : BksFew b) : (posts b.entries).length ≤ 10000 := by
  have h1 := h.entries
  have h2 := posts_len b.entries 60 h.lines
  have h3 : b.entries.length * 60 ≤ 30 * 60 := Nat.mul_le_mul_right _ h1
  omega
theorem posts_64 {b : Bks} (h : Bks64 b) : ∀ p ∈ posts b.entries, I64 p.2.2.2.2 := by
  intro p hp
  unfold posts at hp
  obtain ⟨x, hx, hp⟩ := List.mem_flatMap.1 hp
  obtain ⟨l, hl, rfl⟩ := List.mem_map.1 hp
  exact ((h.entries x hx).2.2 l hl).2.2.2
end Go.Gk

/-
  The document's: keys that may be.
-/
namespace Go.Gk
open Go.RowKit
section
variable {P : Program} {ops : Array Oper} {rest : List Oper} {op : Oper} {a : Act} {w : World} {Q : Exit → Act → World → Prop}
/-- A value of two cells is stored into a block that is known whole. -/
theorem wpList_store_two (hgd : op.guard = none) (ty : TypeId) (x y : Operand) (ho : op.op = .store ty x y) (b o : Nat) (u v : Value) (hx : a.eval x = .pointer (some ⟨b, o, none⟩)) (hy : a.eval y = .agg #[u, v]) (h1 : u.oneCell' = true) (h2 : v.oneCell' = true) (hi : (P.info? ty).map (·.size) = some 2)
    {t : TypeId} {cs : Array Value} (hb : Blk w b t cs) (hlt : o + 1 < cs.size) (h : ∀ W, Blk W b t ((cs.setIfInBounds o u).setIfInBounds (o + 1) v) → Tch (fun g => g = b) w W → wpList P ops Q rest (a.put op.dst undef) W) : wpList P ops Q (op :: rest) a w := by
  refine wpList_store_mid hgd ty x y ho b o #[u, v] hx hy (fun j hj => ⟨?_, hb.frozen _⟩) hi (by simp [h1, h2]) ?_
  · have hj2 : j < 2 := hj
    have hc := hb.cell (o + j)
    rw [Array.getElem?_eq_getElem (by omega)] at hc
    rw [hc]; rfl
  · exact h _ ((hb.set_ o u).set_ (o + 1) v) ((Tch.setCell (F := fun g => g = b) w (p := ⟨b, o, none⟩) (.inl rfl) u).trans (Tch.setCell (F := fun g => g = b) _ (p := ⟨b, o + 1, none⟩) (.inl rfl) v))
end
end Go.Gk
namespace Go.Proofs.YtblenmelciaigaaGreatDoor
open Go.RowKit Go.Gk

section
variable {w : World} {e a s r l n : Value} {b : Bks} {us : List (Ent × Value)}

set_option maxRecDepth 100000 in
set_option maxHeartbeats 1600000 in
theorem refmay31_any (h : BksAt w e a s r l n b us) (hn : b.accs.length ≤ 100000) (c : Rt6) (lo hi : Int) :
    Calls Tryz.prog 34 #[.agg #[e, a, s, r, l, n], cellV c, .int .i64 lo, .int .i64 hi] w fun x w' => x = .returned (.int .i64 (mayOf b c lo hi)) ∧ Tch (fun _ => False) w w' := by
  have tA := Tch.alloc (fun _ => False) w (.cells #[e, a, s, r, l, n] 29)
  obtain ⟨c1, c2, c3, c4, c5, c6⟩ := c
  have tB := Tch.alloc (fun _ => False) (w.alloc (.cells #[e, a, s, r, l, n] 29)) (.cells #[.int .i64 c1, .int .i64 c2, .int .i64 c3, .int .i64 c4, .int .i64 c5, .int .i64 c6] 31)
  have tw := tA.trans tB
  have hbB := (Blk.new w 29 #[e, a, s, r, l, n]).keep tB id
  have hbC := Blk.new2 w (.cells #[e, a, s, r, l, n] 29) 31 #[.int .i64 c1, .int .i64 c2, .int .i64 c3, .int .i64 c4, .int .i64 c5, .int .i64 c6]
  have HM := Lib.hid (refmay30_any (h.keep tw) (c1, c2, c3, c4, c5, c6))
  have HL := Lib.hid (fun w' (tc : Tch (fun _ => False) _ w') => refleaf30_any ((h.keep tw).keep tc) hn c3)
  obtain ⟨m, hm⟩ : ∃ m, mayOf b (c1, c2, c3, c4, c5, c6) lo hi = m := ⟨_, rfl⟩
  rw [hm]
  unfold mayOf at hm
  simp only at hm
  generalize cellIn (c1, c2, c3, c4, c5, c6) b.ents.length b.accs.length = k at *
  generalize accLeaf b.accs c3 = lf at *
  have HMM := Lib.hid hm
  unfold cellV at HM ⊢
  simp only at HM ⊢
  obtain ⟨Ae, ce, rfl, _, _⟩ := h.ents.form
  obtain ⟨Aa, ca, rfl, _, _⟩ := h.accs.form
  obtain ⟨As, cs, rfl, _, _⟩ := h.stakes.form
  obtain ⟨Ar, cr, rfl, _, _⟩ := h.rates.form
  obtain ⟨Al, cl, rfl, _, _⟩ := h.locks.form
  obtain ⟨An, cn, rfl, _, _⟩ := h.ent.row.form
  clear hm h tA tB
  go_enter Tryz.func34, Tryz.ntmps34
  go_wp2_with fail
  generalize (w.alloc (.cells #[.slice Ae b.ents.length ce, .slice Aa b.accs.length ca, .slice As b.stakes.length cs, .slice Ar b.rates.length cr, .slice Al b.locks.length cl, .slice An us.length cn] 29)).alloc (.cells #[.int .i64 c1, .int .i64 c2, .int .i64 c3, .int .i64 c4, .int .i64 c5, .int .i64 c6] 31) = W at *
  generalize w.heap.size = z at *
  refine HM.out.mono ?_
  rintro _ w1 ⟨rfl, t1⟩
  clear HM
  have tt := tw.trans t1
  by_cases hk : k = 0
  rotate_left
  · have hk' : (k != 0) = true := by simpa using hk
    obtain rfl : m = k := by rw [← HMM.out, if_neg hk]
    clear HMM
    go_wp2
    go_ret
    exact ⟨rfl, tt⟩
  subst hk
  have q0 : w1.cell? ⟨z + 1, 0, none⟩ = some (.int .i64 c1) := (hbC.keep t1 id).cell 0
  have q2 : w1.cell? ⟨z + 1, 2, none⟩ = some (.int .i64 c3) := (hbC.keep t1 id).cell 2
  have hB := hbB.keep t1 id
  have g0 : w1.cell? ⟨z, 0, none⟩ = some _ := hB.cell 0
  have g1 : w1.cell? ⟨z, 1, none⟩ = some _ := hB.cell 1
  have g2 : w1.cell? ⟨z, 2, none⟩ = some _ := hB.cell 2
  have g3 : w1.cell? ⟨z, 3, none⟩ = some _ := hB.cell 3
  have g4 : w1.cell? ⟨z, 4, none⟩ = some _ := hB.cell 4
  have g5 : w1.cell? ⟨z, 5, none⟩ = some _ := hB.cell 5
  clear hB hbB hbC
  by_cases hlo : c1 < lo
  · obtain rfl : m = 25 := by rw [← HMM.out, if_pos rfl, if_pos (.inl hlo)]
    clear HMM
    go_wp2
    go_ret
    exact ⟨rfl, tt⟩
  by_cases hhi : hi < c1
  · obtain rfl : m = 25 := by rw [← HMM.out, if_pos rfl, if_pos (.inr hhi)]
    clear HMM
    go_wp2
    go_ret
    exact ⟨rfl, tt⟩
  have HM2 := Lib.hid (show (if lf = true then (0 : Int) else 27) = m by
    have h9 := HMM.out
    rw [if_pos rfl, if_neg (show ¬ (c1 < lo ∨ hi < c1) by omega)] at h9
    exact h9)
  clear HMM
  go_wp2_with fail
  refine (HL.out w1 t1).mono ?_
  rintro _ w2 ⟨rfl, t2⟩
  clear HL q0 q2 g0 g1 g2 g3 g4 g5
  cases lf
  · obtain rfl : m = 27 := by rw [← HM2.out]; rfl
    go_wp2
    go_ret
    exact ⟨rfl, tt.trans t2⟩
  · obtain rfl : m = 0 := by rw [← HM2.out]; rfl
    go_wp2
    go_ret
    exact ⟨rfl, tt.trans t2⟩

end
end Go.Proofs.YtblenmelciaigaaGreatDoor
