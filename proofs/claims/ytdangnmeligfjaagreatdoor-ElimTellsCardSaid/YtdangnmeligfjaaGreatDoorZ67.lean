/-
  The document's: the recipe of an elimination.
-/
import Derived.Test.YtdangnmeligfjaaGreatDoorZ63
import Derived.Test.YtdangnmeligfjaaGreatDoorQm
import Derived.Test.YtdangnmeligfjaaGreatDoorZ24
namespace Go.Proofs.YtdangnmeligfjaaGreatDoor
open Go.RowKit Go.Gk Go.Gk.V33

section
variable {w : World} {e a s r l n : Value} {b : Bks} {us : List (Ent × Value)}
set_option maxRecDepth 100000 in
set_option maxHeartbeats 12800000 in
theorem refelim34_any (h : BksAt w e a s r l n b us) (hul : us.length ≤ 300) (hll : ∀ p ∈ us, p.1.lines.length ≤ 100) (hn : b.accs.length ≤ 1000) (hpo : (posts b.entries).length ≤ 10000) (hok : booksOK b = true) (c1 c2 c3 c4 c5 c6 : Int) :
    Calls Tryz.prog 10 #[.agg #[e, a, s, r, l, n], .agg #[.int .i64 c1, .int .i64 c2, .int .i64 c3, .int .i64 c4, .int .i64 c5, .int .i64 c6]] w (ElimOk b (c1, c2, c3, c4, c5, c6) w) := by
  have ta := Tch.alloc (fun _ => False) w (.cells #[e, a, s, r, l, n] 29)
  have tb := Tch.alloc (fun _ => False) (w.alloc (.cells #[e, a, s, r, l, n] 29)) (.cells #[.int .i64 c1, .int .i64 c2, .int .i64 c3, .int .i64 c4, .int .i64 c5, .int .i64 c6] 31)
  have tc := Tch.alloc (fun _ => False) ((w.alloc (.cells #[e, a, s, r, l, n] 29)).alloc (.cells #[.int .i64 c1, .int .i64 c2, .int .i64 c3, .int .i64 c4, .int .i64 c5, .int .i64 c6] 31)) (.cells #[.int .i64 0, .int .i64 0, .slice none 0 0, .slice none 0 0, .int .i64 0, .int .i64 0, .int .i64 0, .int .i64 0, .int .i64 0, .int .i64 0, .bool false, .int .i64 0, .int .i64 0, .bool false] 50)
  have td := Tch.alloc (fun _ => False) (((w.alloc (.cells #[e, a, s, r, l, n] 29)).alloc (.cells #[.int .i64 c1, .int .i64 c2, .int .i64 c3, .int .i64 c4, .int .i64 c5, .int .i64 c6] 31)).alloc (.cells #[.int .i64 0, .int .i64 0, .slice none 0 0, .slice none 0 0, .int .i64 0, .int .i64 0, .int .i64 0, .int .i64 0, .int .i64 0, .int .i64 0, .bool false, .int .i64 0, .int .i64 0, .bool false] 50)) (.cells #[.int .i64 0, .int .i64 0, .slice none 0 0, .slice none 0 0, .int .i64 0, .int .i64 0, .int .i64 0, .int .i64 0, .int .i64 0, .int .i64 0, .bool false, .int .i64 0, .int .i64 0, .bool false] 50)
  have tcd := tc.trans td
  have tw := (ta.trans tb).trans tcd
  have bB := ((Blk.new w 29 #[e, a, s, r, l, n]).keep tb id).keep tcd id
  have bC := (Blk.new2 w (.cells #[e, a, s, r, l, n] 29) 31 #[.int .i64 c1, .int .i64 c2, .int .i64 c3, .int .i64 c4, .int .i64 c5, .int .i64 c6]).keep tcd id
  have bO : Blk ((((w.alloc (.cells #[e, a, s, r, l, n] 29)).alloc (.cells #[.int .i64 c1, .int .i64 c2, .int .i64 c3, .int .i64 c4, .int .i64 c5, .int .i64 c6] 31)).alloc (.cells #[.int .i64 0, .int .i64 0, .slice none 0 0, .slice none 0 0, .int .i64 0, .int .i64 0, .int .i64 0, .int .i64 0, .int .i64 0, .int .i64 0, .bool false, .int .i64 0, .int .i64 0, .bool false] 50)).alloc (.cells #[.int .i64 0, .int .i64 0, .slice none 0 0, .slice none 0 0, .int .i64 0, .int .i64 0, .int .i64 0, .int .i64 0, .int .i64 0, .int .i64 0, .bool false, .int .i64 0, .int .i64 0, .bool false] 50)) (w.heap.size + 1 + 1) 50 #[.int .i64 0, .int .i64 0, .slice none 0 0, .slice none 0 0, .int .i64 0, .int .i64 0, .int .i64 0, .int .i64 0, .int .i64 0, .int .i64 0, .bool false, .int .i64 0, .int .i64 0, .bool false] := by simpa using (Blk.new ((w.alloc (.cells #[e, a, s, r, l, n] 29)).alloc (.cells #[.int .i64 c1, .int .i64 c2, .int .i64 c3, .int .i64 c4, .int .i64 c5, .int .i64 c6] 31)) 50 #[.int .i64 0, .int .i64 0, .slice none 0 0, .slice none 0 0, .int .i64 0, .int .i64 0, .int .i64 0, .int .i64 0, .int .i64 0, .int .i64 0, .bool false, .int .i64 0, .int .i64 0, .bool false]).keep td id
  have bR : Blk ((((w.alloc (.cells #[e, a, s, r, l, n] 29)).alloc (.cells #[.int .i64 c1, .int .i64 c2, .int .i64 c3, .int .i64 c4, .int .i64 c5, .int .i64 c6] 31)).alloc (.cells #[.int .i64 0, .int .i64 0, .slice none 0 0, .slice none 0 0, .int .i64 0, .int .i64 0, .int .i64 0, .int .i64 0, .int .i64 0, .int .i64 0, .bool false, .int .i64 0, .int .i64 0, .bool false] 50)).alloc (.cells #[.int .i64 0, .int .i64 0, .slice none 0 0, .slice none 0 0, .int .i64 0, .int .i64 0, .int .i64 0, .int .i64 0, .int .i64 0, .int .i64 0, .bool false, .int .i64 0, .int .i64 0, .bool false] 50)) (w.heap.size + 1 + 1 + 1) 50 #[.int .i64 0, .int .i64 0, .slice none 0 0, .slice none 0 0, .int .i64 0, .int .i64 0, .int .i64 0, .int .i64 0, .int .i64 0, .int .i64 0, .bool false, .int .i64 0, .int .i64 0, .bool false] := by simpa using Blk.new (((w.alloc (.cells #[e, a, s, r, l, n] 29)).alloc (.cells #[.int .i64 c1, .int .i64 c2, .int .i64 c3, .int .i64 c4, .int .i64 c5, .int .i64 c6] 31)).alloc (.cells #[.int .i64 0, .int .i64 0, .slice none 0 0, .slice none 0 0, .int .i64 0, .int .i64 0, .int .i64 0, .int .i64 0, .int .i64 0, .int .i64 0, .bool false, .int .i64 0, .int .i64 0, .bool false] 50)) 50 #[.int .i64 0, .int .i64 0, .slice none 0 0, .slice none 0 0, .int .i64 0, .int .i64 0, .int .i64 0, .int .i64 0, .int .i64 0, .int .i64 0, .bool false, .int .i64 0, .int .i64 0, .bool false]
  have HH := Lib.hid (fun w' (t9 : Tch (fun _ => False) w w') => h.keep t9)
  have HM := Lib.hid (refmay31_any (h.keep tw) (by omega) (c1, c2, c3, c4, c5, c6) 6 6)
  unfold cellV at HM
  simp only at HM
  have HFA := Lib.hid (fun h => may_facts (b := b) (c := (c1, c2, c3, c4, c5, c6)) (lo := 6) (hi := 6) h)
  have HBAD := Lib.hid (elim_bad (b := b) (c := (c1, c2, c3, c4, c5, c6)))
  have HGOOD := Lib.hid (show mayOf b (c1, c2, c3, c4, c5, c6) 6 6 = 0 → elimOf b (c1, c2, c3, c4, c5, c6) = ({ Rcp.none with plus := elimPlus b (c1, c2, c3, c4, c5, c6), minus := elimMinus b (c1, c2, c3, c4, c5, c6) }, 0) from fun h => by unfold elimOf; rw [if_pos h])
  have H3P := Lib.hid (three_ptn hok)
  have HOK := Lib.hid hok
  have HSL := Lib.hid (fun x => sides_len (ok_stakes hok).1 (c1, c2, c3, c4, c5, c6) x)
  have HPL := Lib.hid (plus_len b (c1, c2, c3, c4, c5, c6))
  obtain ⟨m, hm⟩ : ∃ m, mayOf b (c1, c2, c3, c4, c5, c6) 6 6 = m := ⟨_, rfl⟩
  rw [hm] at HM HFA HBAD HGOOD
  obtain ⟨Ae, ce, rfl, _, _⟩ := h.ents.form
  obtain ⟨Aa, ca, rfl, _, _⟩ := h.accs.form
  obtain ⟨As, cs, rfl, _, _⟩ := h.stakes.form
  obtain ⟨Ar, cr, rfl, _, _⟩ := h.rates.form
  obtain ⟨Al, cl, rfl, _, _⟩ := h.locks.form
  obtain ⟨An, cn, rfl, _, _⟩ := h.ent.row.form
  clear hm h hok ta tb tc td tcd
  go_enter Tryz.func10, Tryz.ntmps10
  have g0 : ((((w.alloc (.cells #[.slice Ae b.ents.length ce, .slice Aa b.accs.length ca, .slice As b.stakes.length cs, .slice Ar b.rates.length cr, .slice Al b.locks.length cl, .slice An us.length cn] 29)).alloc (.cells #[.int .i64 c1, .int .i64 c2, .int .i64 c3, .int .i64 c4, .int .i64 c5, .int .i64 c6] 31)).alloc (.cells #[.int .i64 0, .int .i64 0, .slice none 0 0, .slice none 0 0, .int .i64 0, .int .i64 0, .int .i64 0, .int .i64 0, .int .i64 0, .int .i64 0, .bool false, .int .i64 0, .int .i64 0, .bool false] 50)).alloc (.cells #[.int .i64 0, .int .i64 0, .slice none 0 0, .slice none 0 0, .int .i64 0, .int .i64 0, .int .i64 0, .int .i64 0, .int .i64 0, .int .i64 0, .bool false, .int .i64 0, .int .i64 0, .bool false] 50)).cell? ⟨w.heap.size, 0, none⟩ = some (.slice Ae b.ents.length ce) := bB.cell 0
  have g1 : ((((w.alloc (.cells #[.slice Ae b.ents.length ce, .slice Aa b.accs.length ca, .slice As b.stakes.length cs, .slice Ar b.rates.length cr, .slice Al b.locks.length cl, .slice An us.length cn] 29)).alloc (.cells #[.int .i64 c1, .int .i64 c2, .int .i64 c3, .int .i64 c4, .int .i64 c5, .int .i64 c6] 31)).alloc (.cells #[.int .i64 0, .int .i64 0, .slice none 0 0, .slice none 0 0, .int .i64 0, .int .i64 0, .int .i64 0, .int .i64 0, .int .i64 0, .int .i64 0, .bool false, .int .i64 0, .int .i64 0, .bool false] 50)).alloc (.cells #[.int .i64 0, .int .i64 0, .slice none 0 0, .slice none 0 0, .int .i64 0, .int .i64 0, .int .i64 0, .int .i64 0, .int .i64 0, .int .i64 0, .bool false, .int .i64 0, .int .i64 0, .bool false] 50)).cell? ⟨w.heap.size, 1, none⟩ = some (.slice Aa b.accs.length ca) := bB.cell 1
  have g2 : ((((w.alloc (.cells #[.slice Ae b.ents.length ce, .slice Aa b.accs.length ca, .slice As b.stakes.length cs, .slice Ar b.rates.length cr, .slice Al b.locks.length cl, .slice An us.length cn] 29)).alloc (.cells #[.int .i64 c1, .int .i64 c2, .int .i64 c3, .int .i64 c4, .int .i64 c5, .int .i64 c6] 31)).alloc (.cells #[.int .i64 0, .int .i64 0, .slice none 0 0, .slice none 0 0, .int .i64 0, .int .i64 0, .int .i64 0, .int .i64 0, .int .i64 0, .int .i64 0, .bool false, .int .i64 0, .int .i64 0, .bool false] 50)).alloc (.cells #[.int .i64 0, .int .i64 0, .slice none 0 0, .slice none 0 0, .int .i64 0, .int .i64 0, .int .i64 0, .int .i64 0, .int .i64 0, .int .i64 0, .bool false, .int .i64 0, .int .i64 0, .bool false] 50)).cell? ⟨w.heap.size, 2, none⟩ = some (.slice As b.stakes.length cs) := bB.cell 2
  have g3 : ((((w.alloc (.cells #[.slice Ae b.ents.length ce, .slice Aa b.accs.length ca, .slice As b.stakes.length cs, .slice Ar b.rates.length cr, .slice Al b.locks.length cl, .slice An us.length cn] 29)).alloc (.cells #[.int .i64 c1, .int .i64 c2, .int .i64 c3, .int .i64 c4, .int .i64 c5, .int .i64 c6] 31)).alloc (.cells #[.int .i64 0, .int .i64 0, .slice none 0 0, .slice none 0 0, .int .i64 0, .int .i64 0, .int .i64 0, .int .i64 0, .int .i64 0, .int .i64 0, .bool false, .int .i64 0, .int .i64 0, .bool false] 50)).alloc (.cells #[.int .i64 0, .int .i64 0, .slice none 0 0, .slice none 0 0, .int .i64 0, .int .i64 0, .int .i64 0, .int .i64 0, .int .i64 0, .int .i64 0, .bool false, .int .i64 0, .int .i64 0, .bool false] 50)).cell? ⟨w.heap.size, 3, none⟩ = some (.slice Ar b.rates.length cr) := bB.cell 3
  have g4 : ((((w.alloc (.cells #[.slice Ae b.ents.length ce, .slice Aa b.accs.length ca, .slice As b.stakes.length cs, .slice Ar b.rates.length cr, .slice Al b.locks.length cl, .slice An us.length cn] 29)).alloc (.cells #[.int .i64 c1, .int .i64 c2, .int .i64 c3, .int .i64 c4, .int .i64 c5, .int .i64 c6] 31)).alloc (.cells #[.int .i64 0, .int .i64 0, .slice none 0 0, .slice none 0 0, .int .i64 0, .int .i64 0, .int .i64 0, .int .i64 0, .int .i64 0, .int .i64 0, .bool false, .int .i64 0, .int .i64 0, .bool false] 50)).alloc (.cells #[.int .i64 0, .int .i64 0, .slice none 0 0, .slice none 0 0, .int .i64 0, .int .i64 0, .int .i64 0, .int .i64 0, .int .i64 0, .int .i64 0, .bool false, .int .i64 0, .int .i64 0, .bool false] 50)).cell? ⟨w.heap.size, 4, none⟩ = some (.slice Al b.locks.length cl) := bB.cell 4
  have g5 : ((((w.alloc (.cells #[.slice Ae b.ents.length ce, .slice Aa b.accs.length ca, .slice As b.stakes.length cs, .slice Ar b.rates.length cr, .slice Al b.locks.length cl, .slice An us.length cn] 29)).alloc (.cells #[.int .i64 c1, .int .i64 c2, .int .i64 c3, .int .i64 c4, .int .i64 c5, .int .i64 c6] 31)).alloc (.cells #[.int .i64 0, .int .i64 0, .slice none 0 0, .slice none 0 0, .int .i64 0, .int .i64 0, .int .i64 0, .int .i64 0, .int .i64 0, .int .i64 0, .bool false, .int .i64 0, .int .i64 0, .bool false] 50)).alloc (.cells #[.int .i64 0, .int .i64 0, .slice none 0 0, .slice none 0 0, .int .i64 0, .int .i64 0, .int .i64 0, .int .i64 0, .int .i64 0, .int .i64 0, .bool false, .int .i64 0, .int .i64 0, .bool false] 50)).cell? ⟨w.heap.size, 5, none⟩ = some (.slice An us.length cn) := bB.cell 5
  have k0 : ((((w.alloc (.cells #[.slice Ae b.ents.length ce, .slice Aa b.accs.length ca, .slice As b.stakes.length cs, .slice Ar b.rates.length cr, .slice Al b.locks.length cl, .slice An us.length cn] 29)).alloc (.cells #[.int .i64 c1, .int .i64 c2, .int .i64 c3, .int .i64 c4, .int .i64 c5, .int .i64 c6] 31)).alloc (.cells #[.int .i64 0, .int .i64 0, .slice none 0 0, .slice none 0 0, .int .i64 0, .int .i64 0, .int .i64 0, .int .i64 0, .int .i64 0, .int .i64 0, .bool false, .int .i64 0, .int .i64 0, .bool false] 50)).alloc (.cells #[.int .i64 0, .int .i64 0, .slice none 0 0, .slice none 0 0, .int .i64 0, .int .i64 0, .int .i64 0, .int .i64 0, .int .i64 0, .int .i64 0, .bool false, .int .i64 0, .int .i64 0, .bool false] 50)).cell? ⟨w.heap.size + 1, 0, none⟩ = some (.int .i64 c1) := bC.cell 0
  have k1 : ((((w.alloc (.cells #[.slice Ae b.ents.length ce, .slice Aa b.accs.length ca, .slice As b.stakes.length cs, .slice Ar b.rates.length cr, .slice Al b.locks.length cl, .slice An us.length cn] 29)).alloc (.cells #[.int .i64 c1, .int .i64 c2, .int .i64 c3, .int .i64 c4, .int .i64 c5, .int .i64 c6] 31)).alloc (.cells #[.int .i64 0, .int .i64 0, .slice none 0 0, .slice none 0 0, .int .i64 0, .int .i64 0, .int .i64 0, .int .i64 0, .int .i64 0, .int .i64 0, .bool false, .int .i64 0, .int .i64 0, .bool false] 50)).alloc (.cells #[.int .i64 0, .int .i64 0, .slice none 0 0, .slice none 0 0, .int .i64 0, .int .i64 0, .int .i64 0, .int .i64 0, .int .i64 0, .int .i64 0, .bool false, .int .i64 0, .int .i64 0, .bool false] 50)).cell? ⟨w.heap.size + 1, 1, none⟩ = some (.int .i64 c2) := bC.cell 1
  have k2 : ((((w.alloc (.cells #[.slice Ae b.ents.length ce, .slice Aa b.accs.length ca, .slice As b.stakes.length cs, .slice Ar b.rates.length cr, .slice Al b.locks.length cl, .slice An us.length cn] 29)).alloc (.cells #[.int .i64 c1, .int .i64 c2, .int .i64 c3, .int .i64 c4, .int .i64 c5, .int .i64 c6] 31)).alloc (.cells #[.int .i64 0, .int .i64 0, .slice none 0 0, .slice none 0 0, .int .i64 0, .int .i64 0, .int .i64 0, .int .i64 0, .int .i64 0, .int .i64 0, .bool false, .int .i64 0, .int .i64 0, .bool false] 50)).alloc (.cells #[.int .i64 0, .int .i64 0, .slice none 0 0, .slice none 0 0, .int .i64 0, .int .i64 0, .int .i64 0, .int .i64 0, .int .i64 0, .int .i64 0, .bool false, .int .i64 0, .int .i64 0, .bool false] 50)).cell? ⟨w.heap.size + 1, 2, none⟩ = some (.int .i64 c3) := bC.cell 2
  have k3 : ((((w.alloc (.cells #[.slice Ae b.ents.length ce, .slice Aa b.accs.length ca, .slice As b.stakes.length cs, .slice Ar b.rates.length cr, .slice Al b.locks.length cl, .slice An us.length cn] 29)).alloc (.cells #[.int .i64 c1, .int .i64 c2, .int .i64 c3, .int .i64 c4, .int .i64 c5, .int .i64 c6] 31)).alloc (.cells #[.int .i64 0, .int .i64 0, .slice none 0 0, .slice none 0 0, .int .i64 0, .int .i64 0, .int .i64 0, .int .i64 0, .int .i64 0, .int .i64 0, .bool false, .int .i64 0, .int .i64 0, .bool false] 50)).alloc (.cells #[.int .i64 0, .int .i64 0, .slice none 0 0, .slice none 0 0, .int .i64 0, .int .i64 0, .int .i64 0, .int .i64 0, .int .i64 0, .int .i64 0, .bool false, .int .i64 0, .int .i64 0, .bool false] 50)).cell? ⟨w.heap.size + 1, 3, none⟩ = some (.int .i64 c4) := bC.cell 3
  have k4 : ((((w.alloc (.cells #[.slice Ae b.ents.length ce, .slice Aa b.accs.length ca, .slice As b.stakes.length cs, .slice Ar b.rates.length cr, .slice Al b.locks.length cl, .slice An us.length cn] 29)).alloc (.cells #[.int .i64 c1, .int .i64 c2, .int .i64 c3, .int .i64 c4, .int .i64 c5, .int .i64 c6] 31)).alloc (.cells #[.int .i64 0, .int .i64 0, .slice none 0 0, .slice none 0 0, .int .i64 0, .int .i64 0, .int .i64 0, .int .i64 0, .int .i64 0, .int .i64 0, .bool false, .int .i64 0, .int .i64 0, .bool false] 50)).alloc (.cells #[.int .i64 0, .int .i64 0, .slice none 0 0, .slice none 0 0, .int .i64 0, .int .i64 0, .int .i64 0, .int .i64 0, .int .i64 0, .int .i64 0, .bool false, .int .i64 0, .int .i64 0, .bool false] 50)).cell? ⟨w.heap.size + 1, 4, none⟩ = some (.int .i64 c5) := bC.cell 4
  have k5 : ((((w.alloc (.cells #[.slice Ae b.ents.length ce, .slice Aa b.accs.length ca, .slice As b.stakes.length cs, .slice Ar b.rates.length cr, .slice Al b.locks.length cl, .slice An us.length cn] 29)).alloc (.cells #[.int .i64 c1, .int .i64 c2, .int .i64 c3, .int .i64 c4, .int .i64 c5, .int .i64 c6] 31)).alloc (.cells #[.int .i64 0, .int .i64 0, .slice none 0 0, .slice none 0 0, .int .i64 0, .int .i64 0, .int .i64 0, .int .i64 0, .int .i64 0, .int .i64 0, .bool false, .int .i64 0, .int .i64 0, .bool false] 50)).alloc (.cells #[.int .i64 0, .int .i64 0, .slice none 0 0, .slice none 0 0, .int .i64 0, .int .i64 0, .int .i64 0, .int .i64 0, .int .i64 0, .int .i64 0, .bool false, .int .i64 0, .int .i64 0, .bool false] 50)).cell? ⟨w.heap.size + 1, 5, none⟩ = some (.int .i64 c6) := bC.cell 5
  go_wp2_with fail
  generalize (((w.alloc (.cells #[.slice Ae b.ents.length ce, .slice Aa b.accs.length ca, .slice As b.stakes.length cs, .slice Ar b.rates.length cr, .slice Al b.locks.length cl, .slice An us.length cn] 29)).alloc (.cells #[.int .i64 c1, .int .i64 c2, .int .i64 c3, .int .i64 c4, .int .i64 c5, .int .i64 c6] 31)).alloc (.cells #[.int .i64 0, .int .i64 0, .slice none 0 0, .slice none 0 0, .int .i64 0, .int .i64 0, .int .i64 0, .int .i64 0, .int .i64 0, .int .i64 0, .bool false, .int .i64 0, .int .i64 0, .bool false] 50)).alloc _ = W at *
  generalize hzw : w.heap.size = z at *
  have HZW := Lib.hid hzw
  clear hzw
  refine HM.out.mono ?_
  rintro _ w1 ⟨rfl, t1⟩
  have bB1 := bB.keep t1 id
  have bC1 := bC.keep t1 id
  have bO1 := bO.keep t1 id
  have bR1 := bR.keep t1 id
  have T1 := tw.trans t1
  clear HM bB bC bO bR tw t1 g0 g1 g2 g3 g4 g5 k0 k1 k2 k3 k4 k5
  by_cases hm0 : m = 0
  rotate_left
  · have hmb : (m != 0) = true := by simpa using hm0
    have HRS := Lib.hid (HBAD.out hm0)
    clear hm0 HFA HBAD HGOOD H3P HOK HSL HPL HH bB1 bC1
    have f0 : w1.cell? ⟨z + 1 + 1 + 1, 0, none⟩ = some (.int .i64 0) := bR1.cell 0
    have f1 : w1.cell? ⟨z + 1 + 1 + 1, 1, none⟩ = some (.int .i64 0) := bR1.cell 1
    have f2 : w1.cell? ⟨z + 1 + 1 + 1, 2, none⟩ = some (.slice none 0 0) := bR1.cell 2
    have f3 : w1.cell? ⟨z + 1 + 1 + 1, 3, none⟩ = some (.slice none 0 0) := bR1.cell 3
    have f4 : w1.cell? ⟨z + 1 + 1 + 1, 4, none⟩ = some (.int .i64 0) := bR1.cell 4
    have f5 : w1.cell? ⟨z + 1 + 1 + 1, 5, none⟩ = some (.int .i64 0) := bR1.cell 5
    have f6 : w1.cell? ⟨z + 1 + 1 + 1, 6, none⟩ = some (.int .i64 0) := bR1.cell 6
    have f7 : w1.cell? ⟨z + 1 + 1 + 1, 7, none⟩ = some (.int .i64 0) := bR1.cell 7
    have f8 : w1.cell? ⟨z + 1 + 1 + 1, 8, none⟩ = some (.int .i64 0) := bR1.cell 8
    have f9 : w1.cell? ⟨z + 1 + 1 + 1, 9, none⟩ = some (.int .i64 0) := bR1.cell 9
    have f10 : w1.cell? ⟨z + 1 + 1 + 1, 10, none⟩ = some (.bool false) := bR1.cell 10
    have f11 : w1.cell? ⟨z + 1 + 1 + 1, 11, none⟩ = some (.int .i64 0) := bR1.cell 11
    have f12 : w1.cell? ⟨z + 1 + 1 + 1, 12, none⟩ = some (.int .i64 0) := bR1.cell 12
    have f13 : w1.cell? ⟨z + 1 + 1 + 1, 13, none⟩ = some (.bool false) := bR1.cell 13
    clear bR1
    go_wp2_with (refine wpList_store_blk rfl _ _ _ rfl (z + 1 + 1) #[.int .i64 0, .int .i64 0, .slice none 0 0, .slice none 0 0, .int .i64 0, .int .i64 0, .int .i64 0, .int .i64 0, .int .i64 0, .int .i64 0, .bool false, .int .i64 0, .int .i64 0, .bool false] (by rfl) (by rfl) bO1 (by kernel_rfl) rfl (by simp [Value.oneCell']) ?_; refine Hid.out ?_)
    refine Lib.hid ?_
    intro w9 hF tF
    have HF := Lib.hid hF
    have HTF := Lib.hid tF
    clear hF tF bO1 f0 f1 f2 f3 f4 f5 f6 f7 f8 f9 f10 f11 f12 f13
    go_wp2
    (try simp only [Exit.inBlock, Exit.then])
    (try rw [Exit.noGoto_ret])
    refine bodyPost_ret (results_row_tmp (P := Tryz.prog) rfl _ _ (z + 1 + 1) 50 _ (0, 0) _ rfl HF.out Tryz.underlying50 rfl (by kernel_rfl)) rfl ?_
    unfold ElimOk
    rw [show elimOf b (c1, c2, c3, c4, c5, c6) = (Rcp.none, m) from HRS.out]
    exact ⟨_, rfl, ⟨_, _, rfl, Row.nil _ _ _, Row.nil _ _ _⟩, T1.trans' (F' := fun g => g = z + 1 + 1) HTF.out (fun i hi => .inr (by have hi : i = z + 1 + 1 := hi; have := HZW.out; omega))⟩
  subst hm0
  have HG := Lib.hid (HGOOD.out rfl)
  obtain ⟨_, ⟨hp0, hp1x⟩, hnode, hlf⟩ := HFA.out rfl
  (try simp only at hp0 hp1x hnode hlf)
  obtain ⟨p, hc4⟩ : ∃ p : Nat, c4 = (p : Int) := ⟨c4.toNat, by omega⟩
  have hp24 : p < 24 := by omega
  obtain ⟨k, hk, hkx, hka⟩ := accIs_at hlf
  have HPT := Lib.hid (ptn_is (hk := hk) hka)
  have hak := (HH.out w1 T1).accs
  obtain ⟨ga, oa, rfl⟩ := hak.head (by omega)
  obtain ⟨p0, p1, p2, p3⟩ := Row.four hak acc4_len hk rfl
  have hw1 : wrap64 (c3 - 1) = (k : Int) := by rw [hkx]; unfold wrap64; omega
  have hkl : (k : Int) < (b.accs.length : Int) := by omega
  have hk0 : (0 : Int) ≤ (k : Int) := Int.natCast_nonneg _
  have HAC := Lib.hid (fun w' (t9 : Tch (fun _ => False) w w') => refaccounts33_any (HH.out w' t9) hn)
  have HSI := Lib.hid (fun w' (t9 : Tch (fun _ => False) w w') x => refsides34_any (HH.out w' t9) hul hll HOK.out hp24 c1 c2 c3 c4 c5 c6 x hc4 hnode.1)
  have HEP : Hid (elimPlus b (c1, c2, c3, c4, c5, c6) = if c3 = 3 then (accsP b).flatMap (sidesD b (c1, c2, c3, c4, c5, c6)) else []) := Lib.hid rfl
  have HEM : Hid (elimMinus b (c1, c2, c3, c4, c5, c6) = if accPtn b c3 = true then sidesD b (c1, c2, c3, c4, c5, c6) c3 else []) := Lib.hid rfl
  have HAPL := Lib.hid (show (accsP b).length ≤ 1000 by
    unfold accsP accLeaves
    refine Nat.le_trans (List.length_filter_le _ _) (Nat.le_trans (List.length_filter_le _ _) ?_)
    rw [accIds_len]; exact hn)
  generalize elimPlus b (c1, c2, c3, c4, c5, c6) = EP at *
  generalize elimMinus b (c1, c2, c3, c4, c5, c6) = EM at *
  generalize sidesD b (c1, c2, c3, c4, c5, c6) = SD at *
  generalize b.accs[k] = ac at *
  obtain ⟨a1, kd, a3, a4⟩ := ac
  (try simp only at p0 p1 p2 p3 HPT)
  have HKX := Lib.hid hkx
  clear hc4
  clear hk hka hak HFA HBAD HGOOD hp0 hp1x hlf p0 p1 p2 hkx
  have k0 : w1.cell? ⟨z + 1, 0, none⟩ = some (.int .i64 c1) := bC1.cell 0
  have k1 : w1.cell? ⟨z + 1, 1, none⟩ = some (.int .i64 c2) := bC1.cell 1
  have k2 : w1.cell? ⟨z + 1, 2, none⟩ = some (.int .i64 c3) := bC1.cell 2
  have k3 : w1.cell? ⟨z + 1, 3, none⟩ = some (.int .i64 c4) := bC1.cell 3
  have k4 : w1.cell? ⟨z + 1, 4, none⟩ = some (.int .i64 c5) := bC1.cell 4
  have k5 : w1.cell? ⟨z + 1, 5, none⟩ = some (.int .i64 c6) := bC1.cell 5
  have g0 : w1.cell? ⟨z, 0, none⟩ = some (.slice Ae b.ents.length ce) := bB1.cell 0
  have g1 : w1.cell? ⟨z, 1, none⟩ = some (.slice (some ⟨ga, oa, none⟩) b.accs.length ca) := bB1.cell 1
  have g2 : w1.cell? ⟨z, 2, none⟩ = some (.slice As b.stakes.length cs) := bB1.cell 2
  have g3 : w1.cell? ⟨z, 3, none⟩ = some (.slice Ar b.rates.length cr) := bB1.cell 3
  have g4 : w1.cell? ⟨z, 4, none⟩ = some (.slice Al b.locks.length cl) := bB1.cell 4
  have g5 : w1.cell? ⟨z, 5, none⟩ = some (.slice An us.length cn) := bB1.cell 5
  cases a4
  rotate_left
  · -- a leaf with partners: the sides are taken off
    have h33 : ¬ c3 = 3 := fun h9 => by have h8 := H3P.out; rw [← h9, HPT.out] at h8; cases h8
    have h33b : (c3 == 3) = false := by simpa using h33
    have hep := HEP.out
    rw [if_neg h33] at hep
    have hem := HEM.out
    rw [if_pos HPT.out] at hem
    have HS1 := Lib.hid (HSI.out w1 T1 c3)
    rw [← hem] at HS1
    have HRS := Lib.hid (show elimOf b (c1, c2, c3, c4, c5, c6) = ({ Rcp.none with plus := [], minus := EM }, 0) by rw [HG.out, hep])
    clear HEP HEM hep hem HSI HPT H3P HG HPL HSL
    go_wp2_with fail
    refine HS1.out.mono ?_
    rintro _ w2 ⟨u, rfl, hO⟩
    have bR2 := bR1.keep hO.tch id
    have bO2 := bO1.keep hO.tch id
    have bB2 := bB1.keep hO.tch id
    have bC2 := bC1.keep hO.tch id
    have T2 := T1.trans hO.tch
    have hz1 : z + 4 ≤ w1.heap.size := by have := bR1.lt; omega
    have hrowN := hO.rowN
    obtain ⟨U, cu, rfl, _, _⟩ := hO.form
    clear HS1 hO bR1 bO1 bB1 bC1 T1 p3 k0 k1 k2 k3 k4 k5 g0 g1 g2 g3 g4 g5
    go_wp2_with (refine wpList_store_cell rfl _ _ _ rfl (z + 1 + 1 + 1) 3 (.slice U EM.length cu) (by rfl) (by rfl) rfl (by rfl) bR2 (by simp) ?_; refine Hid.out ?_)
    refine Lib.hid ?_
    intro w3 bR3 ts3
    (try simp only [List.setIfInBounds_toArray, List.set_cons_succ, List.set_cons_zero] at bR3)
    have bO3 := bO2.keep ts3 (by omega)
    have bB3 := bB2.keep ts3 (by omega)
    have bC3 := bC2.keep ts3 (by omega)
    have hrow3 := Row.keepTo (P' := fun g => w1.heap.size ≤ g) hrowN ts3 (fun g _ hg => ⟨fun e9 => by have e9 : g = z + 1 + 1 + 1 := e9; have hg : w1.heap.size ≤ g := hg; omega, hg⟩)
    have T3 := T2.trans' ts3 (fun i hi => .inr (by have hi : i = z + 1 + 1 + 1 := hi; have := HZW.out; omega))
    clear hrowN ts3 bR2 bO2 bB2 bC2 T2
    have HA1 := Lib.hid (HAC.out w3 T3)
    have g0 : w3.cell? ⟨z, 0, none⟩ = some (.slice Ae b.ents.length ce) := bB3.cell 0
    have g1 : w3.cell? ⟨z, 1, none⟩ = some (.slice (some ⟨ga, oa, none⟩) b.accs.length ca) := bB3.cell 1
    have g2 : w3.cell? ⟨z, 2, none⟩ = some (.slice As b.stakes.length cs) := bB3.cell 2
    have g3 : w3.cell? ⟨z, 3, none⟩ = some (.slice Ar b.rates.length cr) := bB3.cell 3
    have g4 : w3.cell? ⟨z, 4, none⟩ = some (.slice Al b.locks.length cl) := bB3.cell 4
    have g5 : w3.cell? ⟨z, 5, none⟩ = some (.slice An us.length cn) := bB3.cell 5
    clear HAC bB3 HH
    go_wp2_with fail
    refine HA1.out.mono ?_
    rintro _ w4 ⟨u4, rfl, hO4⟩
    have bR4 := bR3.keep hO4.tch id
    have bO4 := bO3.keep hO4.tch id
    have bC4 := bC3.keep hO4.tch id
    have T4 := T3.trans hO4.tch
    have hrow4 := hrow3.keep hO4.tch
    have hu4 := HAPL.out
    obtain ⟨U4, cu4, rfl, _, _⟩ := hO4.form
    have k0 : w4.cell? ⟨z + 1, 0, none⟩ = some (.int .i64 c1) := bC4.cell 0
    have k1 : w4.cell? ⟨z + 1, 1, none⟩ = some (.int .i64 c2) := bC4.cell 1
    have k2 : w4.cell? ⟨z + 1, 2, none⟩ = some (.int .i64 c3) := bC4.cell 2
    have k3 : w4.cell? ⟨z + 1, 3, none⟩ = some (.int .i64 c4) := bC4.cell 3
    have k4 : w4.cell? ⟨z + 1, 4, none⟩ = some (.int .i64 c5) := bC4.cell 4
    have k5 : w4.cell? ⟨z + 1, 5, none⟩ = some (.int .i64 c6) := bC4.cell 5
    clear HA1 hO4 bR3 bO3 bC3 T3 g0 g1 g2 g3 g4 g5 bC4
    go_wp2_with fail
    go_loopw [9] (fun i wr => i = .int .i64 0 ∧ wr = w4) (fun _ _ => 0)
    case atStart => exact ⟨rfl, rfl⟩
    case round =>
      obtain ⟨rfl, rfl⟩ := hrel
      rcases Nat.eq_zero_or_pos (accsP b).length with h0 | h0
      · have hlt : ¬ (0 : Int) < ((accsP b).length : Int) := by omega
        clear k0 k1 k2 k3 k4 k5
        have f0 : wr.cell? ⟨z + 1 + 1 + 1, 0, none⟩ = some (.int .i64 0) := bR4.cell 0
        have f1 : wr.cell? ⟨z + 1 + 1 + 1, 1, none⟩ = some (.int .i64 0) := bR4.cell 1
        have f2 : wr.cell? ⟨z + 1 + 1 + 1, 2, none⟩ = some (.slice none 0 0) := bR4.cell 2
        have f3 : wr.cell? ⟨z + 1 + 1 + 1, 3, none⟩ = some (.slice U EM.length cu) := bR4.cell 3
        have f4 : wr.cell? ⟨z + 1 + 1 + 1, 4, none⟩ = some (.int .i64 0) := bR4.cell 4
        have f5 : wr.cell? ⟨z + 1 + 1 + 1, 5, none⟩ = some (.int .i64 0) := bR4.cell 5
        have f6 : wr.cell? ⟨z + 1 + 1 + 1, 6, none⟩ = some (.int .i64 0) := bR4.cell 6
        have f7 : wr.cell? ⟨z + 1 + 1 + 1, 7, none⟩ = some (.int .i64 0) := bR4.cell 7
        have f8 : wr.cell? ⟨z + 1 + 1 + 1, 8, none⟩ = some (.int .i64 0) := bR4.cell 8
        have f9 : wr.cell? ⟨z + 1 + 1 + 1, 9, none⟩ = some (.int .i64 0) := bR4.cell 9
        have f10 : wr.cell? ⟨z + 1 + 1 + 1, 10, none⟩ = some (.bool false) := bR4.cell 10
        have f11 : wr.cell? ⟨z + 1 + 1 + 1, 11, none⟩ = some (.int .i64 0) := bR4.cell 11
        have f12 : wr.cell? ⟨z + 1 + 1 + 1, 12, none⟩ = some (.int .i64 0) := bR4.cell 12
        have f13 : wr.cell? ⟨z + 1 + 1 + 1, 13, none⟩ = some (.bool false) := bR4.cell 13
        clear bR4
        go_wp2_with (refine wpList_store_blk rfl _ _ _ rfl (z + 1 + 1) #[.int .i64 0, .int .i64 0, .slice none 0 0, .slice U EM.length cu, .int .i64 0, .int .i64 0, .int .i64 0, .int .i64 0, .int .i64 0, .int .i64 0, .bool false, .int .i64 0, .int .i64 0, .bool false] (by rfl) (by rfl) bO4 (by kernel_rfl) rfl (by simp [Value.oneCell']) ?_; refine Hid.out ?_)
        refine Lib.hid ?_
        intro w9 hF tF
        have HF := Lib.hid hF
        have HTF := Lib.hid tF
        clear hF tF bO4 f0 f1 f2 f3 f4 f5 f6 f7 f8 f9 f10 f11 f12 f13
        go_wp2
        (try simp only [Exit.inBlock, Exit.then])
        (try rw [Exit.noGoto_ret])
        refine bodyPost_ret (results_row_tmp (P := Tryz.prog) rfl _ _ (z + 1 + 1) 50 _ (0, 0) _ rfl HF.out Tryz.underlying50 rfl (by kernel_rfl)) rfl ?_
        unfold ElimOk
        rw [show elimOf b (c1, c2, c3, c4, c5, c6) = ({ Rcp.none with plus := [], minus := EM }, 0) from HRS.out]
        exact ⟨_, rfl, ⟨_, _, rfl, Row.nil _ _ _, Row.keepTo (P' := fun _ => True) hrow4 HTF.out (fun g _ hg => ⟨fun e9 => by have e9 : g = z + 1 + 1 := e9; have hg : w1.heap.size ≤ g := hg; omega, trivial⟩)⟩, T4.trans' (F' := fun g => g = z + 1 + 1) HTF.out (fun i hi => .inr (by have hi : i = z + 1 + 1 := hi; have := HZW.out; omega))⟩
      · have hlt : (0 : Int) < ((accsP b).length : Int) := by omega
        have f0 : wr.cell? ⟨z + 1 + 1 + 1, 0, none⟩ = some (.int .i64 0) := bR4.cell 0
        have f1 : wr.cell? ⟨z + 1 + 1 + 1, 1, none⟩ = some (.int .i64 0) := bR4.cell 1
        have f2 : wr.cell? ⟨z + 1 + 1 + 1, 2, none⟩ = some (.slice none 0 0) := bR4.cell 2
        have f3 : wr.cell? ⟨z + 1 + 1 + 1, 3, none⟩ = some (.slice U EM.length cu) := bR4.cell 3
        have f4 : wr.cell? ⟨z + 1 + 1 + 1, 4, none⟩ = some (.int .i64 0) := bR4.cell 4
        have f5 : wr.cell? ⟨z + 1 + 1 + 1, 5, none⟩ = some (.int .i64 0) := bR4.cell 5
        have f6 : wr.cell? ⟨z + 1 + 1 + 1, 6, none⟩ = some (.int .i64 0) := bR4.cell 6
        have f7 : wr.cell? ⟨z + 1 + 1 + 1, 7, none⟩ = some (.int .i64 0) := bR4.cell 7
        have f8 : wr.cell? ⟨z + 1 + 1 + 1, 8, none⟩ = some (.int .i64 0) := bR4.cell 8
        have f9 : wr.cell? ⟨z + 1 + 1 + 1, 9, none⟩ = some (.int .i64 0) := bR4.cell 9
        have f10 : wr.cell? ⟨z + 1 + 1 + 1, 10, none⟩ = some (.bool false) := bR4.cell 10
        have f11 : wr.cell? ⟨z + 1 + 1 + 1, 11, none⟩ = some (.int .i64 0) := bR4.cell 11
        have f12 : wr.cell? ⟨z + 1 + 1 + 1, 12, none⟩ = some (.int .i64 0) := bR4.cell 12
        have f13 : wr.cell? ⟨z + 1 + 1 + 1, 13, none⟩ = some (.bool false) := bR4.cell 13
        clear bR4
        go_wp2_with (refine wpList_store_blk rfl _ _ _ rfl (z + 1 + 1) #[.int .i64 0, .int .i64 0, .slice none 0 0, .slice U EM.length cu, .int .i64 0, .int .i64 0, .int .i64 0, .int .i64 0, .int .i64 0, .int .i64 0, .bool false, .int .i64 0, .int .i64 0, .bool false] (by rfl) (by rfl) bO4 (by kernel_rfl) rfl (by simp [Value.oneCell']) ?_; refine Hid.out ?_)
        refine Lib.hid ?_
        intro w9 hF tF
        have HF := Lib.hid hF
        have HTF := Lib.hid tF
        clear hF tF bO4 f0 f1 f2 f3 f4 f5 f6 f7 f8 f9 f10 f11 f12 f13
        go_wp2
        (try simp only [Exit.inBlock, Exit.then])
        (try rw [Exit.noGoto_ret])
        refine bodyPost_ret (results_row_tmp (P := Tryz.prog) rfl _ _ (z + 1 + 1) 50 _ (0, 0) _ rfl HF.out Tryz.underlying50 rfl (by kernel_rfl)) rfl ?_
        unfold ElimOk
        rw [show elimOf b (c1, c2, c3, c4, c5, c6) = ({ Rcp.none with plus := [], minus := EM }, 0) from HRS.out]
        exact ⟨_, rfl, ⟨_, _, rfl, Row.nil _ _ _, Row.keepTo (P' := fun _ => True) hrow4 HTF.out (fun g _ hg => ⟨fun e9 => by have e9 : g = z + 1 + 1 := e9; have hg : w1.heap.size ≤ g := hg; omega, trivial⟩)⟩, T4.trans' (F' := fun g => g = z + 1 + 1) HTF.out (fun i hi => .inr (by have hi : i = z + 1 + 1 := hi; have := HZW.out; omega))⟩
  · by_cases h33 : c3 = 3
    rotate_left
    · have h33b : (c3 == 3) = false := by simpa using h33
      have hep := HEP.out
      rw [if_neg h33] at hep
      have hem := HEM.out
      rw [if_neg (by rw [HPT.out]; simp)] at hem
      have HRS := Lib.hid (show elimOf b (c1, c2, c3, c4, c5, c6) = ({ Rcp.none with plus := [], minus := [] }, 0) by rw [HG.out, hep, hem])
      clear HEP HEM hep hem HSI HPT H3P HG HPL HSL HKX
      have HA1 := Lib.hid (HAC.out w1 T1)
      have g0 : w1.cell? ⟨z, 0, none⟩ = some (.slice Ae b.ents.length ce) := bB1.cell 0
      have g1 : w1.cell? ⟨z, 1, none⟩ = some (.slice (some ⟨ga, oa, none⟩) b.accs.length ca) := bB1.cell 1
      have g2 : w1.cell? ⟨z, 2, none⟩ = some (.slice As b.stakes.length cs) := bB1.cell 2
      have g3 : w1.cell? ⟨z, 3, none⟩ = some (.slice Ar b.rates.length cr) := bB1.cell 3
      have g4 : w1.cell? ⟨z, 4, none⟩ = some (.slice Al b.locks.length cl) := bB1.cell 4
      have g5 : w1.cell? ⟨z, 5, none⟩ = some (.slice An us.length cn) := bB1.cell 5
      clear HAC bB1 HH
      go_wp2_with fail
      refine HA1.out.mono ?_
      rintro _ w4 ⟨u4, rfl, hO4⟩
      have bR4 := bR1.keep hO4.tch id
      have bO4 := bO1.keep hO4.tch id
      have bC4 := bC1.keep hO4.tch id
      have T4 := T1.trans hO4.tch
      have hu4 := HAPL.out
      obtain ⟨U4, cu4, rfl, _, _⟩ := hO4.form
      have k0 : w4.cell? ⟨z + 1, 0, none⟩ = some (.int .i64 c1) := bC4.cell 0
      have k1 : w4.cell? ⟨z + 1, 1, none⟩ = some (.int .i64 c2) := bC4.cell 1
      have k2 : w4.cell? ⟨z + 1, 2, none⟩ = some (.int .i64 c3) := bC4.cell 2
      have k3 : w4.cell? ⟨z + 1, 3, none⟩ = some (.int .i64 c4) := bC4.cell 3
      have k4 : w4.cell? ⟨z + 1, 4, none⟩ = some (.int .i64 c5) := bC4.cell 4
      have k5 : w4.cell? ⟨z + 1, 5, none⟩ = some (.int .i64 c6) := bC4.cell 5
      clear HA1 hO4 bR1 bO1 bC1 T1 g0 g1 g2 g3 g4 g5 bC4
      go_wp2_with fail
      go_loopw [9] (fun i wr => i = .int .i64 0 ∧ wr = w4) (fun _ _ => 0)
      case atStart => exact ⟨rfl, rfl⟩
      case round =>
        obtain ⟨rfl, rfl⟩ := hrel
        rcases Nat.eq_zero_or_pos (accsP b).length with h0 | h0
        · have hlt : ¬ (0 : Int) < ((accsP b).length : Int) := by omega
          clear k0 k1 k2 k3 k4 k5
          have f0 : wr.cell? ⟨z + 1 + 1 + 1, 0, none⟩ = some (.int .i64 0) := bR4.cell 0
          have f1 : wr.cell? ⟨z + 1 + 1 + 1, 1, none⟩ = some (.int .i64 0) := bR4.cell 1
          have f2 : wr.cell? ⟨z + 1 + 1 + 1, 2, none⟩ = some (.slice none 0 0) := bR4.cell 2
          have f3 : wr.cell? ⟨z + 1 + 1 + 1, 3, none⟩ = some (.slice none 0 0) := bR4.cell 3
          have f4 : wr.cell? ⟨z + 1 + 1 + 1, 4, none⟩ = some (.int .i64 0) := bR4.cell 4
          have f5 : wr.cell? ⟨z + 1 + 1 + 1, 5, none⟩ = some (.int .i64 0) := bR4.cell 5
          have f6 : wr.cell? ⟨z + 1 + 1 + 1, 6, none⟩ = some (.int .i64 0) := bR4.cell 6
          have f7 : wr.cell? ⟨z + 1 + 1 + 1, 7, none⟩ = some (.int .i64 0) := bR4.cell 7
          have f8 : wr.cell? ⟨z + 1 + 1 + 1, 8, none⟩ = some (.int .i64 0) := bR4.cell 8
          have f9 : wr.cell? ⟨z + 1 + 1 + 1, 9, none⟩ = some (.int .i64 0) := bR4.cell 9
          have f10 : wr.cell? ⟨z + 1 + 1 + 1, 10, none⟩ = some (.bool false) := bR4.cell 10
          have f11 : wr.cell? ⟨z + 1 + 1 + 1, 11, none⟩ = some (.int .i64 0) := bR4.cell 11
          have f12 : wr.cell? ⟨z + 1 + 1 + 1, 12, none⟩ = some (.int .i64 0) := bR4.cell 12
          have f13 : wr.cell? ⟨z + 1 + 1 + 1, 13, none⟩ = some (.bool false) := bR4.cell 13
          clear bR4
          go_wp2_with (refine wpList_store_blk rfl _ _ _ rfl (z + 1 + 1) #[.int .i64 0, .int .i64 0, .slice none 0 0, .slice none 0 0, .int .i64 0, .int .i64 0, .int .i64 0, .int .i64 0, .int .i64 0, .int .i64 0, .bool false, .int .i64 0, .int .i64 0, .bool false] (by rfl) (by rfl) bO4 (by kernel_rfl) rfl (by simp [Value.oneCell']) ?_; refine Hid.out ?_)
          refine Lib.hid ?_
          intro w9 hF tF
          have HF := Lib.hid hF
          have HTF := Lib.hid tF
          clear hF tF bO4 f0 f1 f2 f3 f4 f5 f6 f7 f8 f9 f10 f11 f12 f13
          go_wp2
          (try simp only [Exit.inBlock, Exit.then])
          (try rw [Exit.noGoto_ret])
          refine bodyPost_ret (results_row_tmp (P := Tryz.prog) rfl _ _ (z + 1 + 1) 50 _ (0, 0) _ rfl HF.out Tryz.underlying50 rfl (by kernel_rfl)) rfl ?_
          unfold ElimOk
          rw [show elimOf b (c1, c2, c3, c4, c5, c6) = ({ Rcp.none with plus := [], minus := [] }, 0) from HRS.out]
          exact ⟨_, rfl, ⟨_, _, rfl, Row.nil _ _ _, Row.nil _ _ _⟩, T4.trans' (F' := fun g => g = z + 1 + 1) HTF.out (fun i hi => .inr (by have hi : i = z + 1 + 1 := hi; have := HZW.out; omega))⟩
        · have hlt : (0 : Int) < ((accsP b).length : Int) := by omega
          have f0 : wr.cell? ⟨z + 1 + 1 + 1, 0, none⟩ = some (.int .i64 0) := bR4.cell 0
          have f1 : wr.cell? ⟨z + 1 + 1 + 1, 1, none⟩ = some (.int .i64 0) := bR4.cell 1
          have f2 : wr.cell? ⟨z + 1 + 1 + 1, 2, none⟩ = some (.slice none 0 0) := bR4.cell 2
          have f3 : wr.cell? ⟨z + 1 + 1 + 1, 3, none⟩ = some (.slice none 0 0) := bR4.cell 3
          have f4 : wr.cell? ⟨z + 1 + 1 + 1, 4, none⟩ = some (.int .i64 0) := bR4.cell 4
          have f5 : wr.cell? ⟨z + 1 + 1 + 1, 5, none⟩ = some (.int .i64 0) := bR4.cell 5
          have f6 : wr.cell? ⟨z + 1 + 1 + 1, 6, none⟩ = some (.int .i64 0) := bR4.cell 6
          have f7 : wr.cell? ⟨z + 1 + 1 + 1, 7, none⟩ = some (.int .i64 0) := bR4.cell 7
          have f8 : wr.cell? ⟨z + 1 + 1 + 1, 8, none⟩ = some (.int .i64 0) := bR4.cell 8
          have f9 : wr.cell? ⟨z + 1 + 1 + 1, 9, none⟩ = some (.int .i64 0) := bR4.cell 9
          have f10 : wr.cell? ⟨z + 1 + 1 + 1, 10, none⟩ = some (.bool false) := bR4.cell 10
          have f11 : wr.cell? ⟨z + 1 + 1 + 1, 11, none⟩ = some (.int .i64 0) := bR4.cell 11
          have f12 : wr.cell? ⟨z + 1 + 1 + 1, 12, none⟩ = some (.int .i64 0) := bR4.cell 12
          have f13 : wr.cell? ⟨z + 1 + 1 + 1, 13, none⟩ = some (.bool false) := bR4.cell 13
          clear bR4
          go_wp2_with (refine wpList_store_blk rfl _ _ _ rfl (z + 1 + 1) #[.int .i64 0, .int .i64 0, .slice none 0 0, .slice none 0 0, .int .i64 0, .int .i64 0, .int .i64 0, .int .i64 0, .int .i64 0, .int .i64 0, .bool false, .int .i64 0, .int .i64 0, .bool false] (by rfl) (by rfl) bO4 (by kernel_rfl) rfl (by simp [Value.oneCell']) ?_; refine Hid.out ?_)
          refine Lib.hid ?_
          intro w9 hF tF
          have HF := Lib.hid hF
          have HTF := Lib.hid tF
          clear hF tF bO4 f0 f1 f2 f3 f4 f5 f6 f7 f8 f9 f10 f11 f12 f13
          go_wp2
          (try simp only [Exit.inBlock, Exit.then])
          (try rw [Exit.noGoto_ret])
          refine bodyPost_ret (results_row_tmp (P := Tryz.prog) rfl _ _ (z + 1 + 1) 50 _ (0, 0) _ rfl HF.out Tryz.underlying50 rfl (by kernel_rfl)) rfl ?_
          unfold ElimOk
          rw [show elimOf b (c1, c2, c3, c4, c5, c6) = ({ Rcp.none with plus := [], minus := [] }, 0) from HRS.out]
          exact ⟨_, rfl, ⟨_, _, rfl, Row.nil _ _ _, Row.nil _ _ _⟩, T4.trans' (F' := fun g => g = z + 1 + 1) HTF.out (fun i hi => .inr (by have hi : i = z + 1 + 1 := hi; have := HZW.out; omega))⟩
    have h33b : (c3 == 3) = true := by simpa using h33
    have hep := HEP.out
    rw [if_pos h33] at hep
    have hem := HEM.out
    rw [if_neg (by rw [HPT.out]; simp)] at hem
    have HRS := Lib.hid (show elimOf b (c1, c2, c3, c4, c5, c6) = ({ Rcp.none with plus := (accsP b).flatMap SD, minus := [] }, 0) by rw [HG.out, hep, hem])
    have HA1 := Lib.hid (HAC.out w1 T1)
    have HPL2 := Lib.hid (Nat.le_trans HPL.out hpo)
    have HSL2 := HSL
    clear HEP HEM hep hem HPT H3P HG HAC HPL HSL HKX h33
    go_wp2_with fail
    refine HA1.out.mono ?_
    rintro _ w4 ⟨u4, rfl, hO4⟩
    have bR4 := bR1.keep hO4.tch id
    have bO4 := bO1.keep hO4.tch id
    have bC4 := bC1.keep hO4.tch id
    have bB4 := bB1.keep hO4.tch id
    have T4 := T1.trans hO4.tch
    have hz4 : z + 4 ≤ w4.heap.size := by have := bR4.lt; omega
    have hu4 := HAPL.out
    generalize accsP b = L at *
    have HROW := Lib.hid (fun wr (ht : Tch (fun g => g = z + 1 + 1 + 1) w4 wr) => Row.keepTo (P' := fun _ => True) (Row.own hO4.own (P := fun g => w1.heap.size ≤ g) (fun g hg => (hO4.own.lt g hg).1)) ht (fun g _ hg => ⟨fun e9 => by have e9 : g = z + 1 + 1 + 1 := e9; have hg : w1.heap.size ≤ g := hg; have := bR1.lt; omega, trivial⟩))
    obtain ⟨U4, cu4, rfl, _, _⟩ := hO4.form
    have hln : (L.length : Int) ≤ 1000 := by omega
    clear HA1 hO4 bR1 bO1 bC1 bB1 T1 p3 g0 g1 g2 g3 g4 g5 k0 k1 k2 k3 k4 k5
    go_wp2_with fail
    go_loopw [9] (fun i wr => ∃ (j : Nat) (xs : List Rt6) (O : Option Addr) (co : Nat), j ≤ L.length ∧ i = .int .i64 j ∧ (L.take j).flatMap SD = xs ∧ xs.length ≤ j * 1600 ∧ Blk wr (z + 1 + 1 + 1) 50 #[.int .i64 0, .int .i64 0, .slice O xs.length co, .slice none 0 0, .int .i64 0, .int .i64 0, .int .i64 0, .int .i64 0, .int .i64 0, .int .i64 0, .bool false, .int .i64 0, .int .i64 0, .bool false] ∧ wr.ownsRow w4.heap.size 31 6 (.slice O xs.length co) xs.length (xs.flatMap int6) ∧ Tch (fun g => g = z + 1 + 1 + 1) w4 wr) (fun i _ => L.length - (intOf i).toNat)
    case atStart => exact ⟨0, [], none, 0, Nat.zero_le _, rfl, rfl, by simp, bR4, World.ownsRow_nil _ _ _ _, Tch.refl _ _⟩
    case round =>
      obtain ⟨j, xs, O, co, hj, rfl, hxs, hxl, hR, hown, ht⟩ := hrel
      have HXS := Lib.hid hxs
      have hj0 : (0 : Int) ≤ (j : Int) := Int.natCast_nonneg _
      have Tr := T4.trans' ht (fun i hi => .inr (by have hi : i = z + 1 + 1 + 1 := hi; have := HZW.out; omega))
      have bCr := bC4.keep ht (by omega)
      have k0 : wr.cell? ⟨z + 1, 0, none⟩ = some (.int .i64 c1) := bCr.cell 0
      have k1 : wr.cell? ⟨z + 1, 1, none⟩ = some (.int .i64 c2) := bCr.cell 1
      have k2 : wr.cell? ⟨z + 1, 2, none⟩ = some (.int .i64 c3) := bCr.cell 2
      have k3 : wr.cell? ⟨z + 1, 3, none⟩ = some (.int .i64 c4) := bCr.cell 3
      have k4 : wr.cell? ⟨z + 1, 4, none⟩ = some (.int .i64 c5) := bCr.cell 4
      have k5 : wr.cell? ⟨z + 1, 5, none⟩ = some (.int .i64 c6) := bCr.cell 5
      clear hxs
      by_cases hlt : j < L.length
      · have hlt' : (j : Int) < (L.length : Int) := by omega
        have hl9 := HROW.out wr ht
        obtain ⟨g9, o9, rfl⟩ := hl9.head (by omega)
        have q0 := Row.one hl9 int1_len hlt rfl
        have HXN := Lib.hid (show (L.take (j + 1)).flatMap SD = xs ++ SD L[j] by rw [List.take_succ_eq_append_getElem hlt, List.flatMap_append, HXS.out]; simp)
        generalize L[j] = x at *
        have hslx := HSL2.out x
        have HSX := Lib.hid (fun w' (t9 : Tch (fun _ => False) wr w') => HSI.out w' (Tr.trans t9) x)
        generalize SD x = ys at *
        have bBr := bB4.keep ht (by omega)
        have m2 : wr.cell? ⟨z + 1 + 1 + 1, 2, none⟩ = some (.slice O xs.length co) := hR.cell 2
        have g0 : wr.cell? ⟨z, 0, none⟩ = some (.slice Ae b.ents.length ce) := bBr.cell 0
        have g1 : wr.cell? ⟨z, 1, none⟩ = some (.slice (some ⟨ga, oa, none⟩) b.accs.length ca) := bBr.cell 1
        have g2 : wr.cell? ⟨z, 2, none⟩ = some (.slice As b.stakes.length cs) := bBr.cell 2
        have g3 : wr.cell? ⟨z, 3, none⟩ = some (.slice Ar b.rates.length cr) := bBr.cell 3
        have g4 : wr.cell? ⟨z, 4, none⟩ = some (.slice Al b.locks.length cl) := bBr.cell 4
        have g5 : wr.cell? ⟨z, 5, none⟩ = some (.slice An us.length cn) := bBr.cell 5
        have X0 := within_cell (F := fun _ => False) m2 id
        have X1 := within_cell (F := fun _ => False) q0 id
        have Y0 := within_cell (F := fun _ => False) g0 id
        have Y1 := within_cell (F := fun _ => False) g1 id
        have Y2 := within_cell (F := fun _ => False) g2 id
        have Y3 := within_cell (F := fun _ => False) g3 id
        have Y4 := within_cell (F := fun _ => False) g4 id
        have Y5 := within_cell (F := fun _ => False) g5 id
        have Z0 := within_cell (F := fun _ => False) k0 id
        have Z1 := within_cell (F := fun _ => False) k1 id
        have Z2 := within_cell (F := fun _ => False) k2 id
        have Z3 := within_cell (F := fun _ => False) k3 id
        have Z4 := within_cell (F := fun _ => False) k4 id
        have Z5 := within_cell (F := fun _ => False) k5 id
        obtain ⟨PV, hPV⟩ : ∃ V : Value → World → Prop, V = fun u w' => RowsOf int6 6 (fun _ => True) w' u ys := ⟨_, rfl⟩
        have HPV := Lib.hid hPV
        clear hPV hl9 bBr
        go_wp2_with fail
        refine wp_region_touch (fun _ => False) [] 9 [(8, .inr PV)] [] (by kernel_rfl) rfl (by kernel_rfl) rfl (fun d _ _ _ _ h => by cases d <;> exact h) ?_ ?_
        · rw [HPV.out]
          exact ⟨fun _ _ _ hr h => h.keep hr, trivial⟩
        (intro bef ops hbef hops; clear hbef; subst hops; simp only [List.take_succ_cons, List.take_zero, List.drop_succ_cons, List.drop_zero])
        iterate 8 (refine t_det (by rfl) (by rfl) (by rfl) (by rfl) (fun K hK => ?_); go_big_quiet_op; (first | refine hK _ ?_ | refine ⟨_, fun _ => rfl, hK _ ?_⟩); clear hK K; (try simp only [Act.put, List.setIfInBounds_toArray, List.set_cons_succ, List.set_cons_zero]))
        refine t_loose (by rfl) (by rfl) (fun wq hr hf => ?_) (fun u9 => ?_)
        · refine yields_of_wp (d := 52) rfl (by simp) (fun K hK => ?_)
          go_step
          refine (HSX.out wq ((Tch.drew _ wr).trans hr)).mono ?_
          rintro _ wt ⟨u, rfl, hO9⟩
          refine hK _ _ ⟨⟨?_, hO9.tch⟩, newAt_no⟩
          rw [HPV.out]
          exact hO9.row
        simp only [Act.put, List.setIfInBounds_toArray, List.set_cons_succ, List.set_cons_zero]
        refine t_nil ?_
        intro wq hr hpq hap
        have hv := hpq (8, fun w' => PV u9 w') (List.mem_cons_self ..)
        simp only at hv
        rw [HPV.out] at hv
        have tq := (Tch.drew (fun _ => False) wr).trans hr
        have hRq := hR.keep tq id
        have hownQ := tq.own hown (fun _ _ => id)
        have htQ := ht.trans (Exn.touch tq)
        obtain ⟨M2, cm2, rfl, _, _⟩ := hv.form
        clear hap hpq hr HPV HSX X0 X1 Y0 Y1 Y2 Y3 Y4 Y5 Z0 Z1 Z2 Z3 Z4 Z5 m2 q0 g0 g1 g2 g3 g4 g5 hR hown ht bCr k0 k1 k2 k3 k4 k5
        have hyl : ys.length ≤ 1600 := hslx
        have hxl9 : xs.length ≤ 1600000 := by omega
        have HLT := Lib.hid (fun g hg => hownQ.lt g hg)
        go_wp2_with (at_builtin; refine Hid.out ?_)
        refine Lib.hid ?_
        refine wpList_append _ rfl _ _ 40 rfl rowCells (own_base hownQ) (by rfl) hv.src (by rfl) (by intro u9 hu9; obtain ⟨x9, _, hx9⟩ := List.mem_flatMap.1 hu9; exact one6 x9 u9 hx9) (by unfold maxLen; omega) (by omega) ?_
        intro v2 wc ho2 hg2 hl2
        have tg : Tch (fun g => w4.heap.size ≤ g) wq wc := Tch.grown hg2 fun k9 hk9 => .inl (HLT.out k9 hk9).1
        have hRc := hRq.keep tg (by omega)
        have htc := htQ.trans' tg (fun i hi => .inr hi)
        have hob : ∀ g, v2.ownBlock = some g → w4.heap.size ≤ g := fun g hg => by
          rcases hl2 g hg with h9 | h9
          · exact (HLT.out g h9).1
          · have := htQ.size; omega
        obtain ⟨O2, co2, rfl, _, _⟩ := own_form ho2
        clear hRq hownQ htQ hg2 hl2 tg tq hv
        go_wp2_with (refine wpList_store_cell rfl _ _ _ rfl (z + 1 + 1 + 1) 2 (.slice O2 (xs.length + ys.length) co2) (by rfl) (by rfl) rfl (by rfl) hRc (by simp) ?_; refine Hid.out ?_)
        refine Lib.hid ?_
        intro wd hR3 ts3
        (try simp only [List.setIfInBounds_toArray, List.set_cons_succ, List.set_cons_zero] at hR3)
        have hown3 := ts3.own (own_up ho2 hob) (fun g hg he => by have he : g = z + 1 + 1 + 1 := he; have := hob g hg; omega)
        have t4 := htc.trans ts3
        have HLL := Lib.hid (show xs.length + ys.length = (xs ++ ys).length by simp)
        clear hRc ho2 hob htc ts3
        go_wp2
        go_roundw
        case rel => exact ⟨j + 1, xs ++ ys, O2, co2, by omega, by go_num, HXN.out, by simp; omega, by rw [← HLL.out]; exact hR3, by rw [← HLL.out]; simpa [List.flatMap_append] using hown3, t4⟩
        case measure => simp [intOf] <;> omega
      · obtain rfl : j = L.length := by omega
        have hlt' : ¬ (L.length : Int) < (L.length : Int) := by omega
        have hxs := HXS.out
        rw [List.take_length] at hxs
        have bO9 := bO4.keep ht (by omega)
        have HRX := Lib.hid (fun w' (t9 : Tch (fun g => g = z + 1 + 1) wr w') => (show RowsOf int6 6 (fun _ => True) w' (.slice O xs.length co) xs from Row.keepTo (P' := fun _ => True) (Row.own hown (P := fun g => w4.heap.size ≤ g) (fun g hg => (hown.lt g hg).1)) t9 (fun g _ hg => ⟨fun e => by have e : g = z + 1 + 1 := e; have hg : w4.heap.size ≤ g := hg; omega, trivial⟩)))
        rw [hxs] at HRS
        clear hown hlt ht bCr hxs k0 k1 k2 k3 k4 k5
        have f0 : wr.cell? ⟨z + 1 + 1 + 1, 0, none⟩ = some (.int .i64 0) := hR.cell 0
        have f1 : wr.cell? ⟨z + 1 + 1 + 1, 1, none⟩ = some (.int .i64 0) := hR.cell 1
        have f2 : wr.cell? ⟨z + 1 + 1 + 1, 2, none⟩ = some (.slice O xs.length co) := hR.cell 2
        have f3 : wr.cell? ⟨z + 1 + 1 + 1, 3, none⟩ = some (.slice none 0 0) := hR.cell 3
        have f4 : wr.cell? ⟨z + 1 + 1 + 1, 4, none⟩ = some (.int .i64 0) := hR.cell 4
        have f5 : wr.cell? ⟨z + 1 + 1 + 1, 5, none⟩ = some (.int .i64 0) := hR.cell 5
        have f6 : wr.cell? ⟨z + 1 + 1 + 1, 6, none⟩ = some (.int .i64 0) := hR.cell 6
        have f7 : wr.cell? ⟨z + 1 + 1 + 1, 7, none⟩ = some (.int .i64 0) := hR.cell 7
        have f8 : wr.cell? ⟨z + 1 + 1 + 1, 8, none⟩ = some (.int .i64 0) := hR.cell 8
        have f9 : wr.cell? ⟨z + 1 + 1 + 1, 9, none⟩ = some (.int .i64 0) := hR.cell 9
        have f10 : wr.cell? ⟨z + 1 + 1 + 1, 10, none⟩ = some (.bool false) := hR.cell 10
        have f11 : wr.cell? ⟨z + 1 + 1 + 1, 11, none⟩ = some (.int .i64 0) := hR.cell 11
        have f12 : wr.cell? ⟨z + 1 + 1 + 1, 12, none⟩ = some (.int .i64 0) := hR.cell 12
        have f13 : wr.cell? ⟨z + 1 + 1 + 1, 13, none⟩ = some (.bool false) := hR.cell 13
        clear hR
        go_wp2_with (refine wpList_store_blk rfl _ _ _ rfl (z + 1 + 1) #[.int .i64 0, .int .i64 0, .slice O xs.length co, .slice none 0 0, .int .i64 0, .int .i64 0, .int .i64 0, .int .i64 0, .int .i64 0, .int .i64 0, .bool false, .int .i64 0, .int .i64 0, .bool false] (by rfl) (by rfl) bO9 (by kernel_rfl) rfl (by simp [Value.oneCell']) ?_; refine Hid.out ?_)
        refine Lib.hid ?_
        intro w9 hF tF
        have HF := Lib.hid hF
        have HTF := Lib.hid tF
        clear hF tF bO9 f0 f1 f2 f3 f4 f5 f6 f7 f8 f9 f10 f11 f12 f13
        go_wp2
        (try simp only [Exit.inBlock, Exit.then])
        (try rw [Exit.noGoto_ret])
        refine bodyPost_ret (results_row_tmp (P := Tryz.prog) rfl _ _ (z + 1 + 1) 50 _ (0, 0) _ rfl HF.out Tryz.underlying50 rfl (by kernel_rfl)) rfl ?_
        unfold ElimOk
        rw [show elimOf b (c1, c2, c3, c4, c5, c6) = ({ Rcp.none with plus := xs, minus := [] }, 0) from HRS.out]
        exact ⟨_, rfl, ⟨_, _, rfl, HRX.out w9 HTF.out, Row.nil _ _ _⟩, Tr.trans' (F' := fun g => g = z + 1 + 1) HTF.out (fun i hi => .inr (by have hi : i = z + 1 + 1 := hi; have := HZW.out; omega))⟩
end
end Go.Proofs.YtdangnmeligfjaaGreatDoor

/-
  ElimTells: the walk.
-/
namespace Go.Proofs.YtdangnmeligfjaaGreatDoor
open Go.RowKit Go.Gk Go.Gk.V33

set_option maxRecDepth 100000 in
set_option maxHeartbeats 12800000 in
theorem elimtells_any {w : World} {e a s r l n : Value} {b : Bks} {us : List (Ent × Value)} (h : BksAt w e a s r l n b us) (h64 : Bks64 b) (c1 c2 c3 c4 c5 c6 : Int) :
    Calls Tryz.prog 3 #[.agg #[e, a, s, r, l, n], .agg #[.int .i64 c1, .int .i64 c2, .int .i64 c3, .int .i64 c4, .int .i64 c5, .int .i64 c6]] w fun x w' => x = .returned (.bool true) ∧ Tch (fun _ => False) w w' := by
  have ta := Tch.alloc (fun _ => False) w (.cells #[e, a, s, r, l, n] 29)
  have tb := Tch.alloc (fun _ => False) (w.alloc (.cells #[e, a, s, r, l, n] 29)) (.cells #[.int .i64 c1, .int .i64 c2, .int .i64 c3, .int .i64 c4, .int .i64 c5, .int .i64 c6] 31)
  have tw := ta.trans tb
  have hbB := (Blk.new w 29 #[e, a, s, r, l, n]).keep tb id
  have hbC := Blk.new2 w (.cells #[e, a, s, r, l, n] 29) 31 #[.int .i64 c1, .int .i64 c2, .int .i64 c3, .int .i64 c4, .int .i64 c5, .int .i64 c6]
  have HF := Lib.hid (few26_any (h.keep tw))
  have HW := Lib.hid (h.keep tw)
  have HM := Lib.hid h.map
  obtain ⟨Ae, ce, rfl, _, _⟩ := h.ents.form
  obtain ⟨Aa, ca, rfl, _, _⟩ := h.accs.form
  obtain ⟨As, cs, rfl, _, _⟩ := h.stakes.form
  obtain ⟨Ar, cr, rfl, _, _⟩ := h.rates.form
  obtain ⟨Al, cl, rfl, _, _⟩ := h.locks.form
  obtain ⟨An, cn, rfl, _, _⟩ := h.ent.row.form
  clear ta tb h
  obtain ⟨fw, hfw⟩ : ∃ fw, few26 b = fw := ⟨_, rfl⟩
  rw [hfw] at HF
  go_enter Tryz.func3, Tryz.ntmps3
  go_wp2_with fail
  generalize (w.alloc (.cells #[.slice Ae b.ents.length ce, .slice Aa b.accs.length ca, .slice As b.stakes.length cs, .slice Ar b.rates.length cr, .slice Al b.locks.length cl, .slice An us.length cn] 29)).alloc (.cells #[.int .i64 c1, .int .i64 c2, .int .i64 c3, .int .i64 c4, .int .i64 c5, .int .i64 c6] 31) = W at *
  generalize w.heap.size = z at *
  refine HF.out.mono ?_
  rintro _ w1 ⟨rfl, t1⟩
  clear HF
  have tt1 := tw.trans t1
  cases fw
  · clear hfw
    go_wp2_with fail
    refine (awake34_any w1).mono ?_
    rintro _ w2 ⟨rfl, t2⟩
    go_wp2
    go_ret
    exact ⟨rfl, tt1.trans t2⟩
  have hfew := few26_few hfw
  have hB1 := hbB.keep t1 id
  have hC1 := hbC.keep t1 id
  have h1 := HW.out.keep t1
  clear hbB hbC HW tw t1 hfw
  have g0 : w1.cell? ⟨z, 0, none⟩ = some (.slice Ae b.ents.length ce) := hB1.cell 0
  have g1 : w1.cell? ⟨z, 1, none⟩ = some (.slice Aa b.accs.length ca) := hB1.cell 1
  have g2 : w1.cell? ⟨z, 2, none⟩ = some (.slice As b.stakes.length cs) := hB1.cell 2
  have g3 : w1.cell? ⟨z, 3, none⟩ = some (.slice Ar b.rates.length cr) := hB1.cell 3
  have g4 : w1.cell? ⟨z, 4, none⟩ = some (.slice Al b.locks.length cl) := hB1.cell 4
  have g5 : w1.cell? ⟨z, 5, none⟩ = some (.slice An us.length cn) := hB1.cell 5
  go_wp2_with fail
  refine (see_any h1 hfew h64).mono ?_
  rintro _ w2 ⟨hsee, t2⟩
  have tt2 := tt1.trans t2
  rcases hsee with ⟨_, m, rfl, hm⟩ | ⟨hok, bv, bi, B, t, mr, mp, e', a', s', r', l', n', lv, fs, us', rfl, hV⟩
  · have hm2 : (m != 0) = true := by simpa using hm
    clear g0 g1 g2 g3 g4 g5 hm
    go_wp2_with fail
    refine (awake34_any w2).mono ?_
    rintro _ w3 ⟨rfl, t3⟩
    go_wp2
    go_ret
    exact ⟨rfl, tt2.trans t3⟩
  have hB2 := hB1.keep t2 id
  have hC2 := hC1.keep t2 id
  have h2 := h1.keep t2
  clear g0 g1 g2 g3 g4 g5 hB1 hC1 h1 tt1 t2
  have hn := leaves_few hfew
  have haccs : b.accs.length ≤ 1000 := by have := hfew.accs; omega
  have hpo := posts_few hfew
  have hul : us.length ≤ 300 := by have h8 := hfew.entries; rw [← HM.out, List.length_map] at h8; omega
  have hll : ∀ p ∈ us, p.1.lines.length ≤ 100 := fun p hp => by have h8 := hfew.lines p.1 (by rw [← HM.out]; exact List.mem_map_of_mem hp); omega
  have HOK := Lib.hid hok
  clear hfew h64 hok
  have q0 : w2.cell? ⟨z + 1, 0, none⟩ = some (.int .i64 c1) := hC2.cell 0
  have q1 : w2.cell? ⟨z + 1, 1, none⟩ = some (.int .i64 c2) := hC2.cell 1
  have q2 : w2.cell? ⟨z + 1, 2, none⟩ = some (.int .i64 c3) := hC2.cell 2
  have q3 : w2.cell? ⟨z + 1, 3, none⟩ = some (.int .i64 c4) := hC2.cell 3
  have q4 : w2.cell? ⟨z + 1, 4, none⟩ = some (.int .i64 c5) := hC2.cell 4
  have q5 : w2.cell? ⟨z + 1, 5, none⟩ = some (.int .i64 c6) := hC2.cell 5
  go_wp2_with fail
  refine (elimrec_x hV hn hpo HOK.out c1 c2 c3 c4 c5 c6).mono ?_
  rintro _ w3 ⟨v1, rfl, hr1, t3⟩
  have HR := Lib.hid (fun (w' : World) (h : BksAt w' (.slice Ae b.ents.length ce) (.slice Aa b.accs.length ca) (.slice As b.stakes.length cs) (.slice Ar b.rates.length cr) (.slice Al b.locks.length cl) (.slice An us.length cn) b us) => refelim34_any h hul hll haccs hpo HOK.out c1 c2 c3 c4 c5 c6)
  unfold ElimOk at HR
  generalize elimOf b (c1, c2, c3, c4, c5, c6) = lo at *
  obtain ⟨R, er⟩ := lo
  simp only at hr1 HR
  obtain ⟨p1, m1, rfl, hp1, hm1⟩ := hr1
  obtain ⟨P1, k1, rfl, _, _⟩ := hp1.form
  obtain ⟨M1, d1, rfl, _, _⟩ := hm1.form
  have tc := Tch.alloc (fun _ => False) w3 (.cells #[.int .i64 R.base.1, .int .i64 R.base.2, .slice P1 R.plus.length k1, .slice M1 R.minus.length d1, .int .i64 R.scaled.1, .int .i64 R.scaled.2.1, .int .i64 R.scaled.2.2.1, .int .i64 R.scaled.2.2.2.1, .int .i64 R.scaled.2.2.2.2.1, .int .i64 R.scaled.2.2.2.2.2, .bool R.rated, .int .i64 R.ratio.1, .int .i64 R.ratio.2, .bool R.has] 46)
  have x3 := Blk.new w3 46 #[.int .i64 R.base.1, .int .i64 R.base.2, .slice P1 R.plus.length k1, .slice M1 R.minus.length d1, .int .i64 R.scaled.1, .int .i64 R.scaled.2.1, .int .i64 R.scaled.2.2.1, .int .i64 R.scaled.2.2.2.1, .int .i64 R.scaled.2.2.2.2.1, .int .i64 R.scaled.2.2.2.2.2, .bool R.rated, .int .i64 R.ratio.1, .int .i64 R.ratio.2, .bool R.has]
  have hp3 := hp1.keep tc
  have hm3 := hm1.keep tc
  have t4 := t3.trans tc
  have hB3 := hB2.keep t4 id
  have hC3 := hC2.keep t4 id
  have h3 := h2.keep t4
  have tt3 := tt2.trans t4
  clear hV hn q0 q1 q2 q3 q4 q5 hB2 hC2 h2 tt2 t3 t4 tc hp1 hm1
  have g0 : (w3.alloc (.cells #[.int .i64 R.base.1, .int .i64 R.base.2, .slice P1 R.plus.length k1, .slice M1 R.minus.length d1, .int .i64 R.scaled.1, .int .i64 R.scaled.2.1, .int .i64 R.scaled.2.2.1, .int .i64 R.scaled.2.2.2.1, .int .i64 R.scaled.2.2.2.2.1, .int .i64 R.scaled.2.2.2.2.2, .bool R.rated, .int .i64 R.ratio.1, .int .i64 R.ratio.2, .bool R.has] 46)).cell? ⟨z, 0, none⟩ = some (.slice Ae b.ents.length ce) := hB3.cell 0
  have g1 : (w3.alloc (.cells #[.int .i64 R.base.1, .int .i64 R.base.2, .slice P1 R.plus.length k1, .slice M1 R.minus.length d1, .int .i64 R.scaled.1, .int .i64 R.scaled.2.1, .int .i64 R.scaled.2.2.1, .int .i64 R.scaled.2.2.2.1, .int .i64 R.scaled.2.2.2.2.1, .int .i64 R.scaled.2.2.2.2.2, .bool R.rated, .int .i64 R.ratio.1, .int .i64 R.ratio.2, .bool R.has] 46)).cell? ⟨z, 1, none⟩ = some (.slice Aa b.accs.length ca) := hB3.cell 1
  have g2 : (w3.alloc (.cells #[.int .i64 R.base.1, .int .i64 R.base.2, .slice P1 R.plus.length k1, .slice M1 R.minus.length d1, .int .i64 R.scaled.1, .int .i64 R.scaled.2.1, .int .i64 R.scaled.2.2.1, .int .i64 R.scaled.2.2.2.1, .int .i64 R.scaled.2.2.2.2.1, .int .i64 R.scaled.2.2.2.2.2, .bool R.rated, .int .i64 R.ratio.1, .int .i64 R.ratio.2, .bool R.has] 46)).cell? ⟨z, 2, none⟩ = some (.slice As b.stakes.length cs) := hB3.cell 2
  have g3 : (w3.alloc (.cells #[.int .i64 R.base.1, .int .i64 R.base.2, .slice P1 R.plus.length k1, .slice M1 R.minus.length d1, .int .i64 R.scaled.1, .int .i64 R.scaled.2.1, .int .i64 R.scaled.2.2.1, .int .i64 R.scaled.2.2.2.1, .int .i64 R.scaled.2.2.2.2.1, .int .i64 R.scaled.2.2.2.2.2, .bool R.rated, .int .i64 R.ratio.1, .int .i64 R.ratio.2, .bool R.has] 46)).cell? ⟨z, 3, none⟩ = some (.slice Ar b.rates.length cr) := hB3.cell 3
  have g4 : (w3.alloc (.cells #[.int .i64 R.base.1, .int .i64 R.base.2, .slice P1 R.plus.length k1, .slice M1 R.minus.length d1, .int .i64 R.scaled.1, .int .i64 R.scaled.2.1, .int .i64 R.scaled.2.2.1, .int .i64 R.scaled.2.2.2.1, .int .i64 R.scaled.2.2.2.2.1, .int .i64 R.scaled.2.2.2.2.2, .bool R.rated, .int .i64 R.ratio.1, .int .i64 R.ratio.2, .bool R.has] 46)).cell? ⟨z, 4, none⟩ = some (.slice Al b.locks.length cl) := hB3.cell 4
  have g5 : (w3.alloc (.cells #[.int .i64 R.base.1, .int .i64 R.base.2, .slice P1 R.plus.length k1, .slice M1 R.minus.length d1, .int .i64 R.scaled.1, .int .i64 R.scaled.2.1, .int .i64 R.scaled.2.2.1, .int .i64 R.scaled.2.2.2.1, .int .i64 R.scaled.2.2.2.2.1, .int .i64 R.scaled.2.2.2.2.2, .bool R.rated, .int .i64 R.ratio.1, .int .i64 R.ratio.2, .bool R.has] 46)).cell? ⟨z, 5, none⟩ = some (.slice An us.length cn) := hB3.cell 5
  have q0 : (w3.alloc (.cells #[.int .i64 R.base.1, .int .i64 R.base.2, .slice P1 R.plus.length k1, .slice M1 R.minus.length d1, .int .i64 R.scaled.1, .int .i64 R.scaled.2.1, .int .i64 R.scaled.2.2.1, .int .i64 R.scaled.2.2.2.1, .int .i64 R.scaled.2.2.2.2.1, .int .i64 R.scaled.2.2.2.2.2, .bool R.rated, .int .i64 R.ratio.1, .int .i64 R.ratio.2, .bool R.has] 46)).cell? ⟨z + 1, 0, none⟩ = some (.int .i64 c1) := hC3.cell 0
  have q1 : (w3.alloc (.cells #[.int .i64 R.base.1, .int .i64 R.base.2, .slice P1 R.plus.length k1, .slice M1 R.minus.length d1, .int .i64 R.scaled.1, .int .i64 R.scaled.2.1, .int .i64 R.scaled.2.2.1, .int .i64 R.scaled.2.2.2.1, .int .i64 R.scaled.2.2.2.2.1, .int .i64 R.scaled.2.2.2.2.2, .bool R.rated, .int .i64 R.ratio.1, .int .i64 R.ratio.2, .bool R.has] 46)).cell? ⟨z + 1, 1, none⟩ = some (.int .i64 c2) := hC3.cell 1
  have q2 : (w3.alloc (.cells #[.int .i64 R.base.1, .int .i64 R.base.2, .slice P1 R.plus.length k1, .slice M1 R.minus.length d1, .int .i64 R.scaled.1, .int .i64 R.scaled.2.1, .int .i64 R.scaled.2.2.1, .int .i64 R.scaled.2.2.2.1, .int .i64 R.scaled.2.2.2.2.1, .int .i64 R.scaled.2.2.2.2.2, .bool R.rated, .int .i64 R.ratio.1, .int .i64 R.ratio.2, .bool R.has] 46)).cell? ⟨z + 1, 2, none⟩ = some (.int .i64 c3) := hC3.cell 2
  have q3 : (w3.alloc (.cells #[.int .i64 R.base.1, .int .i64 R.base.2, .slice P1 R.plus.length k1, .slice M1 R.minus.length d1, .int .i64 R.scaled.1, .int .i64 R.scaled.2.1, .int .i64 R.scaled.2.2.1, .int .i64 R.scaled.2.2.2.1, .int .i64 R.scaled.2.2.2.2.1, .int .i64 R.scaled.2.2.2.2.2, .bool R.rated, .int .i64 R.ratio.1, .int .i64 R.ratio.2, .bool R.has] 46)).cell? ⟨z + 1, 3, none⟩ = some (.int .i64 c4) := hC3.cell 3
  have q4 : (w3.alloc (.cells #[.int .i64 R.base.1, .int .i64 R.base.2, .slice P1 R.plus.length k1, .slice M1 R.minus.length d1, .int .i64 R.scaled.1, .int .i64 R.scaled.2.1, .int .i64 R.scaled.2.2.1, .int .i64 R.scaled.2.2.2.1, .int .i64 R.scaled.2.2.2.2.1, .int .i64 R.scaled.2.2.2.2.2, .bool R.rated, .int .i64 R.ratio.1, .int .i64 R.ratio.2, .bool R.has] 46)).cell? ⟨z + 1, 4, none⟩ = some (.int .i64 c5) := hC3.cell 4
  have q5 : (w3.alloc (.cells #[.int .i64 R.base.1, .int .i64 R.base.2, .slice P1 R.plus.length k1, .slice M1 R.minus.length d1, .int .i64 R.scaled.1, .int .i64 R.scaled.2.1, .int .i64 R.scaled.2.2.1, .int .i64 R.scaled.2.2.2.1, .int .i64 R.scaled.2.2.2.2.1, .int .i64 R.scaled.2.2.2.2.2, .bool R.rated, .int .i64 R.ratio.1, .int .i64 R.ratio.2, .bool R.has] 46)).cell? ⟨z + 1, 5, none⟩ = some (.int .i64 c6) := hC3.cell 5
  unfold rcpV
  go_wp2_with fail
  generalize w3.alloc _ = W3 at *
  generalize w3.heap.size = y1 at *
  refine (HR.out W3 h3).mono ?_
  rintro _ w4 ⟨v2, rfl, hr2, t5⟩
  clear HR h3 hB3 hC3 g0 g1 g2 g3 g4 g5 q0 q1 q2 q3 q4 q5
  obtain ⟨p2, m2, rfl, hp2, hm2⟩ := hr2
  obtain ⟨P2, k2, rfl, _, _⟩ := hp2.form
  obtain ⟨M2, d2, rfl, _, _⟩ := hm2.form
  have td := Tch.alloc (fun _ => False) w4 (.cells #[.int .i64 R.base.1, .int .i64 R.base.2, .slice P2 R.plus.length k2, .slice M2 R.minus.length d2, .int .i64 R.scaled.1, .int .i64 R.scaled.2.1, .int .i64 R.scaled.2.2.1, .int .i64 R.scaled.2.2.2.1, .int .i64 R.scaled.2.2.2.2.1, .int .i64 R.scaled.2.2.2.2.2, .bool R.rated, .int .i64 R.ratio.1, .int .i64 R.ratio.2, .bool R.has] 50)
  have y4 := Blk.new w4 50 #[.int .i64 R.base.1, .int .i64 R.base.2, .slice P2 R.plus.length k2, .slice M2 R.minus.length d2, .int .i64 R.scaled.1, .int .i64 R.scaled.2.1, .int .i64 R.scaled.2.2.1, .int .i64 R.scaled.2.2.2.1, .int .i64 R.scaled.2.2.2.2.1, .int .i64 R.scaled.2.2.2.2.2, .bool R.rated, .int .i64 R.ratio.1, .int .i64 R.ratio.2, .bool R.has]
  have t6 := t5.trans td
  have x4 := x3.keep t6 id
  have tt4 := tt3.trans t6
  have HB := Lib.hid (fun (w' : World) (t : Tch (fun _ => False) (w4.alloc (.cells #[.int .i64 R.base.1, .int .i64 R.base.2, .slice P2 R.plus.length k2, .slice M2 R.minus.length d2, .int .i64 R.scaled.1, .int .i64 R.scaled.2.1, .int .i64 R.scaled.2.2.1, .int .i64 R.scaled.2.2.2.1, .int .i64 R.scaled.2.2.2.2.1, .int .i64 R.scaled.2.2.2.2.2, .bool R.rated, .int .i64 R.ratio.1, .int .i64 R.ratio.2, .bool R.has] 50)) w') => back_any (r := R) (show RcpIs w' (.agg #[.int .i64 R.base.1, .int .i64 R.base.2, .slice P1 R.plus.length k1, .slice M1 R.minus.length d1, .int .i64 R.scaled.1, .int .i64 R.scaled.2.1, .int .i64 R.scaled.2.2.1, .int .i64 R.scaled.2.2.2.1, .int .i64 R.scaled.2.2.2.2.1, .int .i64 R.scaled.2.2.2.2.2, .bool R.rated, .int .i64 R.ratio.1, .int .i64 R.ratio.2, .bool R.has]) R from ⟨_, _, rfl, (hp3.keep t6).keep t, (hm3.keep t6).keep t⟩))
  have HS := Lib.hid (fun (w' : World) (u : Value) (t : Tch (fun _ => False) (w4.alloc (.cells #[.int .i64 R.base.1, .int .i64 R.base.2, .slice P2 R.plus.length k2, .slice M2 R.minus.length d2, .int .i64 R.scaled.1, .int .i64 R.scaled.2.1, .int .i64 R.scaled.2.2.1, .int .i64 R.scaled.2.2.2.1, .int .i64 R.scaled.2.2.2.2.1, .int .i64 R.scaled.2.2.2.2.2, .bool R.rated, .int .i64 R.ratio.1, .int .i64 R.ratio.2, .bool R.has] 50)) w') (hu : RcpIs w' u R) => refsame29_any hu (show RcpIs w' (.agg #[.int .i64 R.base.1, .int .i64 R.base.2, .slice P2 R.plus.length k2, .slice M2 R.minus.length d2, .int .i64 R.scaled.1, .int .i64 R.scaled.2.1, .int .i64 R.scaled.2.2.1, .int .i64 R.scaled.2.2.2.1, .int .i64 R.scaled.2.2.2.2.1, .int .i64 R.scaled.2.2.2.2.2, .bool R.rated, .int .i64 R.ratio.1, .int .i64 R.ratio.2, .bool R.has]) R from ⟨_, _, rfl, (hp2.keep td).keep t, (hm2.keep td).keep t⟩))
  clear hp3 hm3 hp2 hm2 x3 tt3 t5 td t6
  unfold rcpV
  go_wp2_with fail
  generalize w4.alloc _ = W4 at *
  generalize w4.heap.size = y2 at *
  have X0 := within_cell (F := fun _ => False) (show W4.cell? ⟨y1, 0, none⟩ = some (.int .i64 R.base.1) from x4.cell 0) id
  have Y0 := within_cell (F := fun _ => False) (show W4.cell? ⟨y2, 0, none⟩ = some (.int .i64 R.base.1) from y4.cell 0) id
  have X1 := within_cell (F := fun _ => False) (show W4.cell? ⟨y1, 1, none⟩ = some (.int .i64 R.base.2) from x4.cell 1) id
  have Y1 := within_cell (F := fun _ => False) (show W4.cell? ⟨y2, 1, none⟩ = some (.int .i64 R.base.2) from y4.cell 1) id
  have X2 := within_cell (F := fun _ => False) (show W4.cell? ⟨y1, 2, none⟩ = some (.slice P1 R.plus.length k1) from x4.cell 2) id
  have Y2 := within_cell (F := fun _ => False) (show W4.cell? ⟨y2, 2, none⟩ = some (.slice P2 R.plus.length k2) from y4.cell 2) id
  have X3 := within_cell (F := fun _ => False) (show W4.cell? ⟨y1, 3, none⟩ = some (.slice M1 R.minus.length d1) from x4.cell 3) id
  have Y3 := within_cell (F := fun _ => False) (show W4.cell? ⟨y2, 3, none⟩ = some (.slice M2 R.minus.length d2) from y4.cell 3) id
  have X4 := within_cell (F := fun _ => False) (show W4.cell? ⟨y1, 4, none⟩ = some (.int .i64 R.scaled.1) from x4.cell 4) id
  have Y4 := within_cell (F := fun _ => False) (show W4.cell? ⟨y2, 4, none⟩ = some (.int .i64 R.scaled.1) from y4.cell 4) id
  have X5 := within_cell (F := fun _ => False) (show W4.cell? ⟨y1, 5, none⟩ = some (.int .i64 R.scaled.2.1) from x4.cell 5) id
  have Y5 := within_cell (F := fun _ => False) (show W4.cell? ⟨y2, 5, none⟩ = some (.int .i64 R.scaled.2.1) from y4.cell 5) id
  have X6 := within_cell (F := fun _ => False) (show W4.cell? ⟨y1, 6, none⟩ = some (.int .i64 R.scaled.2.2.1) from x4.cell 6) id
  have Y6 := within_cell (F := fun _ => False) (show W4.cell? ⟨y2, 6, none⟩ = some (.int .i64 R.scaled.2.2.1) from y4.cell 6) id
  have X7 := within_cell (F := fun _ => False) (show W4.cell? ⟨y1, 7, none⟩ = some (.int .i64 R.scaled.2.2.2.1) from x4.cell 7) id
  have Y7 := within_cell (F := fun _ => False) (show W4.cell? ⟨y2, 7, none⟩ = some (.int .i64 R.scaled.2.2.2.1) from y4.cell 7) id
  have X8 := within_cell (F := fun _ => False) (show W4.cell? ⟨y1, 8, none⟩ = some (.int .i64 R.scaled.2.2.2.2.1) from x4.cell 8) id
  have Y8 := within_cell (F := fun _ => False) (show W4.cell? ⟨y2, 8, none⟩ = some (.int .i64 R.scaled.2.2.2.2.1) from y4.cell 8) id
  have X9 := within_cell (F := fun _ => False) (show W4.cell? ⟨y1, 9, none⟩ = some (.int .i64 R.scaled.2.2.2.2.2) from x4.cell 9) id
  have Y9 := within_cell (F := fun _ => False) (show W4.cell? ⟨y2, 9, none⟩ = some (.int .i64 R.scaled.2.2.2.2.2) from y4.cell 9) id
  have X10 := within_cell (F := fun _ => False) (show W4.cell? ⟨y1, 10, none⟩ = some (.bool R.rated) from x4.cell 10) id
  have Y10 := within_cell (F := fun _ => False) (show W4.cell? ⟨y2, 10, none⟩ = some (.bool R.rated) from y4.cell 10) id
  have X11 := within_cell (F := fun _ => False) (show W4.cell? ⟨y1, 11, none⟩ = some (.int .i64 R.ratio.1) from x4.cell 11) id
  have Y11 := within_cell (F := fun _ => False) (show W4.cell? ⟨y2, 11, none⟩ = some (.int .i64 R.ratio.1) from y4.cell 11) id
  have X12 := within_cell (F := fun _ => False) (show W4.cell? ⟨y1, 12, none⟩ = some (.int .i64 R.ratio.2) from x4.cell 12) id
  have Y12 := within_cell (F := fun _ => False) (show W4.cell? ⟨y2, 12, none⟩ = some (.int .i64 R.ratio.2) from y4.cell 12) id
  have X13 := within_cell (F := fun _ => False) (show W4.cell? ⟨y1, 13, none⟩ = some (.bool R.has) from x4.cell 13) id
  have Y13 := within_cell (F := fun _ => False) (show W4.cell? ⟨y2, 13, none⟩ = some (.bool R.has) from y4.cell 13) id
  clear x4 y4
  refine wp_region_touch (fun _ => False) [] 7 [(1, .inr fun u w' => RcpIs w' u R), (3, .inl (.bool true))] [] (by kernel_rfl) rfl (by kernel_rfl) rfl (fun d _ _ _ _ h => by cases d <;> exact h) ?_ ?_
  · exact ⟨fun u a b hr h => h.keep hr, trivial⟩
  intro bef ops hbef hops
  have hb1 : (bef.getD 3 0).testBit 1 = true := by rw [hbef]; kernel_rfl
  clear hbef
  subst hops
  simp only [List.take_succ_cons, List.take_zero, List.drop_succ_cons, List.drop_zero]
  iterate 1 (refine t_det (by rfl) (by rfl) (by rfl) (by rfl) (fun K hK => ?_); go_big_quiet_op; (first | refine hK _ ?_ | refine ⟨_, fun _ => rfl, hK _ ?_⟩); clear hK K; (try simp only [Act.put, List.setIfInBounds_toArray, List.set_cons_succ, List.set_cons_zero]))
  refine t_loose (by rfl) (by rfl) (fun w5 hr hf => ?_) (fun d => ?_)
  · refine yields_of_wp (d := 40) rfl (by simp) (fun K hK => ?_)
    go_step
    refine (HB.out w5 ((Tch.drew _ W4).trans hr)).mono ?_
    rintro _ w6 ⟨v', rfl, ho, t2⟩
    exact hK _ _ ⟨⟨ho, t2⟩, newAt_no⟩
  simp only [Act.put, List.setIfInBounds_toArray, List.set_cons_succ, List.set_cons_zero]
  iterate 1 (refine t_det (by rfl) (by rfl) (by rfl) (by rfl) (fun K hK => ?_); go_big_quiet_op; (first | refine hK _ ?_ | refine ⟨_, fun _ => rfl, hK _ ?_⟩); clear hK K; (try simp only [Act.put, List.setIfInBounds_toArray, List.set_cons_succ, List.set_cons_zero]))
  refine t_fix (.bool true) (by rfl) (by rfl) (fun w5 hr hf => ?_) ?_
  · have hv := hf (1, fun w' => RcpIs w' d R) (List.mem_singleton.2 rfl) hb1
    refine yields_of_wp (d := 42) rfl (by simp) (fun K hK => ?_)
    go_step
    refine (HS.out w5 d ((Tch.drew _ W4).trans hr) hv).mono ?_
    rintro _ w6 ⟨rfl, t2⟩
    exact hK _ _ ⟨⟨rfl, t2⟩, newAt_no⟩
  simp only [Act.put, List.setIfInBounds_toArray, List.set_cons_succ, List.set_cons_zero]
  iterate 3 (refine t_det (by rfl) (by rfl) (by rfl) (by rfl) (fun K hK => ?_); go_big_quiet_op; (first | refine hK _ ?_ | refine ⟨_, fun _ => rfl, hK _ ?_⟩); clear hK K; (try simp only [Act.put, List.setIfInBounds_toArray, List.set_cons_succ, List.set_cons_zero]))
  refine t_nil ?_
  intro w5 hr hp hap
  have tt5 := tt4.trans ((Tch.drew _ W4).trans hr)
  clear hap hp hr hb1 HB HS tt4 X0 Y0 X1 Y1 X2 Y2 X3 Y3 X4 Y4 X5 Y5 X6 Y6 X7 Y7 X8 Y8 X9 Y9 X10 Y10 X11 Y11 X12 Y12 X13 Y13
  go_wp2_with fail
  refine (awake34_any w5).mono ?_
  rintro _ w6 ⟨rfl, t6⟩
  go_wp2
  go_ret
  exact ⟨rfl, tt5.trans t6⟩

theorem elimtells_row {w : World} {u v : Value} (hu : ∃ b, BooksIs (fun _ => True) w u b ∧ Bks64 b) (hv : ∃ c : Rt6, v = cellV c ∧ (I64 c.1 ∧ I64 c.2.1 ∧ I64 c.2.2.1 ∧ I64 c.2.2.2.1 ∧ I64 c.2.2.2.2.1 ∧ I64 c.2.2.2.2.2)) :
    Calls Tryz.prog 3 #[u, v] w fun x w' => x = .returned (.bool true) ∧ Tch (fun _ => False) w w' := by
  obtain ⟨b, hb, h64⟩ := hu
  obtain ⟨⟨c1, c2, c3, c4, c5, c6⟩, rfl, _⟩ := hv
  obtain ⟨e, a, s, r, l, n, us, rfl, h⟩ := hb.at
  exact elimtells_any h h64 c1 c2 c3 c4 c5 c6
end Go.Proofs.YtdangnmeligfjaaGreatDoor
