/-
  The books of a group, for probes.
-/
import Derived.Test.YtfpcnkfgjcppbaaGreatZ22
import Derived.Test.YtfpcnkfgjcppbaaGreatZ24
import Derived.Test.YtfpcnkfgjcppbaaGreatZ27
import Derived.Test.YtfpcnkfgjcppbaaGreatZ28
namespace Go.Gk
open Go.RowKit
theorem groupBks_few : BksFew groupBks := by
  refine ⟨by decide, by decide, by decide, by decide, by decide, by decide, ?_⟩
  intro x hx
  simp only [groupBks, List.mem_cons, List.not_mem_nil, or_false] at hx
  rcases hx with rfl | rfl <;> decide
theorem groupBks_64 : Bks64 groupBks := by
  refine ⟨?_, ?_, ?_, ?_, ?_, ?_⟩
  · intro x hx
    simp only [groupBks, List.mem_cons, List.not_mem_nil, or_false] at hx
    rcases hx with rfl | rfl | rfl <;> (unfold I64; simp)
  · intro x hx
    simp only [groupBks, ownAccs, List.cons_append, List.nil_append, List.mem_cons, List.not_mem_nil, or_false] at hx
    rcases hx with rfl | rfl | rfl | rfl | rfl <;> (unfold I64; simp)
  · intro x hx
    simp only [groupBks, List.mem_cons, List.not_mem_nil, or_false] at hx
    rcases hx with rfl | rfl <;> (unfold I64; simp)
  · intro x hx; simp [groupBks] at hx
  · intro x hx; simp [groupBks] at hx
  · intro x hx
    simp only [groupBks, List.mem_cons, List.not_mem_nil, or_false] at hx
    rcases hx with rfl | rfl
    all_goals
      refine ⟨by unfold I64; simp, by unfold I64; simp, ?_⟩
      intro l hl
      simp only [List.mem_cons, List.not_mem_nil, or_false] at hl
      rcases hl with rfl | rfl <;> (unfold I64; simp)
theorem group_hn : (accLeaves groupBks.accs).length ≤ 1000 := by decide
theorem group_hp : (posts groupBks.entries).length ≤ 10000 := by decide
theorem group_h64 : ∀ p ∈ posts groupBks.entries, I64 p.2.2.2.2 := by
  intro p hp
  simp only [posts, groupBks, List.flatMap_cons, List.flatMap_nil, List.map_cons, List.map_nil, List.cons_append, List.nil_append, List.mem_cons, List.not_mem_nil, or_false] at hp
  rcases hp with rfl | rfl | rfl | rfl <;> (unfold I64; simp)
end Go.Gk
namespace Go.Proofs.YtfpcnkfgjcppbaaGreat
open Go.RowKit Go.Gk

set_option maxRecDepth 100000 in
set_option maxHeartbeats 3200000 in
theorem group_any (w : World) :
    Calls Tryz.prog 40 #[] w fun x w' => ∃ e a s r l n us, x = .returned (.agg #[e, a, s, r, l, n]) ∧ BksAt w' e a s r l n groupBks us ∧ Tch (fun _ => False) w w' := by
  have tz := Tch.alloc (fun _ => False) w (.cells #[.slice none 0 0, .slice none 0 0, .slice none 0 0, .slice none 0 0, .slice none 0 0, .slice none 0 0] 29)
  have hz := Blk.new w 29 #[.slice none 0 0, .slice none 0 0, .slice none 0 0, .slice none 0 0, .slice none 0 0, .slice none 0 0]
  have hsz : (w.alloc (.cells #[.slice none 0 0, .slice none 0 0, .slice none 0 0, .slice none 0 0, .slice none 0 0, .slice none 0 0] 29)).heap.size = w.heap.size + 1 := by simp
  go_enter Tryz.func40, Tryz.ntmps40
  go_wp2_with fail
  generalize w.alloc _ = W at *
  generalize hzw : w.heap.size = z at *
  have HZW := Lib.hid hzw
  clear hzw
  refine (new26_any W).mono ?_
  rintro _ w1 ⟨u, rfl, hO⟩
  obtain ⟨A, c, he, _, _⟩ := hO.form
  rw [show ownAccs.length = 3 from rfl] at he
  subst he
  have h1 := hz.keep hO.tch id
  have hs1 : z + 1 ≤ w1.heap.size := by have := hO.tch.size; omega
  have T1 := tz.trans hO.tch
  -- the box, the entities
  have tb := Tch.alloc (fun _ => False) w1 (.cells #[.slice none 0 0, .slice A 3 c, .slice none 0 0, .slice none 0 0, .slice none 0 0, .slice none 0 0] 29)
  have ti := Tch.alloc (fun _ => False) (w1.alloc (.cells #[.slice none 0 0, .slice A 3 c, .slice none 0 0, .slice none 0 0, .slice none 0 0, .slice none 0 0] 29)) (.cells #[.int .i64 1, .int .i64 1, .int .i64 1] 3)
  have hb := (Blk.new w1 29 #[.slice none 0 0, .slice A 3 c, .slice none 0 0, .slice none 0 0, .slice none 0 0, .slice none 0 0]).keep ti id
  have hi := Blk.new2 w1 (.cells #[.slice none 0 0, .slice A 3 c, .slice none 0 0, .slice none 0 0, .slice none 0 0, .slice none 0 0] 29) 3 #[.int .i64 1, .int .i64 1, .int .i64 1]
  have hO1 := (hO.keep tb).keep ti
  have hz1 := (h1.keep tb id).keep ti id
  have T2 := (T1.trans tb).trans ti
  have hlt1 : ∀ g, (Value.slice A 3 c).ownBlock = some g → g < w1.heap.size := fun g hg => (hO.own.lt g hg).2
  have hsz1 : ((w1.alloc (.cells #[.slice none 0 0, .slice A 3 c, .slice none 0 0, .slice none 0 0, .slice none 0 0, .slice none 0 0] 29)).alloc (.cells #[.int .i64 1, .int .i64 1, .int .i64 1] 3)).heap.size = w1.heap.size + 2 := by simp
  clear hO T1 hz h1 tz tb ti
  go_wp2_with (refine wpList_store_cell rfl _ _ _ rfl (w1.heap.size) 0 (.slice (some ⟨w1.heap.size + 1, 0, none⟩) 3 3) (by rfl) (by rfl) rfl (by rfl) hb (by simp) ?_; refine Hid.out ?_)
  refine Lib.hid ?_
  intro w2 n2 ts2
  (try simp only [List.setIfInBounds_toArray, List.set_cons_succ, List.set_cons_zero] at n2)
  have i2 := hi.keep ts2 (by omega)
  have own2 := ts2.own hO1.own (fun g hg he => by have he : g = w1.heap.size := he; have := hlt1 g hg; omega)
  have z2 := hz1.keep ts2 (by omega)
  have T3 := T2.trans' ts2 (fun i hi => .inr (by have hi : i = w1.heap.size := hi; have := HZW.out; omega))
  have hs2 : w1.heap.size + 2 ≤ w2.heap.size := by have := ts2.size; omega
  clear hb hi hO1 hz1 T2 ts2 hsz1
  generalize w1.heap.size = y at *
  -- the accounts
  have p1 : w2.cell? ⟨y, 1, none⟩ = some (.slice A 3 c) := n2.cell 1
  have ta := Tch.alloc (fun _ => False) w2 (.cells #[.int .i64 0, .int .i64 1, .bool true, .bool false, .int .i64 0, .int .i64 1, .bool false, .bool true] 64)
  have bA := Blk.new w2 64 #[.int .i64 0, .int .i64 1, .bool true, .bool false, .int .i64 0, .int .i64 1, .bool false, .bool true]
  have hsA := (Row.blk (B := fun _ => True) (n := 2) (size := 4) bA trivial rfl (by decide)).src
  have own2a := own_base (own2.alloc (.cells #[.int .i64 0, .int .i64 1, .bool true, .bool false, .int .i64 0, .int .i64 1, .bool false, .bool true] 64))
  go_wp2_with (at_builtin; refine Hid.out ?_)
  refine Lib.hid ?_
  refine wpList_append _ rfl _ _ 23 rfl rowAccounts own2a (by rfl) hsA (by rfl) (by intro u hu; simp at hu; rcases hu with rfl | rfl | rfl | rfl | rfl | rfl | rfl | rfl <;> rfl) (by decide) (by decide) ?_
  intro v3 w3 ho3 hg3 hl3
  obtain ⟨O3, k3, rfl, _, _⟩ := own_form ho3
  have tg : Tch (fun g => y ≠ g ∧ y + 1 ≠ g ∧ z + 1 ≤ g) _ w3 := Tch.grown hg3 fun k9 hk9 => .inl (by have h1 := hlt1 k9 hk9; have h2 := (own2.lt k9 hk9).1; omega)
  have n3 := (n2.keep ta id).keep tg (fun h => h.1 rfl)
  have i3 := (i2.keep ta id).keep tg (fun h => h.2.1 rfl)
  have z3 := (z2.keep ta id).keep tg (fun h => by have := h.2.2; omega)
  have T4 := (T3.trans ta).trans' tg (fun i hi => .inr (by have hi : y ≠ i ∧ y + 1 ≠ i ∧ z + 1 ≤ i := hi; have := HZW.out; omega))
  have ob3 : ∀ g, (Value.slice O3 (3 + 2) k3).ownBlock = some g → g ≠ y ∧ z + 1 ≤ g := fun g9 hg9 => by
    rcases hl3 g9 hg9 with h9 | h9
    · have h1 := hlt1 g9 h9; have h2 := (own2.lt g9 h9).1; omega
    · have := ta.size; omega
  have hs3 : y + 2 ≤ w3.heap.size := by have h1 := tg.size; have := ta.size; omega
  clear hg3 hl3 tg ta bA hsA own2a own2 n2 i2 z2 T3 p1 hlt1 hs2
  go_wp2_with (refine wpList_store_cell rfl _ _ _ rfl (y) 1 (.slice O3 (3 + 2) k3) (by rfl) (by rfl) rfl (by rfl) n3 (by simp) ?_; refine Hid.out ?_)
  refine Lib.hid ?_
  intro w4 n4 ts4
  (try simp only [List.setIfInBounds_toArray, List.set_cons_succ, List.set_cons_zero] at n4)
  have own4 := ts4.own ho3 (fun g hg he => by have he : g = y := he; have := ob3 g hg; omega)
  have i4 := i3.keep ts4 (by omega)
  have z4 := z3.keep ts4 (by omega)
  have T5 := T4.trans' ts4 (fun i hi => .inr (by have hi : i = y := hi; have := HZW.out; omega))
  have hs4 : y + 2 ≤ w4.heap.size := by have := ts4.size; omega
  clear n3 i3 z3 T4 ts4 ho3 hs3
  -- the stakes
  have t1 := Tch.alloc (fun _ => False) w4 (.cells #[.int .i64 2, .int .i64 1, .int .i64 8000, .int .i64 0, .int .i64 3, .int .i64 1, .int .i64 10000, .int .i64 0] 144)
  have b1 := Blk.new w4 144 #[.int .i64 2, .int .i64 1, .int .i64 8000, .int .i64 0, .int .i64 3, .int .i64 1, .int .i64 10000, .int .i64 0]
  have n5 := n4.keep t1 id
  have i5 := i4.keep t1 id
  have z5 := z4.keep t1 id
  have own5 := t1.own own4 (fun _ _ => id)
  have T6 := T5.trans t1
  have hs5 : (w4.alloc (.cells #[.int .i64 2, .int .i64 1, .int .i64 8000, .int .i64 0, .int .i64 3, .int .i64 1, .int .i64 10000, .int .i64 0] 144)).heap.size = w4.heap.size + 1 := by simp
  clear n4 i4 z4 T5 own4 t1
  go_wp2_with (refine wpList_store_cell rfl _ _ _ rfl (y) 2 (.slice (some ⟨w4.heap.size, 0, none⟩) 2 2) (by rfl) (by rfl) rfl (by rfl) n5 (by simp) ?_; refine Hid.out ?_)
  refine Lib.hid ?_
  intro w5 n6 ts6
  (try simp only [List.setIfInBounds_toArray, List.set_cons_succ, List.set_cons_zero] at n6)
  have own6 := ts6.own own5 (fun g hg he => by have he : g = y := he; have := ob3 g hg; omega)
  have i6 := i5.keep ts6 (by omega)
  have z6 := z5.keep ts6 (by omega)
  have k6 := b1.keep ts6 (by omega)
  have T7 := T6.trans' ts6 (fun i hi => .inr (by have hi : i = y := hi; have := HZW.out; omega))
  have hs6 : w4.heap.size + 1 ≤ w5.heap.size := by have := ts6.size; omega
  clear n5 i5 z5 own5 T6 b1 ts6 hs5
  generalize w4.heap.size = sx at *
  -- the entries
  have t1 := Tch.alloc (fun _ => False) w5 (.cells #[.int .i64 2, .int .i64 5, .int .i64 3, .int .i64 8, .int .i64 2, .int .i64 4, .int .i64 0, .int .i64 (-8)] 78)
  have b1 := Blk.new w5 78 #[.int .i64 2, .int .i64 5, .int .i64 3, .int .i64 8, .int .i64 2, .int .i64 4, .int .i64 0, .int .i64 (-8)]
  have t2 := Tch.alloc (fun _ => False) (w5.alloc (.cells #[.int .i64 2, .int .i64 5, .int .i64 3, .int .i64 8, .int .i64 2, .int .i64 4, .int .i64 0, .int .i64 (-8)] 78)) (.cells #[.int .i64 3, .int .i64 5, .int .i64 2, .int .i64 (-6), .int .i64 3, .int .i64 4, .int .i64 0, .int .i64 6] 78)
  have b2 := Blk.new2 w5 (.cells #[.int .i64 2, .int .i64 5, .int .i64 3, .int .i64 8, .int .i64 2, .int .i64 4, .int .i64 0, .int .i64 (-8)] 78) 78 #[.int .i64 3, .int .i64 5, .int .i64 2, .int .i64 (-6), .int .i64 3, .int .i64 4, .int .i64 0, .int .i64 6]
  have t3 := Tch.alloc (fun _ => False) ((w5.alloc (.cells #[.int .i64 2, .int .i64 5, .int .i64 3, .int .i64 8, .int .i64 2, .int .i64 4, .int .i64 0, .int .i64 (-8)] 78)).alloc (.cells #[.int .i64 3, .int .i64 5, .int .i64 2, .int .i64 (-6), .int .i64 3, .int .i64 4, .int .i64 0, .int .i64 6] 78)) (.cells #[.int .i64 0, .int .i64 0, .slice (some ⟨w5.heap.size, 0, none⟩) 2 2, .int .i64 0, .int .i64 0, .slice (some ⟨w5.heap.size + 1, 0, none⟩) 2 2] 76)
  have b3 := Blk.new3 w5 (.cells #[.int .i64 2, .int .i64 5, .int .i64 3, .int .i64 8, .int .i64 2, .int .i64 4, .int .i64 0, .int .i64 (-8)] 78) (.cells #[.int .i64 3, .int .i64 5, .int .i64 2, .int .i64 (-6), .int .i64 3, .int .i64 4, .int .i64 0, .int .i64 6] 78) 76 #[.int .i64 0, .int .i64 0, .slice (some ⟨w5.heap.size, 0, none⟩) 2 2, .int .i64 0, .int .i64 0, .slice (some ⟨w5.heap.size + 1, 0, none⟩) 2 2]
  have n7 := ((n6.keep t1 id).keep t2 id).keep t3 id
  have i7 := ((i6.keep t1 id).keep t2 id).keep t3 id
  have z7 := ((z6.keep t1 id).keep t2 id).keep t3 id
  have k7 := ((k6.keep t1 id).keep t2 id).keep t3 id
  have own7 := t3.own (t2.own (t1.own own6 (fun _ _ => id)) (fun _ _ => id)) (fun _ _ => id)
  have T8 := ((T7.trans t1).trans t2).trans t3
  have hb1 := (b1.keep t2 id).keep t3 id
  have hb2 := b2.keep t3 id
  have hs7 : (((w5.alloc (.cells #[.int .i64 2, .int .i64 5, .int .i64 3, .int .i64 8, .int .i64 2, .int .i64 4, .int .i64 0, .int .i64 (-8)] 78)).alloc (.cells #[.int .i64 3, .int .i64 5, .int .i64 2, .int .i64 (-6), .int .i64 3, .int .i64 4, .int .i64 0, .int .i64 6] 78)).alloc (.cells #[.int .i64 0, .int .i64 0, .slice (some ⟨w5.heap.size, 0, none⟩) 2 2, .int .i64 0, .int .i64 0, .slice (some ⟨w5.heap.size + 1, 0, none⟩) 2 2] 76)).heap.size = w5.heap.size + 3 := by simp
  clear n6 i6 z6 k6 T7 own6 b1 b2 t1 t2 t3
  go_wp2_with (refine wpList_store_cell rfl _ _ _ rfl (y) 5 (.slice (some ⟨w5.heap.size + 2, 0, none⟩) 2 2) (by rfl) (by rfl) rfl (by rfl) n7 (by simp) ?_; refine Hid.out ?_)
  refine Lib.hid ?_
  intro w6 n8 ts8
  (try simp only [List.setIfInBounds_toArray, List.set_cons_succ, List.set_cons_zero] at n8)
  have own8 := ts8.own own7 (fun g hg he => by have he : g = y := he; have := ob3 g hg; omega)
  have i8 := i7.keep ts8 (by omega)
  have z8 := z7.keep ts8 (by omega)
  have k8 := k7.keep ts8 (by omega)
  have l8 := hb1.keep ts8 (by omega)
  have m8 := hb2.keep ts8 (by omega)
  have e8 := b3.keep ts8 (by omega)
  have T9 := T8.trans' ts8 (fun i hi => .inr (by have hi : i = y := hi; have := HZW.out; omega))
  clear n7 i7 z7 k7 own7 T8 hb1 hb2 b3 ts8
  generalize w5.heap.size = x at *
  go_wp2_with (refine wpList_load_row rfl _ _ rfl y (by rfl) 29 #[.slice (some ⟨y + 1, 0, none⟩) 3 3, .slice O3 (3 + 2) k3, .slice (some ⟨sx, 0, none⟩) 2 2, .slice none 0 0, .slice none 0 0, .slice (some ⟨x + 2, 0, none⟩) 2 2] (0, 0) _ n8 Tryz.underlying29 rfl (by kernel_rfl) ?_; refine Hid.out ?_)
  refine Lib.hid ?_
  go_wp2_with (refine wpList_store_blk rfl _ _ _ rfl (z) #[.slice (some ⟨y + 1, 0, none⟩) 3 3, .slice O3 (3 + 2) k3, .slice (some ⟨sx, 0, none⟩) 2 2, .slice none 0 0, .slice none 0 0, .slice (some ⟨x + 2, 0, none⟩) 2 2] (by rfl) (by rfl) z8 (by kernel_rfl) rfl (by simp [Value.oneCell']) ?_; refine Hid.out ?_)
  refine Lib.hid ?_
  intro w7 hF tF
  have HBF := Lib.hid hF
  have HTF := Lib.hid tF
  clear hF tF n8 z8
  go_wp2
  refine bodyPost_ret (results_cell_row (P := Tryz.prog) rfl _ _ (z) 29 _ (0, 0) _ rfl HBF.out Tryz.underlying29 rfl (by kernel_rfl)) rfl ?_
  refine ⟨_, _, _, _, _, _, [(⟨0, 0, [(2, 5, 3, 8), (2, 4, 0, -8)]⟩, .slice (some ⟨x, 0, none⟩) 2 2), (⟨0, 0, [(3, 5, 2, -6), (3, 4, 0, 6)]⟩, .slice (some ⟨x + 1, 0, none⟩) 2 2)], rfl, ⟨?_, ?_, ?_, Row.nil _ _ _, Row.nil _ _ _, ⟨?_, ?_⟩, rfl⟩, T9.trans' HTF.out (fun i hi => .inr (by have hi : i = z := hi; have := HZW.out; omega))⟩
  · exact Row.blk (i8.keep HTF.out (by omega)) trivial rfl (by decide)
  · exact Row.own ((HTF.out).own own8 (fun g hg he => by have he : g = z := he; have := ob3 g hg; omega)) (fun _ _ => trivial)
  · exact Row.blk (k8.keep HTF.out (by omega)) trivial rfl (by decide)
  · exact Row.blk (e8.keep HTF.out (by omega)) trivial rfl (by decide)
  · intro p hp
    simp only [List.mem_cons, List.not_mem_nil, or_false] at hp
    rcases hp with rfl | rfl
    · exact Row.blk (l8.keep HTF.out (by omega)) trivial rfl (by decide)
    · exact Row.blk (m8.keep HTF.out (by omega)) trivial rfl (by decide)
end Go.Proofs.YtfpcnkfgjcppbaaGreat

/-
  The document's: recipes of what parents and others have.
-/
namespace Go.Proofs.YtfpcnkfgjcppbaaGreat
open Go.RowKit Go.Gk

section
variable {w : World} {e a s r l n : Value} {b : Bks} {us : List (Ent × Value)}

set_option maxRecDepth 100000 in
set_option maxHeartbeats 12800000 in
theorem refsplit_any (h : BksAt w e a s r l n b us) (hn : b.accs.length ≤ 100000) (h40 : b.ents.length ≤ 40) (h400 : b.stakes.length ≤ 400) (hok : stakesOK b.stakes b.ents.length = true) (c1 c2 c3 c4 c5 c6 : Int) :
    Calls Tryz.prog 14 #[.agg #[e, a, s, r, l, n], .agg #[.int .i64 c1, .int .i64 c2, .int .i64 c3, .int .i64 c4, .int .i64 c5, .int .i64 c6]] w (SplitOk b (c1, c2, c3, c4, c5, c6) w) := by
  have ta := Tch.alloc (fun _ => False) w (.cells #[e, a, s, r, l, n] 29)
  have tb := Tch.alloc (fun _ => False) (w.alloc (.cells #[e, a, s, r, l, n] 29)) (.cells #[.int .i64 c1, .int .i64 c2, .int .i64 c3, .int .i64 c4, .int .i64 c5, .int .i64 c6] 31)
  have tc := Tch.alloc (fun _ => False) ((w.alloc (.cells #[e, a, s, r, l, n] 29)).alloc (.cells #[.int .i64 c1, .int .i64 c2, .int .i64 c3, .int .i64 c4, .int .i64 c5, .int .i64 c6] 31)) (.cells #[.int .i64 0, .int .i64 0, .slice none 0 0, .slice none 0 0, .int .i64 0, .int .i64 0, .int .i64 0, .int .i64 0, .int .i64 0, .int .i64 0, .bool false, .int .i64 0, .int .i64 0, .bool false] 50)
  have td := Tch.alloc (fun _ => False) (((w.alloc (.cells #[e, a, s, r, l, n] 29)).alloc (.cells #[.int .i64 c1, .int .i64 c2, .int .i64 c3, .int .i64 c4, .int .i64 c5, .int .i64 c6] 31)).alloc (.cells #[.int .i64 0, .int .i64 0, .slice none 0 0, .slice none 0 0, .int .i64 0, .int .i64 0, .int .i64 0, .int .i64 0, .int .i64 0, .int .i64 0, .bool false, .int .i64 0, .int .i64 0, .bool false] 50)) (.cells #[.int .i64 0, .int .i64 0, .slice none 0 0, .slice none 0 0, .int .i64 0, .int .i64 0, .int .i64 0, .int .i64 0, .int .i64 0, .int .i64 0, .bool false, .int .i64 0, .int .i64 0, .bool false] 50)
  have tw := ((ta.trans tb).trans tc).trans td
  have hbB := (((Blk.new w 29 #[e, a, s, r, l, n]).keep tb id).keep tc id).keep td id
  have hbC := ((Blk.new2 w (.cells #[e, a, s, r, l, n] 29) 31 #[.int .i64 c1, .int .i64 c2, .int .i64 c3, .int .i64 c4, .int .i64 c5, .int .i64 c6]).keep tc id).keep td id
  have hbR := (Blk.new ((w.alloc (.cells #[e, a, s, r, l, n] 29)).alloc (.cells #[.int .i64 c1, .int .i64 c2, .int .i64 c3, .int .i64 c4, .int .i64 c5, .int .i64 c6] 31)) 50 #[.int .i64 0, .int .i64 0, .slice none 0 0, .slice none 0 0, .int .i64 0, .int .i64 0, .int .i64 0, .int .i64 0, .int .i64 0, .int .i64 0, .bool false, .int .i64 0, .int .i64 0, .bool false]).keep td id
  have hbN := Blk.new (((w.alloc (.cells #[e, a, s, r, l, n] 29)).alloc (.cells #[.int .i64 c1, .int .i64 c2, .int .i64 c3, .int .i64 c4, .int .i64 c5, .int .i64 c6] 31)).alloc (.cells #[.int .i64 0, .int .i64 0, .slice none 0 0, .slice none 0 0, .int .i64 0, .int .i64 0, .int .i64 0, .int .i64 0, .int .i64 0, .int .i64 0, .bool false, .int .i64 0, .int .i64 0, .bool false] 50)) 50 #[.int .i64 0, .int .i64 0, .slice none 0 0, .slice none 0 0, .int .i64 0, .int .i64 0, .int .i64 0, .int .i64 0, .int .i64 0, .int .i64 0, .bool false, .int .i64 0, .int .i64 0, .bool false]
  rw [show ((w.alloc (.cells #[e, a, s, r, l, n] 29)).alloc (.cells #[.int .i64 c1, .int .i64 c2, .int .i64 c3, .int .i64 c4, .int .i64 c5, .int .i64 c6] 31)).heap.size = w.heap.size + 2 by simp] at hbR
  rw [show (((w.alloc (.cells #[e, a, s, r, l, n] 29)).alloc (.cells #[.int .i64 c1, .int .i64 c2, .int .i64 c3, .int .i64 c4, .int .i64 c5, .int .i64 c6] 31)).alloc (.cells #[.int .i64 0, .int .i64 0, .slice none 0 0, .slice none 0 0, .int .i64 0, .int .i64 0, .int .i64 0, .int .i64 0, .int .i64 0, .int .i64 0, .bool false, .int .i64 0, .int .i64 0, .bool false] 50)).heap.size = w.heap.size + 3 by simp] at hbN
  have hsz : ((((w.alloc (.cells #[e, a, s, r, l, n] 29)).alloc (.cells #[.int .i64 c1, .int .i64 c2, .int .i64 c3, .int .i64 c4, .int .i64 c5, .int .i64 c6] 31)).alloc (.cells #[.int .i64 0, .int .i64 0, .slice none 0 0, .slice none 0 0, .int .i64 0, .int .i64 0, .int .i64 0, .int .i64 0, .int .i64 0, .int .i64 0, .bool false, .int .i64 0, .int .i64 0, .bool false] 50)).alloc (.cells #[.int .i64 0, .int .i64 0, .slice none 0 0, .slice none 0 0, .int .i64 0, .int .i64 0, .int .i64 0, .int .i64 0, .int .i64 0, .int .i64 0, .bool false, .int .i64 0, .int .i64 0, .bool false] 50)).heap.size = w.heap.size + 4 := by simp
  have hW := h.keep tw
  have HM := Lib.hid (refmay31_any hW hn (c1, c2, c3, c4, c5, c6) 4 5)
  unfold cellV at HM
  simp only at HM
  have HL : Hid (splitOf b (c1, c2, c3, c4, c5, c6) = if mayOf b (c1, c2, c3, c4, c5, c6) 4 5 = 0 then (splitRcp (c1, c2, c3, c4, c5, c6) (splitPart b (c1, c2, c3, c4, c5, c6)), 0) else (Rcp.none, mayOf b (c1, c2, c3, c4, c5, c6) 4 5)) := Lib.hid rfl
  have HFA := Lib.hid (fun h => may_facts (b := b) (c := (c1, c2, c3, c4, c5, c6)) (lo := 4) (hi := 5) h)
  generalize mayOf b (c1, c2, c3, c4, c5, c6) 4 5 = m at *
  have HW := Lib.hid hW
  have HFO := Lib.hid (fun w' (t : Tch (fun _ => False) w w') (h0 : 0 ≤ c4) (h1 : c4 ≤ 23) => refforest30_any (h.keep t) h40 h400 hok c4 h0 h1)
  have HSH := Lib.hid (fun w' (t : Tch (fun _ => False) w w') => refshare19_any (h.keep t).stakes h400 b.ents.length c4 c2)
  obtain ⟨Ae, ce, rfl, _, _⟩ := h.ents.form
  obtain ⟨Aa, ca, rfl, ha1, ha2⟩ := h.accs.form
  obtain ⟨As, cs, rfl, _, _⟩ := h.stakes.form
  obtain ⟨Ar, cr, rfl, _, _⟩ := h.rates.form
  obtain ⟨Al, cl, rfl, _, _⟩ := h.locks.form
  obtain ⟨An, cn, rfl, _, _⟩ := h.ent.row.form
  clear ta tb tc td h hW hok
  go_enter Tryz.func14, Tryz.ntmps14
  go_wp2_with fail
  generalize (((w.alloc (.cells #[.slice Ae b.ents.length ce, .slice Aa b.accs.length ca, .slice As b.stakes.length cs, .slice Ar b.rates.length cr, .slice Al b.locks.length cl, .slice An us.length cn] 29)).alloc (.cells #[.int .i64 c1, .int .i64 c2, .int .i64 c3, .int .i64 c4, .int .i64 c5, .int .i64 c6] 31)).alloc (.cells #[.int .i64 0, .int .i64 0, .slice none 0 0, .slice none 0 0, .int .i64 0, .int .i64 0, .int .i64 0, .int .i64 0, .int .i64 0, .int .i64 0, .bool false, .int .i64 0, .int .i64 0, .bool false] 50)).alloc (.cells #[.int .i64 0, .int .i64 0, .slice none 0 0, .slice none 0 0, .int .i64 0, .int .i64 0, .int .i64 0, .int .i64 0, .int .i64 0, .int .i64 0, .bool false, .int .i64 0, .int .i64 0, .bool false] 50) = W at *
  generalize hzw : w.heap.size = z at *
  have HZW := Lib.hid hzw
  clear hzw
  refine HM.out.mono ?_
  rintro _ w1 ⟨rfl, t1⟩
  clear HM
  have hC := hbC.keep t1 id
  have hR := hbR.keep t1 id
  have hN := hbN.keep t1 id
  have hB := hbB.keep t1 id
  have hA := (HW.out.keep t1).accs
  have hT := tw.trans t1
  have hS : z + 4 ≤ w1.heap.size := by have := t1.size; omega
  clear hbC hbR hbN hbB HW tw t1 hsz
  by_cases hm : m = 0
  rotate_left
  · have hm' : (m != 0) = true := by simpa using hm
    have HLN := Lib.hid (show splitOf b (c1, c2, c3, c4, c5, c6) = (Rcp.none, m) by rw [HL.out, if_neg hm])
    clear hm hA hB hC HFO HSH
    go_wp2_with (refine wpList_load_row rfl _ _ rfl (z + 3) (by rfl) 50 #[.int .i64 0, .int .i64 0, .slice none 0 0, .slice none 0 0, .int .i64 0, .int .i64 0, .int .i64 0, .int .i64 0, .int .i64 0, .int .i64 0, .bool false, .int .i64 0, .int .i64 0, .bool false] (0, 0) _ hN Tryz.underlying50 rfl (by kernel_rfl) ?_; refine Hid.out ?_)
    refine Lib.hid ?_
    go_wp2_with (refine wpList_store_blk rfl _ _ _ rfl (z + 2) #[.int .i64 0, .int .i64 0, .slice none 0 0, .slice none 0 0, .int .i64 0, .int .i64 0, .int .i64 0, .int .i64 0, .int .i64 0, .int .i64 0, .bool false, .int .i64 0, .int .i64 0, .bool false] (by rfl) (by rfl) hR (by kernel_rfl) rfl (by simp [Value.oneCell']) ?_; refine Hid.out ?_)
    refine Lib.hid ?_
    intro w9 hF tF
    have HBF := Lib.hid hF
    have TT := Lib.hid (hT.trans' (F' := fun g => g = z + 2) tF (fun i hi => .inr (by have hi : i = z + 2 := hi; have := HZW.out; omega)))
    clear hF tF hN hR hT
    go_wp2
    (try simp only [Exit.inBlock, Exit.then])
    (try rw [Exit.noGoto_ret])
    refine bodyPost_ret (results_row_tmp (P := Tryz.prog) rfl _ _ (z + 2) 50 _ (0, 0) _ rfl HBF.out Tryz.underlying50 rfl (by kernel_rfl)) rfl ?_
    unfold SplitOk
    rw [HLN.out]
    exact ⟨_, rfl, ⟨_, _, rfl, Row.nil _ _ _, Row.nil _ _ _⟩, TT.out⟩
  subst hm
  obtain ⟨hr, ⟨hp0, hp1⟩, _, hlf⟩ := HFA.out rfl
  (try simp only at hr hp0 hp1 hlf)
  clear HFA
  have HFO2 := Lib.hid (fun w' t => HFO.out w' t hp0 hp1)
  clear HFO
  obtain ⟨k, hk, hc3, hat⟩ := accIs_at hlf
  have HSP := Lib.hid (show splitPart b (c1, c2, c3, c4, c5, c6) = if b.accs[k].2.2.1 = true then (if 1 ≤ c2 ∧ c2 ≤ b.ents.length then stkShare b.stakes c2 c4 else 0) else 10000 by
    unfold splitPart accSplit
    simp only
    rw [hat]
    rfl)
  generalize splitPart b (c1, c2, c3, c4, c5, c6) = sp at *
  have HLL := Lib.hid (show splitOf b (c1, c2, c3, c4, c5, c6) = (splitRcp (c1, c2, c3, c4, c5, c6) sp, 0) by rw [HL.out, if_pos rfl])
  clear HL hlf h40 hn hat
  -- the whole's key in a box of its own
  have k0 : w1.cell? ⟨z + 1, 0, none⟩ = some (.int .i64 c1) := hC.cell 0
  have k1 : w1.cell? ⟨z + 1, 1, none⟩ = some (.int .i64 c2) := hC.cell 1
  have k2 : w1.cell? ⟨z + 1, 2, none⟩ = some (.int .i64 c3) := hC.cell 2
  have k3 : w1.cell? ⟨z + 1, 3, none⟩ = some (.int .i64 c4) := hC.cell 3
  have k4 : w1.cell? ⟨z + 1, 4, none⟩ = some (.int .i64 c5) := hC.cell 4
  have k5 : w1.cell? ⟨z + 1, 5, none⟩ = some (.int .i64 c6) := hC.cell 5
  have tY := Tch.alloc (fun _ => False) w1 (.cells #[.int .i64 7, .int .i64 c2, .int .i64 c3, .int .i64 c4, .int .i64 c5, .int .i64 c6] 31)
  have hY := Blk.new w1 31 #[.int .i64 7, .int .i64 c2, .int .i64 c3, .int .i64 c4, .int .i64 c5, .int .i64 c6]
  have hC := hC.keep tY id
  have hR := hR.keep tY id
  have hN := hN.keep tY id
  have hB := hB.keep tY id
  have HA := Lib.hid (hA.keep tY)
  have hT := hT.trans tY
  have hszY : (w1.alloc (.cells #[.int .i64 7, .int .i64 c2, .int .i64 c3, .int .i64 c4, .int .i64 c5, .int .i64 c6] 31)).heap.size = w1.heap.size + 1 := by simp
  have HC3 := Lib.hid hc3
  clear tY hA hc3
  have d0 : (w1.alloc (.cells #[.int .i64 7, .int .i64 c2, .int .i64 c3, .int .i64 c4, .int .i64 c5, .int .i64 c6] 31)).cell? ⟨z + 1, 0, none⟩ = some (.int .i64 c1) := hC.cell 0
  have d1 : (w1.alloc (.cells #[.int .i64 7, .int .i64 c2, .int .i64 c3, .int .i64 c4, .int .i64 c5, .int .i64 c6] 31)).cell? ⟨z + 1, 1, none⟩ = some (.int .i64 c2) := hC.cell 1
  have d2 : (w1.alloc (.cells #[.int .i64 7, .int .i64 c2, .int .i64 c3, .int .i64 c4, .int .i64 c5, .int .i64 c6] 31)).cell? ⟨z + 1, 2, none⟩ = some (.int .i64 c3) := hC.cell 2
  have d3 : (w1.alloc (.cells #[.int .i64 7, .int .i64 c2, .int .i64 c3, .int .i64 c4, .int .i64 c5, .int .i64 c6] 31)).cell? ⟨z + 1, 3, none⟩ = some (.int .i64 c4) := hC.cell 3
  have d4 : (w1.alloc (.cells #[.int .i64 7, .int .i64 c2, .int .i64 c3, .int .i64 c4, .int .i64 c5, .int .i64 c6] 31)).cell? ⟨z + 1, 4, none⟩ = some (.int .i64 c5) := hC.cell 4
  have d5 : (w1.alloc (.cells #[.int .i64 7, .int .i64 c2, .int .i64 c3, .int .i64 c4, .int .i64 c5, .int .i64 c6] 31)).cell? ⟨z + 1, 5, none⟩ = some (.int .i64 c6) := hC.cell 5
  have hr2 : c1 = 4 ∨ c1 = 5 := by omega
  clear hr
  rcases hr2 with rfl | rfl
  rotate_left
  · have HL5 := Lib.hid (show splitOf b (5, c2, c3, c4, c5, c6) = ({ Rcp.none with plus := [(7, c2, c3, c4, c5, c6)], minus := [(4, c2, c3, c4, c5, c6)] }, 0) by rw [HLL.out]; rfl)
    clear HLL HSP HFO2 HSH HA hB hk HC3
    have tX := Tch.alloc (fun _ => False) (w1.alloc (.cells #[.int .i64 7, .int .i64 c2, .int .i64 c3, .int .i64 c4, .int .i64 c5, .int .i64 c6] 31)) (.cells #[.int .i64 4, .int .i64 c2, .int .i64 c3, .int .i64 c4, .int .i64 c5, .int .i64 c6] 31)
    have hX := Blk.new2 w1 (.cells #[.int .i64 7, .int .i64 c2, .int .i64 c3, .int .i64 c4, .int .i64 c5, .int .i64 c6] 31) 31 #[.int .i64 4, .int .i64 c2, .int .i64 c3, .int .i64 c4, .int .i64 c5, .int .i64 c6]
    have hR := hR.keep tX id
    have hN := hN.keep tX id
    have hY := hY.keep tX id
    have hT := hT.trans tX
    have hszX : ((w1.alloc (.cells #[.int .i64 7, .int .i64 c2, .int .i64 c3, .int .i64 c4, .int .i64 c5, .int .i64 c6] 31)).alloc (.cells #[.int .i64 4, .int .i64 c2, .int .i64 c3, .int .i64 c4, .int .i64 c5, .int .i64 c6] 31)).heap.size = w1.heap.size + 2 := by simp
    clear tX hC
    have e0 : ((w1.alloc (.cells #[.int .i64 7, .int .i64 c2, .int .i64 c3, .int .i64 c4, .int .i64 c5, .int .i64 c6] 31)).alloc (.cells #[.int .i64 4, .int .i64 c2, .int .i64 c3, .int .i64 c4, .int .i64 c5, .int .i64 c6] 31)).cell? ⟨w1.heap.size, 0, none⟩ = some (.int .i64 7) := hY.cell 0
    have e1 : ((w1.alloc (.cells #[.int .i64 7, .int .i64 c2, .int .i64 c3, .int .i64 c4, .int .i64 c5, .int .i64 c6] 31)).alloc (.cells #[.int .i64 4, .int .i64 c2, .int .i64 c3, .int .i64 c4, .int .i64 c5, .int .i64 c6] 31)).cell? ⟨w1.heap.size, 1, none⟩ = some (.int .i64 c2) := hY.cell 1
    have e2 : ((w1.alloc (.cells #[.int .i64 7, .int .i64 c2, .int .i64 c3, .int .i64 c4, .int .i64 c5, .int .i64 c6] 31)).alloc (.cells #[.int .i64 4, .int .i64 c2, .int .i64 c3, .int .i64 c4, .int .i64 c5, .int .i64 c6] 31)).cell? ⟨w1.heap.size, 2, none⟩ = some (.int .i64 c3) := hY.cell 2
    have e3 : ((w1.alloc (.cells #[.int .i64 7, .int .i64 c2, .int .i64 c3, .int .i64 c4, .int .i64 c5, .int .i64 c6] 31)).alloc (.cells #[.int .i64 4, .int .i64 c2, .int .i64 c3, .int .i64 c4, .int .i64 c5, .int .i64 c6] 31)).cell? ⟨w1.heap.size, 3, none⟩ = some (.int .i64 c4) := hY.cell 3
    have e4 : ((w1.alloc (.cells #[.int .i64 7, .int .i64 c2, .int .i64 c3, .int .i64 c4, .int .i64 c5, .int .i64 c6] 31)).alloc (.cells #[.int .i64 4, .int .i64 c2, .int .i64 c3, .int .i64 c4, .int .i64 c5, .int .i64 c6] 31)).cell? ⟨w1.heap.size, 4, none⟩ = some (.int .i64 c5) := hY.cell 4
    have e5 : ((w1.alloc (.cells #[.int .i64 7, .int .i64 c2, .int .i64 c3, .int .i64 c4, .int .i64 c5, .int .i64 c6] 31)).alloc (.cells #[.int .i64 4, .int .i64 c2, .int .i64 c3, .int .i64 c4, .int .i64 c5, .int .i64 c6] 31)).cell? ⟨w1.heap.size, 5, none⟩ = some (.int .i64 c6) := hY.cell 5
    have p2 : ((w1.alloc (.cells #[.int .i64 7, .int .i64 c2, .int .i64 c3, .int .i64 c4, .int .i64 c5, .int .i64 c6] 31)).alloc (.cells #[.int .i64 4, .int .i64 c2, .int .i64 c3, .int .i64 c4, .int .i64 c5, .int .i64 c6] 31)).cell? ⟨z + 3, 2, none⟩ = some (.slice none 0 0) := hN.cell 2
    go_wp2_with (at_builtin; refine Hid.out ?_)
    refine Lib.hid ?_
    generalize (w1.alloc (.cells #[.int .i64 7, .int .i64 c2, .int .i64 c3, .int .i64 c4, .int .i64 c5, .int .i64 c6] 31)).alloc (.cells #[.int .i64 4, .int .i64 c2, .int .i64 c3, .int .i64 c4, .int .i64 c5, .int .i64 c6] 31) = w3 at *
    generalize w1.heap.size = y at *
    clear k0 k1 k2 k3 k4 k5 d0 d1 d2 d3 d4 d5 hszY
    have hS2 : y + 2 ≤ w3.heap.size := by omega
    have bG := Blk.new w3 31 #[.int .i64 7, .int .i64 c2, .int .i64 c3, .int .i64 c4, .int .i64 c5, .int .i64 c6]
    rw [hszX] at bG
    refine wpList_append _ rfl _ _ 40 rfl rowCells ((World.ownsRow_nil w3 0 31 6).alloc _) (by rfl) (Go.Gk.Src.one (news := int6 (7, c2, c3, c4, c5, c6)) rfl (fun m9 u9 hu9 => by rw [bG.cell m9]; simpa [int6] using hu9)) (by rfl) (one6 _) (by unfold maxLen; simp) (by simp) ?_
    intro v4 x4 ho4 hg4 hl4
    simp only [List.nil_append, Nat.zero_add] at ho4
    obtain ⟨O4, k4, rfl, _, _⟩ := own_form ho4
    have ta4 := Tch.alloc (fun _ => False) w3 (.cells #[.int .i64 7, .int .i64 c2, .int .i64 c3, .int .i64 c4, .int .i64 c5, .int .i64 c6] 31)
    have tg4 : Tch (fun _ => False) (w3.alloc (.cells #[.int .i64 7, .int .i64 c2, .int .i64 c3, .int .i64 c4, .int .i64 c5, .int .i64 c6] 31)) x4 := Tch.grown hg4 fun k9 hk9 => by cases hk9
    have tb4 := ta4.trans tg4
    have ob4 : ∀ g, (Value.slice O4 1 k4).ownBlock = some g → w3.heap.size ≤ g := fun g9 hg9 => by
      rcases hl4 g9 hg9 with h9 | h9
      · cases h9
      · have := ta4.size; omega
    have hN := hN.keep tb4 id
    have hR := hR.keep tb4 id
    have hX := hX.keep tb4 id
    have hY := hY.keep tb4 id
    have hT := hT.trans tb4
    have hS4 : z + 4 ≤ x4.heap.size := by have := tb4.size; omega
    clear hszX
    clear hg4 hl4 tg4 ta4 tb4 p2 e0 e1 e2 e3 e4 e5 bG
    go_step
    go_step
    go_step
    refine wpList_store_cell rfl _ _ _ rfl (z + 3) 2 (.slice O4 1 k4) (by rfl) (by rfl) rfl (by rfl) hN (by simp) ?_
    intro w4 hN4 ts4
    (try simp only [List.setIfInBounds_toArray, List.set_cons_succ, List.set_cons_zero] at hN4)
    clear hN
    have hN := hN4
    have hR := hR.keep ts4 (by omega)
    have hX := hX.keep ts4 (by omega)
    have hY := hY.keep ts4 (by omega)
    have ow4 := ts4.own ho4 (fun g hg he => by have he : g = z + 3 := he; have := ob4 g hg; omega)
    have hT := hT.trans' ts4 (fun i hi => .inr (by have hi : i = z + 3 := hi; have := HZW.out; omega))
    have hS : z + 4 ≤ w4.heap.size := by have := ts4.size; omega
    clear ho4 ts4 hN4 hS4
    have e0 : w4.cell? ⟨(y + 1), 0, none⟩ = some (.int .i64 4) := hX.cell 0
    have e1 : w4.cell? ⟨(y + 1), 1, none⟩ = some (.int .i64 c2) := hX.cell 1
    have e2 : w4.cell? ⟨(y + 1), 2, none⟩ = some (.int .i64 c3) := hX.cell 2
    have e3 : w4.cell? ⟨(y + 1), 3, none⟩ = some (.int .i64 c4) := hX.cell 3
    have e4 : w4.cell? ⟨(y + 1), 4, none⟩ = some (.int .i64 c5) := hX.cell 4
    have e5 : w4.cell? ⟨(y + 1), 5, none⟩ = some (.int .i64 c6) := hX.cell 5
    have p2 : w4.cell? ⟨z + 3, 3, none⟩ = some (.slice none 0 0) := hN.cell 3
    go_wp2_with (at_builtin; refine Hid.out ?_)
    refine Lib.hid ?_
    have bG := Blk.new w4 31 #[.int .i64 4, .int .i64 c2, .int .i64 c3, .int .i64 c4, .int .i64 c5, .int .i64 c6]
    skip
    refine wpList_append _ rfl _ _ 40 rfl rowCells ((World.ownsRow_nil w4 0 31 6).alloc _) (by rfl) (Go.Gk.Src.one (news := int6 (4, c2, c3, c4, c5, c6)) rfl (fun m9 u9 hu9 => by rw [bG.cell m9]; simpa [int6] using hu9)) (by rfl) (one6 _) (by unfold maxLen; simp) (by simp) ?_
    intro v5 x5 ho5 hg5 hl5
    simp only [List.nil_append, Nat.zero_add] at ho5
    obtain ⟨O5, k5, rfl, _, _⟩ := own_form ho5
    have ta5 := Tch.alloc (fun _ => False) w4 (.cells #[.int .i64 4, .int .i64 c2, .int .i64 c3, .int .i64 c4, .int .i64 c5, .int .i64 c6] 31)
    have tg5 : Tch (fun _ => False) (w4.alloc (.cells #[.int .i64 4, .int .i64 c2, .int .i64 c3, .int .i64 c4, .int .i64 c5, .int .i64 c6] 31)) x5 := Tch.grown hg5 fun k9 hk9 => by cases hk9
    have tb5 := ta5.trans tg5
    have ob5 : ∀ g, (Value.slice O5 1 k5).ownBlock = some g → w4.heap.size ≤ g := fun g9 hg9 => by
      rcases hl5 g9 hg9 with h9 | h9
      · cases h9
      · have := ta5.size; omega
    have hN := hN.keep tb5 id
    have hR := hR.keep tb5 id
    have ow4 := tb5.own ow4 (fun _ _ => id)
    have hT := hT.trans tb5
    have hS5 : z + 4 ≤ x5.heap.size := by have := tb5.size; omega
    skip
    clear hg5 hl5 tg5 ta5 tb5 p2 e0 e1 e2 e3 e4 e5 bG
    go_step
    go_step
    go_step
    refine wpList_store_cell rfl _ _ _ rfl (z + 3) 3 (.slice O5 1 k5) (by rfl) (by rfl) rfl (by rfl) hN (by simp) ?_
    intro w5 hN5 ts5
    (try simp only [List.setIfInBounds_toArray, List.set_cons_succ, List.set_cons_zero] at hN5)
    clear hN
    have hN := hN5
    have hR := hR.keep ts5 (by omega)
    have ow4 := ts5.own ow4 (fun g hg he => by have he : g = z + 3 := he; have := ob4 g hg; omega)
    have ow5 := ts5.own ho5 (fun g hg he => by have he : g = z + 3 := he; have := ob5 g hg; omega)
    have hT := hT.trans' ts5 (fun i hi => .inr (by have hi : i = z + 3 := hi; have := HZW.out; omega))
    have hS : z + 4 ≤ w5.heap.size := by have := ts5.size; omega
    clear ho5 ts5 hN5 hS5
    go_wp2_with (refine wpList_load_row rfl _ _ rfl (z + 3) (by rfl) 50 #[.int .i64 0, .int .i64 0, .slice O4 1 k4, .slice O5 1 k5, .int .i64 0, .int .i64 0, .int .i64 0, .int .i64 0, .int .i64 0, .int .i64 0, .bool false, .int .i64 0, .int .i64 0, .bool false] (0, 0) _ hN Tryz.underlying50 rfl (by kernel_rfl) ?_; refine Hid.out ?_)
    refine Lib.hid ?_
    go_wp2_with (refine wpList_store_blk rfl _ _ _ rfl (z + 2) #[.int .i64 0, .int .i64 0, .slice O4 1 k4, .slice O5 1 k5, .int .i64 0, .int .i64 0, .int .i64 0, .int .i64 0, .int .i64 0, .int .i64 0, .bool false, .int .i64 0, .int .i64 0, .bool false] (by rfl) (by rfl) hR (by kernel_rfl) rfl (by simp [Value.oneCell']) ?_; refine Hid.out ?_)
    refine Lib.hid ?_
    intro w9 hF tF
    have HBF := Lib.hid hF
    have TT := Lib.hid (hT.trans' (F' := fun g => g = z + 2) tF (fun i hi => .inr (by have hi : i = z + 2 := hi; have := HZW.out; omega)))
    have O4 := Lib.hid (tF.own ow4 (fun g hg he => by have he : g = z + 2 := he; have := ob4 g hg; omega))
    have O5 := Lib.hid (tF.own ow5 (fun g hg he => by have he : g = z + 2 := he; have := ob5 g hg; omega))
    clear hF tF ow4 ow5 hN hR hT
    go_wp2
    (try simp only [Exit.inBlock, Exit.then])
    (try rw [Exit.noGoto_ret])
    refine bodyPost_ret (results_row_tmp (P := Tryz.prog) rfl _ _ (z + 2) 50 _ (0, 0) _ rfl HBF.out Tryz.underlying50 rfl (by kernel_rfl)) rfl ?_
    unfold SplitOk
    rw [HL5.out]
    exact ⟨_, rfl, ⟨_, _, rfl, Row.own O4.out (fun _ _ => trivial), Row.own O5.out (fun _ _ => trivial)⟩, TT.out⟩
  -- the share
  have hc3 := HC3.out
  subst hc3
  have hk' : (k : Int) < (b.accs.length : Int) := by omega
  have hk0 : (0 : Int) ≤ (k : Int) := Int.natCast_nonneg _
  obtain ⟨g, o, rfl⟩ := HA.out.head (by omega)
  go_wp2_with fail
  generalize w1.alloc _ = w2 at *
  generalize w1.heap.size = y at *
  clear k0 k1 k2 k3 k4 k5 d0 d1 d2 d3 d4 d5
  have HQ := Lib.hid (fun w' (t : Tch (fun _ => False) w2 w') => Row.four (HA.out.keep t) acc4_len hk rfl)
  generalize b.accs[k] = yy at *
  obtain ⟨y1, y2, y3, y4⟩ := yy
  simp only at HQ HSP
  generalize (if 1 ≤ c2 ∧ c2 ≤ (b.ents.length : Int) then stkShare b.stakes c2 c4 else 0) = S at *
  have Y0 := within_cell (F := fun _ => False) (show w2.cell? ⟨z, 0, none⟩ = some (.slice Ae b.ents.length ce) from hB.cell 0) id
  have Y1 := within_cell (F := fun _ => False) (show w2.cell? ⟨z, 1, none⟩ = some (.slice (some ⟨g, o, none⟩) b.accs.length ca) from hB.cell 1) id
  have Y2 := within_cell (F := fun _ => False) (show w2.cell? ⟨z, 2, none⟩ = some (.slice As b.stakes.length cs) from hB.cell 2) id
  have Y3 := within_cell (F := fun _ => False) (show w2.cell? ⟨z, 3, none⟩ = some (.slice Ar b.rates.length cr) from hB.cell 3) id
  have Y4 := within_cell (F := fun _ => False) (show w2.cell? ⟨z, 4, none⟩ = some (.slice Al b.locks.length cl) from hB.cell 4) id
  have Y5 := within_cell (F := fun _ => False) (show w2.cell? ⟨z, 5, none⟩ = some (.slice An us.length cn) from hB.cell 5) id
  have X3 := within_cell (F := fun _ => False) (show w2.cell? ⟨z + 1, 3, none⟩ = some (.int .i64 c4) from hC.cell 3) id
  have X1 := within_cell (F := fun _ => False) (show w2.cell? ⟨z + 1, 1, none⟩ = some (.int .i64 c2) from hC.cell 1) id
  refine wp_region_touch (fun _ => False) [] 6 [(3, .inl (.agg #[.slice As b.stakes.length cs, .int .i64 b.ents.length, .int .i64 c4]))] [] (by kernel_rfl) rfl (by kernel_rfl) rfl (fun d _ _ _ _ h => by cases d <;> exact h) ?_ ?_
  · exact trivial
  (intro bef ops hbef hops; clear hbef; subst hops; simp only [List.take_succ_cons, List.take_zero, List.drop_succ_cons, List.drop_zero])
  iterate 3 (refine t_det (by rfl) (by rfl) (by rfl) (by rfl) (fun K hK => ?_); go_big_quiet_op; (first | refine hK _ ?_ | refine ⟨_, fun _ => rfl, hK _ ?_⟩); clear hK K; (try simp only [Act.put, List.setIfInBounds_toArray, List.set_cons_succ, List.set_cons_zero]))
  refine t_fix (.agg #[.slice As b.stakes.length cs, .int .i64 b.ents.length, .int .i64 c4]) (by rfl) (by rfl) (fun w3 hr hf => ?_) ?_
  · refine yields_of_wp (d := 41) rfl (by simp) (fun K hK => ?_)
    go_step
    refine (HFO2.out w3 (hT.trans ((Tch.drew _ w2).trans hr))).mono ?_
    rintro _ w4 ⟨rfl, t4⟩
    exact hK _ _ ⟨⟨rfl, t4⟩, newAt_no⟩
  simp only [Act.put, List.setIfInBounds_toArray, List.set_cons_succ, List.set_cons_zero]
  iterate 2 (refine t_det (by rfl) (by rfl) (by rfl) (by rfl) (fun K hK => ?_); go_big_quiet_op; (first | refine hK _ ?_ | refine ⟨_, fun _ => rfl, hK _ ?_⟩); clear hK K; (try simp only [Act.put, List.setIfInBounds_toArray, List.set_cons_succ, List.set_cons_zero]))
  refine t_nil ?_
  intro w3 hr hp9 hap
  have t3 := (Tch.drew (fun _ => False) w2).trans hr
  clear hap hp9 hr X1 X3 Y0 Y1 Y2 Y3 Y4 Y5 HFO2
  go_wp2_with fail
  refine (HSH.out w3 (hT.trans t3)).mono ?_
  rintro _ w4 ⟨rfl, t4⟩
  have t24 := t3.trans t4
  have hC := hC.keep t24 id
  have hR := hR.keep t24 id
  have hN := hN.keep t24 id
  have hB := hB.keep t24 id
  have hY := hY.keep t24 id
  have hT := hT.trans t24
  have hS4 : y + 1 ≤ w4.heap.size := by have := t24.size; omega
  obtain ⟨q0, q1, q2, q3⟩ := HQ.out w4 t24
  have g1 : w4.cell? ⟨z, 1, none⟩ = some (.slice (some ⟨g, o, none⟩) b.accs.length ca) := hB.cell 1
  have k2 : w4.cell? ⟨z + 1, 2, none⟩ = some (.int .i64 ((k : Int) + 1)) := hC.cell 2
  clear HSH t3 t4 t24 HQ HA hszY
  have HLP := Lib.hid (fun (h : sp = 10000) => show splitOf b (4, c2, (k : Int) + 1, c4, c5, c6) = ({ Rcp.none with plus := [(7, c2, (k : Int) + 1, c4, c5, c6)] }, 0) by rw [HLL.out, h]; rfl)
  cases y3
  · have HL4 := Lib.hid (HLP.out HSP.out)
    clear HLP HSP HLL
    have e0 : w4.cell? ⟨y, 0, none⟩ = some (.int .i64 7) := hY.cell 0
    have e1 : w4.cell? ⟨y, 1, none⟩ = some (.int .i64 c2) := hY.cell 1
    have e2 : w4.cell? ⟨y, 2, none⟩ = some (.int .i64 ((k : Int) + 1)) := hY.cell 2
    have e3 : w4.cell? ⟨y, 3, none⟩ = some (.int .i64 c4) := hY.cell 3
    have e4 : w4.cell? ⟨y, 4, none⟩ = some (.int .i64 c5) := hY.cell 4
    have e5 : w4.cell? ⟨y, 5, none⟩ = some (.int .i64 c6) := hY.cell 5
    have p2 : w4.cell? ⟨z + 3, 2, none⟩ = some (.slice none 0 0) := hN.cell 2
    go_wp2_with (at_builtin; refine Hid.out ?_)
    refine Lib.hid ?_
    have bG := Blk.new w4 31 #[.int .i64 7, .int .i64 c2, .int .i64 ((k : Int) + 1), .int .i64 c4, .int .i64 c5, .int .i64 c6]
    skip
    refine wpList_append _ rfl _ _ 40 rfl rowCells ((World.ownsRow_nil w4 0 31 6).alloc _) (by rfl) (Go.Gk.Src.one (news := int6 (7, c2, ((k : Int) + 1), c4, c5, c6)) rfl (fun m9 u9 hu9 => by rw [bG.cell m9]; simpa [int6] using hu9)) (by rfl) (one6 _) (by unfold maxLen; simp) (by simp) ?_
    intro v5 x5 ho5 hg5 hl5
    simp only [List.nil_append, Nat.zero_add] at ho5
    obtain ⟨O5, k5, rfl, _, _⟩ := own_form ho5
    have ta5 := Tch.alloc (fun _ => False) w4 (.cells #[.int .i64 7, .int .i64 c2, .int .i64 ((k : Int) + 1), .int .i64 c4, .int .i64 c5, .int .i64 c6] 31)
    have tg5 : Tch (fun _ => False) (w4.alloc (.cells #[.int .i64 7, .int .i64 c2, .int .i64 ((k : Int) + 1), .int .i64 c4, .int .i64 c5, .int .i64 c6] 31)) x5 := Tch.grown hg5 fun k9 hk9 => by cases hk9
    have tb5 := ta5.trans tg5
    have ob5 : ∀ g, (Value.slice O5 1 k5).ownBlock = some g → w4.heap.size ≤ g := fun g9 hg9 => by
      rcases hl5 g9 hg9 with h9 | h9
      · cases h9
      · have := ta5.size; omega
    have hN := hN.keep tb5 id
    have hR := hR.keep tb5 id
    have hT := hT.trans tb5
    have hS5 : z + 4 ≤ x5.heap.size := by have := tb5.size; omega
    skip
    clear hg5 hl5 tg5 ta5 tb5 p2 e0 e1 e2 e3 e4 e5 bG
    go_step
    go_step
    go_step
    refine wpList_store_cell rfl _ _ _ rfl (z + 3) 2 (.slice O5 1 k5) (by rfl) (by rfl) rfl (by rfl) hN (by simp) ?_
    intro w5 hN5 ts5
    (try simp only [List.setIfInBounds_toArray, List.set_cons_succ, List.set_cons_zero] at hN5)
    clear hN
    have hN := hN5
    have hR := hR.keep ts5 (by omega)
    have ow5 := ts5.own ho5 (fun g hg he => by have he : g = z + 3 := he; have := ob5 g hg; omega)
    have hT := hT.trans' ts5 (fun i hi => .inr (by have hi : i = z + 3 := hi; have := HZW.out; omega))
    have hS : z + 4 ≤ w5.heap.size := by have := ts5.size; omega
    clear ho5 ts5 hN5 hS5
    go_wp2_with (refine wpList_load_row rfl _ _ rfl (z + 3) (by rfl) 50 #[.int .i64 0, .int .i64 0, .slice O5 1 k5, .slice none 0 0, .int .i64 0, .int .i64 0, .int .i64 0, .int .i64 0, .int .i64 0, .int .i64 0, .bool false, .int .i64 0, .int .i64 0, .bool false] (0, 0) _ hN Tryz.underlying50 rfl (by kernel_rfl) ?_; refine Hid.out ?_)
    refine Lib.hid ?_
    go_wp2_with (refine wpList_store_blk rfl _ _ _ rfl (z + 2) #[.int .i64 0, .int .i64 0, .slice O5 1 k5, .slice none 0 0, .int .i64 0, .int .i64 0, .int .i64 0, .int .i64 0, .int .i64 0, .int .i64 0, .bool false, .int .i64 0, .int .i64 0, .bool false] (by rfl) (by rfl) hR (by kernel_rfl) rfl (by simp [Value.oneCell']) ?_; refine Hid.out ?_)
    refine Lib.hid ?_
    intro w9 hF tF
    have HBF := Lib.hid hF
    have TT := Lib.hid (hT.trans' (F' := fun g => g = z + 2) tF (fun i hi => .inr (by have hi : i = z + 2 := hi; have := HZW.out; omega)))
    have O5 := Lib.hid (tF.own ow5 (fun g hg he => by have he : g = z + 2 := he; have := ob5 g hg; omega))
    clear hF tF ow5 hN hR hT
    go_wp2
    (try simp only [Exit.inBlock, Exit.then])
    (try rw [Exit.noGoto_ret])
    refine bodyPost_ret (results_row_tmp (P := Tryz.prog) rfl _ _ (z + 2) 50 _ (0, 0) _ rfl HBF.out Tryz.underlying50 rfl (by kernel_rfl)) rfl ?_
    unfold SplitOk
    rw [HL4.out]
    exact ⟨_, rfl, ⟨_, _, rfl, Row.own O5.out (fun _ _ => trivial), Row.nil _ _ _⟩, TT.out⟩
  have hsS : sp = S := HSP.out
  subst hsS
  by_cases h1 : sp = 10000
  · have HL4 := Lib.hid (HLP.out h1)
    subst h1
    clear HLP HSP HLL
    have e0 : w4.cell? ⟨y, 0, none⟩ = some (.int .i64 7) := hY.cell 0
    have e1 : w4.cell? ⟨y, 1, none⟩ = some (.int .i64 c2) := hY.cell 1
    have e2 : w4.cell? ⟨y, 2, none⟩ = some (.int .i64 ((k : Int) + 1)) := hY.cell 2
    have e3 : w4.cell? ⟨y, 3, none⟩ = some (.int .i64 c4) := hY.cell 3
    have e4 : w4.cell? ⟨y, 4, none⟩ = some (.int .i64 c5) := hY.cell 4
    have e5 : w4.cell? ⟨y, 5, none⟩ = some (.int .i64 c6) := hY.cell 5
    have p2 : w4.cell? ⟨z + 3, 2, none⟩ = some (.slice none 0 0) := hN.cell 2
    go_wp2_with (at_builtin; refine Hid.out ?_)
    refine Lib.hid ?_
    have bG := Blk.new w4 31 #[.int .i64 7, .int .i64 c2, .int .i64 ((k : Int) + 1), .int .i64 c4, .int .i64 c5, .int .i64 c6]
    skip
    refine wpList_append _ rfl _ _ 40 rfl rowCells ((World.ownsRow_nil w4 0 31 6).alloc _) (by rfl) (Go.Gk.Src.one (news := int6 (7, c2, ((k : Int) + 1), c4, c5, c6)) rfl (fun m9 u9 hu9 => by rw [bG.cell m9]; simpa [int6] using hu9)) (by rfl) (one6 _) (by unfold maxLen; simp) (by simp) ?_
    intro v5 x5 ho5 hg5 hl5
    simp only [List.nil_append, Nat.zero_add] at ho5
    obtain ⟨O5, k5, rfl, _, _⟩ := own_form ho5
    have ta5 := Tch.alloc (fun _ => False) w4 (.cells #[.int .i64 7, .int .i64 c2, .int .i64 ((k : Int) + 1), .int .i64 c4, .int .i64 c5, .int .i64 c6] 31)
    have tg5 : Tch (fun _ => False) (w4.alloc (.cells #[.int .i64 7, .int .i64 c2, .int .i64 ((k : Int) + 1), .int .i64 c4, .int .i64 c5, .int .i64 c6] 31)) x5 := Tch.grown hg5 fun k9 hk9 => by cases hk9
    have tb5 := ta5.trans tg5
    have ob5 : ∀ g, (Value.slice O5 1 k5).ownBlock = some g → w4.heap.size ≤ g := fun g9 hg9 => by
      rcases hl5 g9 hg9 with h9 | h9
      · cases h9
      · have := ta5.size; omega
    have hN := hN.keep tb5 id
    have hR := hR.keep tb5 id
    have hT := hT.trans tb5
    have hS5 : z + 4 ≤ x5.heap.size := by have := tb5.size; omega
    skip
    clear hg5 hl5 tg5 ta5 tb5 p2 e0 e1 e2 e3 e4 e5 bG
    go_step
    go_step
    go_step
    refine wpList_store_cell rfl _ _ _ rfl (z + 3) 2 (.slice O5 1 k5) (by rfl) (by rfl) rfl (by rfl) hN (by simp) ?_
    intro w5 hN5 ts5
    (try simp only [List.setIfInBounds_toArray, List.set_cons_succ, List.set_cons_zero] at hN5)
    clear hN
    have hN := hN5
    have hR := hR.keep ts5 (by omega)
    have ow5 := ts5.own ho5 (fun g hg he => by have he : g = z + 3 := he; have := ob5 g hg; omega)
    have hT := hT.trans' ts5 (fun i hi => .inr (by have hi : i = z + 3 := hi; have := HZW.out; omega))
    have hS : z + 4 ≤ w5.heap.size := by have := ts5.size; omega
    clear ho5 ts5 hN5 hS5
    go_wp2_with (refine wpList_load_row rfl _ _ rfl (z + 3) (by rfl) 50 #[.int .i64 0, .int .i64 0, .slice O5 1 k5, .slice none 0 0, .int .i64 0, .int .i64 0, .int .i64 0, .int .i64 0, .int .i64 0, .int .i64 0, .bool false, .int .i64 0, .int .i64 0, .bool false] (0, 0) _ hN Tryz.underlying50 rfl (by kernel_rfl) ?_; refine Hid.out ?_)
    refine Lib.hid ?_
    go_wp2_with (refine wpList_store_blk rfl _ _ _ rfl (z + 2) #[.int .i64 0, .int .i64 0, .slice O5 1 k5, .slice none 0 0, .int .i64 0, .int .i64 0, .int .i64 0, .int .i64 0, .int .i64 0, .int .i64 0, .bool false, .int .i64 0, .int .i64 0, .bool false] (by rfl) (by rfl) hR (by kernel_rfl) rfl (by simp [Value.oneCell']) ?_; refine Hid.out ?_)
    refine Lib.hid ?_
    intro w9 hF tF
    have HBF := Lib.hid hF
    have TT := Lib.hid (hT.trans' (F' := fun g => g = z + 2) tF (fun i hi => .inr (by have hi : i = z + 2 := hi; have := HZW.out; omega)))
    have O5 := Lib.hid (tF.own ow5 (fun g hg he => by have he : g = z + 2 := he; have := ob5 g hg; omega))
    clear hF tF ow5 hN hR hT
    go_wp2
    (try simp only [Exit.inBlock, Exit.then])
    (try rw [Exit.noGoto_ret])
    refine bodyPost_ret (results_row_tmp (P := Tryz.prog) rfl _ _ (z + 2) 50 _ (0, 0) _ rfl HBF.out Tryz.underlying50 rfl (by kernel_rfl)) rfl ?_
    unfold SplitOk
    rw [HL4.out]
    exact ⟨_, rfl, ⟨_, _, rfl, Row.own O5.out (fun _ _ => trivial), Row.nil _ _ _⟩, TT.out⟩
  have h1' : (sp == 10000) = false := by simpa using h1
  clear HLP HSP
  by_cases h2 : 0 < sp
  · have HL4 := Lib.hid (show splitOf b (4, c2, (k : Int) + 1, c4, c5, c6) = ({ Rcp.none with scaled := (7, c2, (k : Int) + 1, c4, c5, c6), rated := true, ratio := (sp, 10000), has := true }, 0) by
      rw [HLL.out]
      unfold splitRcp
      rw [if_neg (show ¬ (4 : Int) = 5 by decide), if_neg h1, if_pos h2])
    clear HLL h1
    go_wp2_with (refine wpList_store_cell rfl _ _ _ rfl (z + 3) 10 (.bool true) (by rfl) (by rfl) rfl (by rfl) hN (by simp) ?_; refine Hid.out ?_)
    refine Lib.hid ?_
    intro w5 hN5 ts5
    have hN : Blk w5 (z + 3) 50 #[.int .i64 0, .int .i64 0, .slice none 0 0, .slice none 0 0, .int .i64 0, .int .i64 0, .int .i64 0, .int .i64 0, .int .i64 0, .int .i64 0, .bool true, .int .i64 0, .int .i64 0, .bool false] := hN5
    have hR := hR.keep ts5 (by omega)
    have hY := hY.keep ts5 (by omega)
    have hT := hT.trans' ts5 (fun i hi => .inr (by have hi : i = z + 3 := hi; have := HZW.out; omega))
    have hS : y + 1 ≤ w5.heap.size := by have := ts5.size; omega
    clear hN5 ts5
    have e0 : w5.cell? ⟨y, 0, none⟩ = some (.int .i64 7) := hY.cell 0
    have e1 : w5.cell? ⟨y, 1, none⟩ = some (.int .i64 c2) := hY.cell 1
    have e2 : w5.cell? ⟨y, 2, none⟩ = some (.int .i64 ((k : Int) + 1)) := hY.cell 2
    have e3 : w5.cell? ⟨y, 3, none⟩ = some (.int .i64 c4) := hY.cell 3
    have e4 : w5.cell? ⟨y, 4, none⟩ = some (.int .i64 c5) := hY.cell 4
    have e5 : w5.cell? ⟨y, 5, none⟩ = some (.int .i64 c6) := hY.cell 5
    go_wp2_with (refine wpList_store_part rfl _ _ _ rfl (z + 3) [.int .i64 0, .int .i64 0, .slice none 0 0, .slice none 0 0] [.int .i64 0, .int .i64 0, .int .i64 0, .int .i64 0, .int .i64 0, .int .i64 0] [.int .i64 7, .int .i64 c2, .int .i64 ((k : Int) + 1), .int .i64 c4, .int .i64 c5, .int .i64 c6] [.bool true, .int .i64 0, .int .i64 0, .bool false] (by rfl) (by rfl) (by simp [Value.oneCell']) (by kernel_rfl) rfl hN ?_; refine Hid.out ?_)
    refine Lib.hid ?_
    intro w6 hN6 ts6
    have hN : Blk w6 (z + 3) 50 #[.int .i64 0, .int .i64 0, .slice none 0 0, .slice none 0 0, .int .i64 7, .int .i64 c2, .int .i64 ((k : Int) + 1), .int .i64 c4, .int .i64 c5, .int .i64 c6, .bool true, .int .i64 0, .int .i64 0, .bool false] := hN6
    have hR := hR.keep ts6 (by omega)
    have hY := hY.keep ts6 (by omega)
    have hT := hT.trans' ts6 (fun i hi => .inr (by have hi : i = z + 3 := hi; have := HZW.out; omega))
    have hS : y + 1 ≤ w6.heap.size := by have := ts6.size; omega
    clear hN6 ts6
    clear e0 e1 e2 e3 e4 e5
    go_wp2_with (refine wpList_store_part rfl _ _ _ rfl (z + 3) [.int .i64 0, .int .i64 0, .slice none 0 0, .slice none 0 0, .int .i64 7, .int .i64 c2, .int .i64 ((k : Int) + 1), .int .i64 c4, .int .i64 c5, .int .i64 c6, .bool true] [.int .i64 0, .int .i64 0] [.int .i64 sp, .int .i64 10000] [.bool false] (by rfl) (by rfl) (by simp [Value.oneCell']) (by kernel_rfl) rfl hN ?_; refine Hid.out ?_)
    refine Lib.hid ?_
    intro w7 hN7 ts7
    have hN : Blk w7 (z + 3) 50 #[.int .i64 0, .int .i64 0, .slice none 0 0, .slice none 0 0, .int .i64 7, .int .i64 c2, .int .i64 ((k : Int) + 1), .int .i64 c4, .int .i64 c5, .int .i64 c6, .bool true, .int .i64 sp, .int .i64 10000, .bool false] := hN7
    have hR := hR.keep ts7 (by omega)
    have hY := hY.keep ts7 (by omega)
    have hT := hT.trans' ts7 (fun i hi => .inr (by have hi : i = z + 3 := hi; have := HZW.out; omega))
    have hS : y + 1 ≤ w7.heap.size := by have := ts7.size; omega
    clear hN7 ts7
    go_wp2_with (refine wpList_store_cell rfl _ _ _ rfl (z + 3) 13 (.bool true) (by rfl) (by rfl) rfl (by rfl) hN (by simp) ?_; refine Hid.out ?_)
    refine Lib.hid ?_
    intro w8 hN8 ts8
    have hN : Blk w8 (z + 3) 50 #[.int .i64 0, .int .i64 0, .slice none 0 0, .slice none 0 0, .int .i64 7, .int .i64 c2, .int .i64 ((k : Int) + 1), .int .i64 c4, .int .i64 c5, .int .i64 c6, .bool true, .int .i64 sp, .int .i64 10000, .bool true] := hN8
    have hR := hR.keep ts8 (by omega)
    have hY := hY.keep ts8 (by omega)
    have hT := hT.trans' ts8 (fun i hi => .inr (by have hi : i = z + 3 := hi; have := HZW.out; omega))
    have hS : y + 1 ≤ w8.heap.size := by have := ts8.size; omega
    clear hN8 ts8
    go_wp2_with (refine wpList_load_row rfl _ _ rfl (z + 3) (by rfl) 50 #[.int .i64 0, .int .i64 0, .slice none 0 0, .slice none 0 0, .int .i64 7, .int .i64 c2, .int .i64 ((k : Int) + 1), .int .i64 c4, .int .i64 c5, .int .i64 c6, .bool true, .int .i64 sp, .int .i64 10000, .bool true] (0, 0) _ hN Tryz.underlying50 rfl (by kernel_rfl) ?_; refine Hid.out ?_)
    refine Lib.hid ?_
    go_wp2_with (refine wpList_store_blk rfl _ _ _ rfl (z + 2) #[.int .i64 0, .int .i64 0, .slice none 0 0, .slice none 0 0, .int .i64 7, .int .i64 c2, .int .i64 ((k : Int) + 1), .int .i64 c4, .int .i64 c5, .int .i64 c6, .bool true, .int .i64 sp, .int .i64 10000, .bool true] (by rfl) (by rfl) hR (by kernel_rfl) rfl (by simp [Value.oneCell']) ?_; refine Hid.out ?_)
    refine Lib.hid ?_
    intro w9 hF tF
    have HBF := Lib.hid hF
    have TT := Lib.hid (hT.trans' (F' := fun g => g = z + 2) tF (fun i hi => .inr (by have hi : i = z + 2 := hi; have := HZW.out; omega)))
    clear hF tF hN hR hT
    go_wp2
    (try simp only [Exit.inBlock, Exit.then])
    (try rw [Exit.noGoto_ret])
    refine bodyPost_ret (results_row_tmp (P := Tryz.prog) rfl _ _ (z + 2) 50 _ (0, 0) _ rfl HBF.out Tryz.underlying50 rfl (by kernel_rfl)) rfl ?_
    unfold SplitOk
    rw [HL4.out]
    exact ⟨_, rfl, ⟨_, _, rfl, Row.nil _ _ _, Row.nil _ _ _⟩, TT.out⟩
  have HL4 := Lib.hid (show splitOf b (4, c2, (k : Int) + 1, c4, c5, c6) = (Rcp.none, 0) by
    rw [HLL.out]
    unfold splitRcp
    rw [if_neg (show ¬ (4 : Int) = 5 by decide), if_neg h1, if_neg h2])
  clear HLL h1
  go_wp2_with (refine wpList_load_row rfl _ _ rfl (z + 3) (by rfl) 50 #[.int .i64 0, .int .i64 0, .slice none 0 0, .slice none 0 0, .int .i64 0, .int .i64 0, .int .i64 0, .int .i64 0, .int .i64 0, .int .i64 0, .bool false, .int .i64 0, .int .i64 0, .bool false] (0, 0) _ hN Tryz.underlying50 rfl (by kernel_rfl) ?_; refine Hid.out ?_)
  refine Lib.hid ?_
  go_wp2_with (refine wpList_store_blk rfl _ _ _ rfl (z + 2) #[.int .i64 0, .int .i64 0, .slice none 0 0, .slice none 0 0, .int .i64 0, .int .i64 0, .int .i64 0, .int .i64 0, .int .i64 0, .int .i64 0, .bool false, .int .i64 0, .int .i64 0, .bool false] (by rfl) (by rfl) hR (by kernel_rfl) rfl (by simp [Value.oneCell']) ?_; refine Hid.out ?_)
  refine Lib.hid ?_
  intro w9 hF tF
  have HBF := Lib.hid hF
  have TT := Lib.hid (hT.trans' (F' := fun g => g = z + 2) tF (fun i hi => .inr (by have hi : i = z + 2 := hi; have := HZW.out; omega)))
  clear hF tF hN hR hT
  go_wp2
  (try simp only [Exit.inBlock, Exit.then])
  (try rw [Exit.noGoto_ret])
  refine bodyPost_ret (results_row_tmp (P := Tryz.prog) rfl _ _ (z + 2) 50 _ (0, 0) _ rfl HBF.out Tryz.underlying50 rfl (by kernel_rfl)) rfl ?_
  unfold SplitOk
  rw [HL4.out]
  exact ⟨_, rfl, ⟨_, _, rfl, Row.nil _ _ _, Row.nil _ _ _⟩, TT.out⟩
end
end Go.Proofs.YtfpcnkfgjcppbaaGreat

/-
  The probe of layer 35.
-/
namespace Go.Gk
theorem group_s1 : splitOf groupBks (4, 2, 4, 0, 1, 0) = (⟨(0, 0), [], [], (7, 2, 4, 0, 1, 0), true, (8000, 10000), true⟩, 0) := by decide +kernel
theorem group_s2 : splitOf groupBks (4, 2, 5, 0, 1, 0) = (⟨(0, 0), [(7, 2, 5, 0, 1, 0)], [], (0, 0, 0, 0, 0, 0), false, (0, 0), false⟩, 0) := by decide +kernel
theorem group_s3 : splitOf groupBks (5, 2, 4, 0, 1, 0) = (⟨(0, 0), [(7, 2, 4, 0, 1, 0)], [(4, 2, 4, 0, 1, 0)], (0, 0, 0, 0, 0, 0), false, (0, 0), false⟩, 0) := by decide +kernel
theorem group_s4 : splitOf groupBks (7, 2, 4, 0, 1, 0) = (⟨(0, 0), [], [], (0, 0, 0, 0, 0, 0), false, (0, 0), false⟩, 25) := by decide +kernel
end Go.Gk
namespace Go.Proofs.YtfpcnkfgjcppbaaGreat
open Go.RowKit Go.Gk

set_option maxRecDepth 100000 in
set_option maxHeartbeats 800000 in
theorem key35_any (r a : Int) (w : World) :
    Calls Tryz.prog 41 #[.int .i64 r, .int .i64 a] w fun x w' => x = .returned (.agg #[.int .i64 r, .int .i64 2, .int .i64 a, .int .i64 0, .int .i64 1, .int .i64 0]) ∧ Tch (fun _ => False) w w' := by
  go_enter Tryz.func41, Tryz.ntmps41
  go_wp2
  refine bodyPost_ret (results_cell_row (P := Tryz.prog) rfl _ _ (w.heap.size) 31 _ (0, 0) _ rfl (Blk.new w 31 _) Tryz.underlying31 rfl (by kernel_rfl)) rfl ?_
  exact ⟨rfl, Tch.alloc _ _ _⟩

set_option maxRecDepth 100000 in
set_option maxHeartbeats 12800000 in
theorem awake35_any (w : World) :
    Calls Tryz.prog 11 #[] w fun x w' => x = .returned (.bool true) ∧ Tch (fun _ => False) w w' := by
  go_enter Tryz.func11, Tryz.ntmps11
  go_wp2_with fail
  refine (group_any w).mono ?_
  rintro _ w1 ⟨e, a, s, r, l, n, us, rfl, hB, t1⟩
  go_wp2_with fail
  refine (see_any hB groupBks_few groupBks_64).mono ?_
  rintro _ w2 ⟨hsee, t2⟩
  have tt := t1.trans t2
  clear hB t1 t2
  rcases hsee with ⟨h, _⟩ | ⟨_, bv, bi, B, t, mr, mp, e, a, s, r, l, n, lv, fs, us, rfl, hV⟩
  · rw [groupBks_ok] at h; cases h
  go_wp2_with fail
  refine (key35_any 4 4 w2).mono ?_
  rintro _ v1 ⟨rfl, t1⟩
  have hV := hV.keep t1
  go_wp2_with fail
  refine (splitrec_any hV group_hn (by decide) 4 2 4 0 1 0).mono ?_
  rintro _ u1 ⟨q1, rfl, h1, t2⟩
  rw [group_s1] at h1 ⊢
  obtain ⟨pt, mt, rfl, hpt, hmt⟩ := h1
  obtain ⟨P1, c1, rfl, _, _⟩ := hpt.form
  obtain ⟨M1, d1, rfl, _, _⟩ := hmt.form
  have hp1 := Lib.hid hpt
  have hm1 := Lib.hid hmt
  unfold rcpV
  simp only [List.length_nil] at hp1 hm1 ⊢
  have ta := Tch.alloc (fun _ => False) u1 (.cells #[.int .i64 0, .int .i64 0, .slice P1 0 c1, .slice M1 0 d1, .int .i64 7, .int .i64 2, .int .i64 4, .int .i64 0, .int .i64 1, .int .i64 0, .bool true, .int .i64 8000, .int .i64 10000, .bool true] 46)
  have x1 := Blk.new u1 46 #[.int .i64 0, .int .i64 0, .slice P1 0 c1, .slice M1 0 d1, .int .i64 7, .int .i64 2, .int .i64 4, .int .i64 0, .int .i64 1, .int .i64 0, .bool true, .int .i64 8000, .int .i64 10000, .bool true]
  have t3 := t2.trans ta
  have t4 := t1.trans t3
  have hV := hV.keep t3
  have tt := tt.trans t4
  have hp1 := Lib.hid (hp1.out.keep ta)
  have hm1 := Lib.hid (hm1.out.keep ta)
  clear hpt hmt ta t1 t2 t3 t4
  go_wp2_with fail
  generalize u1.alloc _ = W1 at *
  generalize u1.heap.size = y1 at *
  go_wp2_with fail
  refine (key35_any 4 5 W1).mono ?_
  rintro _ v2 ⟨rfl, t1⟩
  have hV := hV.keep t1
  go_wp2_with fail
  refine (splitrec_any hV group_hn (by decide) 4 2 5 0 1 0).mono ?_
  rintro _ u2 ⟨q2, rfl, h1, t2⟩
  rw [group_s2] at h1 ⊢
  obtain ⟨pt, mt, rfl, hpt, hmt⟩ := h1
  obtain ⟨P2, c2, rfl, _, _⟩ := hpt.form
  obtain ⟨M2, d2, rfl, _, _⟩ := hmt.form
  have hp2 := Lib.hid hpt
  have hm2 := Lib.hid hmt
  unfold rcpV
  simp only [List.length_nil, List.length_cons, Nat.zero_add] at hp2 hm2 ⊢
  have ta := Tch.alloc (fun _ => False) u2 (.cells #[.int .i64 0, .int .i64 0, .slice P2 1 c2, .slice M2 0 d2, .int .i64 0, .int .i64 0, .int .i64 0, .int .i64 0, .int .i64 0, .int .i64 0, .bool false, .int .i64 0, .int .i64 0, .bool false] 46)
  have x2 := Blk.new u2 46 #[.int .i64 0, .int .i64 0, .slice P2 1 c2, .slice M2 0 d2, .int .i64 0, .int .i64 0, .int .i64 0, .int .i64 0, .int .i64 0, .int .i64 0, .bool false, .int .i64 0, .int .i64 0, .bool false]
  have t3 := t2.trans ta
  have t4 := t1.trans t3
  have hV := hV.keep t3
  have tt := tt.trans t4
  have x1 := x1.keep t4 id
  have hp1 := Lib.hid (hp1.out.keep t4)
  have hm1 := Lib.hid (hm1.out.keep t4)
  have hp2 := Lib.hid (hp2.out.keep ta)
  have hm2 := Lib.hid (hm2.out.keep ta)
  clear hpt hmt ta t1 t2 t3 t4
  go_wp2_with fail
  generalize u2.alloc _ = W2 at *
  generalize u2.heap.size = y2 at *
  go_wp2_with fail
  refine (key35_any 5 4 W2).mono ?_
  rintro _ v3 ⟨rfl, t1⟩
  have hV := hV.keep t1
  go_wp2_with fail
  refine (splitrec_any hV group_hn (by decide) 5 2 4 0 1 0).mono ?_
  rintro _ u3 ⟨q3, rfl, h1, t2⟩
  rw [group_s3] at h1 ⊢
  obtain ⟨pt, mt, rfl, hpt, hmt⟩ := h1
  obtain ⟨P3, c3, rfl, _, _⟩ := hpt.form
  obtain ⟨M3, d3, rfl, _, _⟩ := hmt.form
  have hp3 := Lib.hid hpt
  have hm3 := Lib.hid hmt
  unfold rcpV
  simp only [List.length_nil, List.length_cons, Nat.zero_add] at hp3 hm3 ⊢
  have ta := Tch.alloc (fun _ => False) u3 (.cells #[.int .i64 0, .int .i64 0, .slice P3 1 c3, .slice M3 1 d3, .int .i64 0, .int .i64 0, .int .i64 0, .int .i64 0, .int .i64 0, .int .i64 0, .bool false, .int .i64 0, .int .i64 0, .bool false] 46)
  have x3 := Blk.new u3 46 #[.int .i64 0, .int .i64 0, .slice P3 1 c3, .slice M3 1 d3, .int .i64 0, .int .i64 0, .int .i64 0, .int .i64 0, .int .i64 0, .int .i64 0, .bool false, .int .i64 0, .int .i64 0, .bool false]
  have t3 := t2.trans ta
  have t4 := t1.trans t3
  have hV := hV.keep t3
  have tt := tt.trans t4
  have x1 := x1.keep t4 id
  have hp1 := Lib.hid (hp1.out.keep t4)
  have hm1 := Lib.hid (hm1.out.keep t4)
  have x2 := x2.keep t4 id
  have hp2 := Lib.hid (hp2.out.keep t4)
  have hm2 := Lib.hid (hm2.out.keep t4)
  have hp3 := Lib.hid (hp3.out.keep ta)
  have hm3 := Lib.hid (hm3.out.keep ta)
  clear hpt hmt ta t1 t2 t3 t4
  go_wp2_with fail
  generalize u3.alloc _ = W3 at *
  generalize u3.heap.size = y3 at *
  go_wp2_with fail
  refine (key35_any 7 4 W3).mono ?_
  rintro _ v4 ⟨rfl, t1⟩
  have hV := hV.keep t1
  go_wp2_with fail
  refine (splitrec_any hV group_hn (by decide) 7 2 4 0 1 0).mono ?_
  rintro _ u4 ⟨q4, rfl, h1, t2⟩
  rw [group_s4] at h1 ⊢
  obtain ⟨pt, mt, rfl, hpt, hmt⟩ := h1
  obtain ⟨P4, c4, rfl, _, _⟩ := hpt.form
  obtain ⟨M4, d4, rfl, _, _⟩ := hmt.form
  have hp4 := Lib.hid hpt
  have hm4 := Lib.hid hmt
  unfold rcpV
  simp only [List.length_nil] at hp4 hm4 ⊢
  have ta := Tch.alloc (fun _ => False) u4 (.cells #[.int .i64 0, .int .i64 0, .slice P4 0 c4, .slice M4 0 d4, .int .i64 0, .int .i64 0, .int .i64 0, .int .i64 0, .int .i64 0, .int .i64 0, .bool false, .int .i64 0, .int .i64 0, .bool false] 46)
  have x4 := Blk.new u4 46 #[.int .i64 0, .int .i64 0, .slice P4 0 c4, .slice M4 0 d4, .int .i64 0, .int .i64 0, .int .i64 0, .int .i64 0, .int .i64 0, .int .i64 0, .bool false, .int .i64 0, .int .i64 0, .bool false]
  have t3 := t2.trans ta
  have t4 := t1.trans t3
  have hV := hV.keep t3
  have tt := tt.trans t4
  have x1 := x1.keep t4 id
  have hp1 := Lib.hid (hp1.out.keep t4)
  have hm1 := Lib.hid (hm1.out.keep t4)
  have x2 := x2.keep t4 id
  have hp2 := Lib.hid (hp2.out.keep t4)
  have hm2 := Lib.hid (hm2.out.keep t4)
  have x3 := x3.keep t4 id
  have hp3 := Lib.hid (hp3.out.keep t4)
  have hm3 := Lib.hid (hm3.out.keep t4)
  have hp4 := Lib.hid (hp4.out.keep ta)
  have hm4 := Lib.hid (hm4.out.keep ta)
  clear hpt hmt ta t1 t2 t3 t4
  go_wp2_with fail
  generalize u4.alloc _ = W4 at *
  generalize u4.heap.size = y4 at *
  have hcmp1 : ∀ w' : World, (binOp .eql 31 (.agg #[.int .i64 7, .int .i64 2, .int .i64 4, .int .i64 0, .int .i64 1, .int .i64 0]) (.agg #[.int .i64 7, .int .i64 2, .int .i64 4, .int .i64 0, .int .i64 1, .int .i64 0])).run Tryz.prog w' = .ok (.bool true) w' := fun w' => by rw [run_eq_Cell]; simp
  have hcmp2 : ∀ w' : World, (binOp .eql 42 (.agg #[.int .i64 8000, .int .i64 10000]) (.agg #[.int .i64 8000, .int .i64 10000])).run Tryz.prog w' = .ok (.bool true) w' := fun w' => by rw [run_eq_Ratio]; simp
  have z1_4 := within_cell (F := fun _ => False) (show W4.cell? ⟨y1, 4, none⟩ = some (.int .i64 7) from x1.cell 4) id
  have z1_5 := within_cell (F := fun _ => False) (show W4.cell? ⟨y1, 5, none⟩ = some (.int .i64 2) from x1.cell 5) id
  have z1_6 := within_cell (F := fun _ => False) (show W4.cell? ⟨y1, 6, none⟩ = some (.int .i64 4) from x1.cell 6) id
  have z1_7 := within_cell (F := fun _ => False) (show W4.cell? ⟨y1, 7, none⟩ = some (.int .i64 0) from x1.cell 7) id
  have z1_8 := within_cell (F := fun _ => False) (show W4.cell? ⟨y1, 8, none⟩ = some (.int .i64 1) from x1.cell 8) id
  have z1_9 := within_cell (F := fun _ => False) (show W4.cell? ⟨y1, 9, none⟩ = some (.int .i64 0) from x1.cell 9) id
  have z1_10 := within_cell (F := fun _ => False) (show W4.cell? ⟨y1, 10, none⟩ = some (.bool true) from x1.cell 10) id
  have z1_11 := within_cell (F := fun _ => False) (show W4.cell? ⟨y1, 11, none⟩ = some (.int .i64 8000) from x1.cell 11) id
  have z1_12 := within_cell (F := fun _ => False) (show W4.cell? ⟨y1, 12, none⟩ = some (.int .i64 10000) from x1.cell 12) id
  have z1_13 := within_cell (F := fun _ => False) (show W4.cell? ⟨y1, 13, none⟩ = some (.bool true) from x1.cell 13) id
  have z2_2 := within_cell (F := fun _ => False) (show W4.cell? ⟨y2, 2, none⟩ = some (.slice P2 1 c2) from x2.cell 2) id
  have z2_10 := within_cell (F := fun _ => False) (show W4.cell? ⟨y2, 10, none⟩ = some (.bool false) from x2.cell 10) id
  have z3_2 := within_cell (F := fun _ => False) (show W4.cell? ⟨y3, 2, none⟩ = some (.slice P3 1 c3) from x3.cell 2) id
  have z3_3 := within_cell (F := fun _ => False) (show W4.cell? ⟨y3, 3, none⟩ = some (.slice M3 1 d3) from x3.cell 3) id
  have HS1 := Lib.hid (fun (w' : World) (t : Tch (fun _ => False) W4 w') (g : Nat) (hb : Blk w' g 31 #[.int .i64 7, .int .i64 2, .int .i64 5, .int .i64 0, .int .i64 1, .int .i64 0]) => refsame_any (l := [(7, 2, 5, 0, 1, 0)]) (hp2.out.keep t) (Row.blk hb trivial rfl (by decide)))
  simp only [List.length_nil, List.length_cons, Nat.zero_add] at HS1
  have HS2 := Lib.hid (fun (w' : World) (t : Tch (fun _ => False) W4 w') (g : Nat) (hb : Blk w' g 31 #[.int .i64 7, .int .i64 2, .int .i64 4, .int .i64 0, .int .i64 1, .int .i64 0]) => refsame_any (l := [(7, 2, 4, 0, 1, 0)]) (hp3.out.keep t) (Row.blk hb trivial rfl (by decide)))
  simp only [List.length_nil, List.length_cons, Nat.zero_add] at HS2
  have HS3 := Lib.hid (fun (w' : World) (t : Tch (fun _ => False) W4 w') (g : Nat) (hb : Blk w' g 31 #[.int .i64 4, .int .i64 2, .int .i64 4, .int .i64 0, .int .i64 1, .int .i64 0]) => refsame_any (l := [(4, 2, 4, 0, 1, 0)]) (hm3.out.keep t) (Row.blk hb trivial rfl (by decide)))
  simp only [List.length_nil, List.length_cons, Nat.zero_add] at HS3
  have HV := Lib.hid hV
  clear hV x1 x2 x3 x4 hp1 hp2 hp3 hp4 hm1 hm2 hm3 hm4
  obtain ⟨V1, hV1⟩ : ∃ V : Value → World → Prop, V = fun u w' => ∃ g, u = .slice (some ⟨g, 0, none⟩) 1 1 ∧ Blk w' g 31 #[.int .i64 7, .int .i64 2, .int .i64 5, .int .i64 0, .int .i64 1, .int .i64 0] := ⟨_, rfl⟩
  obtain ⟨V2, hV2⟩ : ∃ V : Value → World → Prop, V = fun u w' => ∃ g, u = .slice (some ⟨g, 0, none⟩) 1 1 ∧ Blk w' g 31 #[.int .i64 7, .int .i64 2, .int .i64 4, .int .i64 0, .int .i64 1, .int .i64 0] := ⟨_, rfl⟩
  obtain ⟨V3, hV3⟩ : ∃ V : Value → World → Prop, V = fun u w' => ∃ g, u = .slice (some ⟨g, 0, none⟩) 1 1 ∧ Blk w' g 31 #[.int .i64 4, .int .i64 2, .int .i64 4, .int .i64 0, .int .i64 1, .int .i64 0] := ⟨_, rfl⟩
  have HV1 := Lib.hid hV1
  have HV2 := Lib.hid hV2
  have HV3 := Lib.hid hV3
  clear hV1 hV2 hV3
  refine wp_region_touch (fun _ => False) [] 54 [(6, .inl (.agg #[.int .i64 7, .int .i64 2, .int .i64 4, .int .i64 0, .int .i64 1, .int .i64 0])), (28, .inl (.agg #[.int .i64 7, .int .i64 2, .int .i64 5, .int .i64 0, .int .i64 1, .int .i64 0])), (29, .inr V1), (30, .inl (.bool true)), (45, .inl (.agg #[.int .i64 7, .int .i64 2, .int .i64 4, .int .i64 0, .int .i64 1, .int .i64 0])), (46, .inr V2), (47, .inl (.bool true)), (52, .inl (.agg #[.int .i64 4, .int .i64 2, .int .i64 4, .int .i64 0, .int .i64 1, .int .i64 0])), (53, .inr V3)] [] (by kernel_rfl) rfl (by kernel_rfl) rfl (fun d _ _ _ _ h => by cases d <;> exact h) ?_ ?_
  · rw [HV1.out, HV2.out, HV3.out]
    exact ⟨fun _ _ _ hr ⟨g, h1, h2⟩ => ⟨g, h1, h2.keep hr id⟩, fun _ _ _ hr ⟨g, h1, h2⟩ => ⟨g, h1, h2.keep hr id⟩, fun _ _ _ hr ⟨g, h1, h2⟩ => ⟨g, h1, h2.keep hr id⟩, trivial⟩
  intro bef ops hbef hops
  have hb1 : (bef.getD 30 0).testBit 29 = true := by rw [hbef]; kernel_rfl
  have hb2 : (bef.getD 47 0).testBit 46 = true := by rw [hbef]; kernel_rfl
  clear hbef
  subst hops
  simp only [List.take_succ_cons, List.take_zero, List.drop_succ_cons, List.drop_zero]
  iterate 6 (refine t_det (by rfl) (by rfl) (by rfl) (by rfl) (fun K hK => ?_); go_big_quiet_op; (first | refine hK _ ?_ | refine ⟨_, fun _ => rfl, hK _ ?_⟩); clear hK K; (try simp only [Act.put, List.setIfInBounds_toArray, List.set_cons_succ, List.set_cons_zero]))
  refine t_fix (.agg #[.int .i64 7, .int .i64 2, .int .i64 4, .int .i64 0, .int .i64 1, .int .i64 0]) (by rfl) (by rfl) (fun w5 hr hf => ?_) ?_
  · refine yields_of_wp (d := 52) rfl (by simp) (fun K hK => ?_)
    go_step
    refine (key35_any 7 4 w5).mono ?_
    rintro _ w6 ⟨rfl, t6⟩
    exact hK _ _ ⟨⟨rfl, t6⟩, newAt_no⟩
  simp only [Act.put, List.setIfInBounds_toArray, List.set_cons_succ, List.set_cons_zero]
  iterate 21 (refine t_det (by rfl) (by rfl) (by rfl) (by rfl) (fun K hK => ?_); go_big_quiet_op; (first | refine hK _ ?_ | refine ⟨_, fun _ => rfl, hK _ ?_⟩); clear hK K; (try simp only [Act.put, List.setIfInBounds_toArray, List.set_cons_succ, List.set_cons_zero]))
  refine t_fix (.agg #[.int .i64 7, .int .i64 2, .int .i64 5, .int .i64 0, .int .i64 1, .int .i64 0]) (by rfl) (by rfl) (fun w5 hr hf => ?_) ?_
  · refine yields_of_wp (d := 74) rfl (by simp) (fun K hK => ?_)
    go_step
    refine (key35_any 7 5 w5).mono ?_
    rintro _ w6 ⟨rfl, t6⟩
    exact hK _ _ ⟨⟨rfl, t6⟩, newAt_no⟩
  simp only [Act.put, List.setIfInBounds_toArray, List.set_cons_succ, List.set_cons_zero]
  refine t_loose (by rfl) (by rfl) (fun w5 hr hf => ?_) (fun a1 => ?_)
  · refine yields_of_wp (d := 75) rfl (by simp) (fun K hK => ?_)
    go_step
    refine hK _ _ ⟨⟨?_, Tch.alloc _ _ _⟩, newAt_no⟩
    rw [HV1.out]
    exact ⟨_, rfl, Blk.new _ _ _⟩
  simp only [Act.put, List.setIfInBounds_toArray, List.set_cons_succ, List.set_cons_zero]
  refine t_fix (.bool true) (by rfl) (by rfl) (fun w5 hr hf => ?_) ?_
  · have hv := hf (29, fun w' => V1 a1 w') (by simp) hb1
    simp only at hv
    rw [HV1.out] at hv
    obtain ⟨g, rfl, hg⟩ := hv
    refine yields_of_wp (d := 76) rfl (by simp) (fun K hK => ?_)
    go_step
    refine (HS1.out w5 ((Tch.drew _ W4).trans hr) g hg).mono ?_
    rintro _ w6 ⟨rfl, t6⟩
    exact hK _ _ ⟨⟨rfl, t6⟩, newAt_no⟩
  simp only [Act.put, List.setIfInBounds_toArray, List.set_cons_succ, List.set_cons_zero]
  iterate 14 (refine t_det (by rfl) (by rfl) (by rfl) (by rfl) (fun K hK => ?_); go_big_quiet_op; (first | refine hK _ ?_ | refine ⟨_, fun _ => rfl, hK _ ?_⟩); clear hK K; (try simp only [Act.put, List.setIfInBounds_toArray, List.set_cons_succ, List.set_cons_zero]))
  refine t_fix (.agg #[.int .i64 7, .int .i64 2, .int .i64 4, .int .i64 0, .int .i64 1, .int .i64 0]) (by rfl) (by rfl) (fun w5 hr hf => ?_) ?_
  · refine yields_of_wp (d := 91) rfl (by simp) (fun K hK => ?_)
    go_step
    refine (key35_any 7 4 w5).mono ?_
    rintro _ w6 ⟨rfl, t6⟩
    exact hK _ _ ⟨⟨rfl, t6⟩, newAt_no⟩
  simp only [Act.put, List.setIfInBounds_toArray, List.set_cons_succ, List.set_cons_zero]
  refine t_loose (by rfl) (by rfl) (fun w5 hr hf => ?_) (fun a2 => ?_)
  · refine yields_of_wp (d := 92) rfl (by simp) (fun K hK => ?_)
    go_step
    refine hK _ _ ⟨⟨?_, Tch.alloc _ _ _⟩, newAt_no⟩
    rw [HV2.out]
    exact ⟨_, rfl, Blk.new _ _ _⟩
  simp only [Act.put, List.setIfInBounds_toArray, List.set_cons_succ, List.set_cons_zero]
  refine t_fix (.bool true) (by rfl) (by rfl) (fun w5 hr hf => ?_) ?_
  · have hv := hf (46, fun w' => V2 a2 w') (by simp) hb2
    simp only at hv
    rw [HV2.out] at hv
    obtain ⟨g, rfl, hg⟩ := hv
    refine yields_of_wp (d := 93) rfl (by simp) (fun K hK => ?_)
    go_step
    refine (HS2.out w5 ((Tch.drew _ W4).trans hr) g hg).mono ?_
    rintro _ w6 ⟨rfl, t6⟩
    exact hK _ _ ⟨⟨rfl, t6⟩, newAt_no⟩
  simp only [Act.put, List.setIfInBounds_toArray, List.set_cons_succ, List.set_cons_zero]
  iterate 4 (refine t_det (by rfl) (by rfl) (by rfl) (by rfl) (fun K hK => ?_); go_big_quiet_op; (first | refine hK _ ?_ | refine ⟨_, fun _ => rfl, hK _ ?_⟩); clear hK K; (try simp only [Act.put, List.setIfInBounds_toArray, List.set_cons_succ, List.set_cons_zero]))
  refine t_fix (.agg #[.int .i64 4, .int .i64 2, .int .i64 4, .int .i64 0, .int .i64 1, .int .i64 0]) (by rfl) (by rfl) (fun w5 hr hf => ?_) ?_
  · refine yields_of_wp (d := 98) rfl (by simp) (fun K hK => ?_)
    go_step
    refine (key35_any 4 4 w5).mono ?_
    rintro _ w6 ⟨rfl, t6⟩
    exact hK _ _ ⟨⟨rfl, t6⟩, newAt_no⟩
  simp only [Act.put, List.setIfInBounds_toArray, List.set_cons_succ, List.set_cons_zero]
  refine t_loose (by rfl) (by rfl) (fun w5 hr hf => ?_) (fun a3 => ?_)
  · refine yields_of_wp (d := 99) rfl (by simp) (fun K hK => ?_)
    go_step
    refine hK _ _ ⟨⟨?_, Tch.alloc _ _ _⟩, newAt_no⟩
    rw [HV3.out]
    exact ⟨_, rfl, Blk.new _ _ _⟩
  simp only [Act.put, List.setIfInBounds_toArray, List.set_cons_succ, List.set_cons_zero]
  refine t_nil ?_
  intro w5 hr hp hap
  have hv := hp (53, fun w' => V3 a3 w') (by simp)
  simp only at hv
  rw [HV3.out] at hv
  obtain ⟨g, rfl, hg⟩ := hv
  have t5 := (Tch.drew (fun _ => False) W4).trans hr
  have HC := Lib.hid (HS3.out w5 t5 g hg)
  have tt5 := tt.trans t5
  clear hap hp hr hb1 hb2 HS1 HS2 HS3 HV1 HV2 HV3 hg z1_4 z1_5 z1_6 z1_7 z1_8 z1_9 z1_10 z1_11 z1_12 z1_13 z2_2 z2_10 z3_2 z3_3
  go_wp2_with fail
  refine HC.out.mono ?_
  rintro _ w6 ⟨rfl, t6⟩
  go_wp2
  go_ret
  exact ⟨rfl, tt5.trans t6⟩
end Go.Proofs.YtfpcnkfgjcppbaaGreat
