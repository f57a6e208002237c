/-
  The books of a group, for probes.
-/
import Derived.Test.YtdangnmeligfjaaGreatDoorZ22
namespace Go.Gk
open Go.RowKit
theorem groupBks_few : BksFew groupBks := by
 refine ⟨by decide, by decide, by decide, by decide, by decide, by decide, ?_⟩
 intro x hx
 simp only [groupBks, List.mem_cons, List.not_mem_nil, or_false] at hx
 rcases hx with rfl | rfl <;> decide
theorem groupBks_64 : Bks64 groupBks := by
 refine ⟨?_, ?_, ?_, ?_, ?_, ?_⟩
 ·intro x hx
  simp only [groupBks, List.mem_cons, List.not_mem_nil, or_false] at hx
  rcases hx with rfl | rfl | rfl <;> (unfold I64; simp)
 ·intro x hx
  simp only [groupBks, ownAccs, List.cons_append, List.nil_append, List.mem_cons, List.not_mem_nil, or_false] at hx
  rcases hx with rfl | rfl | rfl | rfl | rfl <;> (unfold I64; simp)
 ·intro x hx
  simp only [groupBks, List.mem_cons, List.not_mem_nil, or_false] at hx
  rcases hx with rfl | rfl <;> (unfold I64; simp)
 ·intro x hx; simp [groupBks] at hx
 ·intro x hx; simp [groupBks] at hx
 ·intro x hx
  simp only [groupBks, List.mem_cons, List.not_mem_nil, or_false] at hx
  rcases hx with rfl | rfl
  all_goals
   refine ⟨by unfold I64; simp, by unfold I64; simp, ?_⟩
   intro l hl
   simp only [List.mem_cons, List.not_mem_nil, or_false] at hl
   rcases hl with rfl | rfl <;> (unfold I64; simp)
theorem group_hn : (accLeaves groupBks.accs).length ≤ 1000 := by decide
theorem group_hp : (posts groupBks.entries).length ≤ 10000 := by decide
theorem group_h64 : ∀ p ∈ posts groupBks.entries, I64 p.2.2.2.2 := by
 intro p hp
 simp only [posts, groupBks, List.flatMap_cons, List.flatMap_nil, List.map_cons, List.map_nil, List.cons_append, List.nil_append, List.mem_cons, List.not_mem_nil, or_false] at hp
 rcases hp with rfl | rfl | rfl | rfl <;> (unfold I64; simp)
end Go.Gk
namespace Go.Proofs.YtdangnmeligfjaaGreatDoor
open Go.RowKit Go.Gk
set_option maxRecDepth 100000 in
set_option maxHeartbeats 3200000 in
theorem group_any (w : World) :
 Calls Tryz.prog 23 #[] w fun x w' => ∃ e a s r l n us, x = .returned (.agg #[e, a, s, r, l, n]) ∧ BksAt w' e a s r l n groupBks us ∧ Tch (fun _ => False) w w' := by
 have tz := Tch.alloc (fun _ => False) w (.cells #[.slice none 0 0, .slice none 0 0, .slice none 0 0, .slice none 0 0, .slice none 0 0, .slice none 0 0] 29)
 have hz := Blk.new w 29 #[.slice none 0 0, .slice none 0 0, .slice none 0 0, .slice none 0 0, .slice none 0 0, .slice none 0 0]
 have hsz : (w.alloc (.cells #[.slice none 0 0, .slice none 0 0, .slice none 0 0, .slice none 0 0, .slice none 0 0, .slice none 0 0] 29)).heap.size = w.heap.size + 1 := by simp
 go_enter Tryz.func23, Tryz.ntmps23
 go_wp2_with fail
 generalize w.alloc _ = W at *
 generalize hzw : w.heap.size = z at *
 have HZW := Lib.hid hzw
 clear hzw
 refine (new26_any W).mono ?_
 rintro _ w1 ⟨u, rfl, hO⟩
 obtain ⟨A, c, he, _, _⟩ := hO.form
 rw [show ownAccs.length = 3 from rfl] at he
 subst he
 have h1 := hz.keep hO.tch id
 have hs1 : z + 1 ≤ w1.heap.size := by have := hO.tch.size; omega
 have T1 := tz.trans hO.tch
 have tb := Tch.alloc (fun _ => False) w1 (.cells #[.slice none 0 0, .slice A 3 c, .slice none 0 0, .slice none 0 0, .slice none 0 0, .slice none 0 0] 29)
 have ti := Tch.alloc (fun _ => False) (w1.alloc (.cells #[.slice none 0 0, .slice A 3 c, .slice none 0 0, .slice none 0 0, .slice none 0 0, .slice none 0 0] 29)) (.cells #[.int .i64 1, .int .i64 1, .int .i64 1] 3)
 have hb := (Blk.new w1 29 #[.slice none 0 0, .slice A 3 c, .slice none 0 0, .slice none 0 0, .slice none 0 0, .slice none 0 0]).keep ti id
 have hi := Blk.new2 w1 (.cells #[.slice none 0 0, .slice A 3 c, .slice none 0 0, .slice none 0 0, .slice none 0 0, .slice none 0 0] 29) 3 #[.int .i64 1, .int .i64 1, .int .i64 1]
 have hO1 := (hO.keep tb).keep ti
 have hz1 := (h1.keep tb id).keep ti id
 have T2 := (T1.trans tb).trans ti
 have hlt1 : ∀ g, (Value.slice A 3 c).ownBlock = some g → g < w1.heap.size := fun g hg => (hO.own.lt g hg).2
 have hsz1 : ((w1.alloc (.cells #[.slice none 0 0, .slice A 3 c, .slice none 0 0, .slice none 0 0, .slice none 0 0, .slice none 0 0] 29)).alloc (.cells #[.int .i64 1, .int .i64 1, .int .i64 1] 3)).heap.size = w1.heap.size + 2 := by simp
 clear hO T1 hz h1 tz tb ti
 go_wp2_with (refine wpList_store_cell rfl _ _ _ rfl (w1.heap.size) 0 (.slice (some ⟨w1.heap.size + 1, 0, none⟩) 3 3) (by rfl) (by rfl) rfl (by rfl) hb (by simp) ?_; refine Hid.out ?_)
 refine Lib.hid ?_
 intro w2 n2 ts2
 (try simp only [List.setIfInBounds_toArray, List.set_cons_succ, List.set_cons_zero] at n2)
 have i2 := hi.keep ts2 (by omega)
 have own2 := ts2.own hO1.own (fun g hg he => by have he : g = w1.heap.size := he; have := hlt1 g hg; omega)
 have z2 := hz1.keep ts2 (by omega)
 have T3 := T2.trans' ts2 (fun i hi => .inr (by have hi : i = w1.heap.size := hi; have := HZW.out; omega))
 have hs2 : w1.heap.size + 2 ≤ w2.heap.size := by have := ts2.size; omega
 clear hb hi hO1 hz1 T2 ts2 hsz1
 generalize w1.heap.size = y at *
 have p1 : w2.cell? ⟨y, 1, none⟩ = some (.slice A 3 c) := n2.cell 1
 have ta := Tch.alloc (fun _ => False) w2 (.cells #[.int .i64 0, .int .i64 1, .bool true, .bool false, .int .i64 0, .int .i64 1, .bool false, .bool true] 89)
 have bA := Blk.new w2 89 #[.int .i64 0, .int .i64 1, .bool true, .bool false, .int .i64 0, .int .i64 1, .bool false, .bool true]
 have hsA := (Row.blk (B := fun _ => True) (n := 2) (size := 4) bA trivial rfl (by decide)).src
 have own2a := own_base (own2.alloc (.cells #[.int .i64 0, .int .i64 1, .bool true, .bool false, .int .i64 0, .int .i64 1, .bool false, .bool true] 89))
 go_wp2_with (at_builtin; refine Hid.out ?_)
 refine Lib.hid ?_
 refine wpList_append _ rfl _ _ 23 rfl rowAccounts own2a (by rfl) hsA (by rfl) (by intro u hu; simp at hu; rcases hu with rfl | rfl | rfl | rfl | rfl | rfl | rfl | rfl <;> rfl) (by decide) (by decide) ?_
 intro v3 w3 ho3 hg3 hl3
 obtain ⟨O3, k3, rfl, _, _⟩ := own_form ho3
 have tg : Tch (fun g => y ≠ g ∧ y + 1 ≠ g ∧ z + 1 ≤ g) _ w3 := Tch.grown hg3 fun k9 hk9 => .inl (by have h1 := hlt1 k9 hk9; have h2 := (own2.lt k9 hk9).1; omega)
 have n3 := (n2.keep ta id).keep tg (fun h => h.1 rfl)
 have i3 := (i2.keep ta id).keep tg (fun h => h.2.1 rfl)
 have z3 := (z2.keep ta id).keep tg (fun h => by have := h.2.2; omega)
 have T4 := (T3.trans ta).trans' tg (fun i hi => .inr (by have hi : y ≠ i ∧ y + 1 ≠ i ∧ z + 1 ≤ i := hi; have := HZW.out; omega))
 have ob3 : ∀ g, (Value.slice O3 (3 + 2) k3).ownBlock = some g → g ≠ y ∧ z + 1 ≤ g := fun g9 hg9 => by
  rcases hl3 g9 hg9 with h9 | h9
  ·have h1 := hlt1 g9 h9; have h2 := (own2.lt g9 h9).1; omega
  ·have := ta.size; omega
 have hs3 : y + 2 ≤ w3.heap.size := by have h1 := tg.size; have := ta.size; omega
 clear hg3 hl3 tg ta bA hsA own2a own2 n2 i2 z2 T3 p1 hlt1 hs2
 go_wp2_with (refine wpList_store_cell rfl _ _ _ rfl (y) 1 (.slice O3 (3 + 2) k3) (by rfl) (by rfl) rfl (by rfl) n3 (by simp) ?_; refine Hid.out ?_)
 refine Lib.hid ?_
 intro w4 n4 ts4
 (try simp only [List.setIfInBounds_toArray, List.set_cons_succ, List.set_cons_zero] at n4)
 have own4 := ts4.own ho3 (fun g hg he => by have he : g = y := he; have := ob3 g hg; omega)
 have i4 := i3.keep ts4 (by omega)
 have z4 := z3.keep ts4 (by omega)
 have T5 := T4.trans' ts4 (fun i hi => .inr (by have hi : i = y := hi; have := HZW.out; omega))
 have hs4 : y + 2 ≤ w4.heap.size := by have := ts4.size; omega
 clear n3 i3 z3 T4 ts4 ho3 hs3
 have t1 := Tch.alloc (fun _ => False) w4 (.cells #[.int .i64 2, .int .i64 1, .int .i64 8000, .int .i64 0, .int .i64 3, .int .i64 1, .int .i64 10000, .int .i64 0] 118)
 have b1 := Blk.new w4 118 #[.int .i64 2, .int .i64 1, .int .i64 8000, .int .i64 0, .int .i64 3, .int .i64 1, .int .i64 10000, .int .i64 0]
 have n5 := n4.keep t1 id
 have i5 := i4.keep t1 id
 have z5 := z4.keep t1 id
 have own5 := t1.own own4 (fun _ _ => id)
 have T6 := T5.trans t1
 have hs5 : (w4.alloc (.cells #[.int .i64 2, .int .i64 1, .int .i64 8000, .int .i64 0, .int .i64 3, .int .i64 1, .int .i64 10000, .int .i64 0] 118)).heap.size = w4.heap.size + 1 := by simp
 clear n4 i4 z4 T5 own4 t1
 go_wp2_with (refine wpList_store_cell rfl _ _ _ rfl (y) 2 (.slice (some ⟨w4.heap.size, 0, none⟩) 2 2) (by rfl) (by rfl) rfl (by rfl) n5 (by simp) ?_; refine Hid.out ?_)
 refine Lib.hid ?_
 intro w5 n6 ts6
 (try simp only [List.setIfInBounds_toArray, List.set_cons_succ, List.set_cons_zero] at n6)
 have own6 := ts6.own own5 (fun g hg he => by have he : g = y := he; have := ob3 g hg; omega)
 have i6 := i5.keep ts6 (by omega)
 have z6 := z5.keep ts6 (by omega)
 have k6 := b1.keep ts6 (by omega)
 have T7 := T6.trans' ts6 (fun i hi => .inr (by have hi : i = y := hi; have := HZW.out; omega))
 have hs6 : w4.heap.size + 1 ≤ w5.heap.size := by have := ts6.size; omega
 clear n5 i5 z5 own5 T6 b1 ts6 hs5
 generalize w4.heap.size = sx at *
 have t1 := Tch.alloc (fun _ => False) w5 (.cells #[.int .i64 2, .int .i64 5, .int .i64 3, .int .i64 8, .int .i64 2, .int .i64 4, .int .i64 0, .int .i64 (-8)] 120)
 have b1 := Blk.new w5 120 #[.int .i64 2, .int .i64 5, .int .i64 3, .int .i64 8, .int .i64 2, .int .i64 4, .int .i64 0, .int .i64 (-8)]
 have t2 := Tch.alloc (fun _ => False) (w5.alloc (.cells #[.int .i64 2, .int .i64 5, .int .i64 3, .int .i64 8, .int .i64 2, .int .i64 4, .int .i64 0, .int .i64 (-8)] 120)) (.cells #[.int .i64 3, .int .i64 5, .int .i64 2, .int .i64 (-6), .int .i64 3, .int .i64 4, .int .i64 0, .int .i64 6] 120)
 have b2 := Blk.new2 w5 (.cells #[.int .i64 2, .int .i64 5, .int .i64 3, .int .i64 8, .int .i64 2, .int .i64 4, .int .i64 0, .int .i64 (-8)] 120) 120 #[.int .i64 3, .int .i64 5, .int .i64 2, .int .i64 (-6), .int .i64 3, .int .i64 4, .int .i64 0, .int .i64 6]
 have t3 := Tch.alloc (fun _ => False) ((w5.alloc (.cells #[.int .i64 2, .int .i64 5, .int .i64 3, .int .i64 8, .int .i64 2, .int .i64 4, .int .i64 0, .int .i64 (-8)] 120)).alloc (.cells #[.int .i64 3, .int .i64 5, .int .i64 2, .int .i64 (-6), .int .i64 3, .int .i64 4, .int .i64 0, .int .i64 6] 120)) (.cells #[.int .i64 0, .int .i64 0, .slice (some ⟨w5.heap.size, 0, none⟩) 2 2, .int .i64 0, .int .i64 0, .slice (some ⟨w5.heap.size + 1, 0, none⟩) 2 2] 116)
 have b3 := Blk.new3 w5 (.cells #[.int .i64 2, .int .i64 5, .int .i64 3, .int .i64 8, .int .i64 2, .int .i64 4, .int .i64 0, .int .i64 (-8)] 120) (.cells #[.int .i64 3, .int .i64 5, .int .i64 2, .int .i64 (-6), .int .i64 3, .int .i64 4, .int .i64 0, .int .i64 6] 120) 116 #[.int .i64 0, .int .i64 0, .slice (some ⟨w5.heap.size, 0, none⟩) 2 2, .int .i64 0, .int .i64 0, .slice (some ⟨w5.heap.size + 1, 0, none⟩) 2 2]
 have n7 := ((n6.keep t1 id).keep t2 id).keep t3 id
 have i7 := ((i6.keep t1 id).keep t2 id).keep t3 id
 have z7 := ((z6.keep t1 id).keep t2 id).keep t3 id
 have k7 := ((k6.keep t1 id).keep t2 id).keep t3 id
 have own7 := t3.own (t2.own (t1.own own6 (fun _ _ => id)) (fun _ _ => id)) (fun _ _ => id)
 have T8 := ((T7.trans t1).trans t2).trans t3
 have hb1 := (b1.keep t2 id).keep t3 id
 have hb2 := b2.keep t3 id
 have hs7 : (((w5.alloc (.cells #[.int .i64 2, .int .i64 5, .int .i64 3, .int .i64 8, .int .i64 2, .int .i64 4, .int .i64 0, .int .i64 (-8)] 120)).alloc (.cells #[.int .i64 3, .int .i64 5, .int .i64 2, .int .i64 (-6), .int .i64 3, .int .i64 4, .int .i64 0, .int .i64 6] 120)).alloc (.cells #[.int .i64 0, .int .i64 0, .slice (some ⟨w5.heap.size, 0, none⟩) 2 2, .int .i64 0, .int .i64 0, .slice (some ⟨w5.heap.size + 1, 0, none⟩) 2 2] 116)).heap.size = w5.heap.size + 3 := by simp
 clear n6 i6 z6 k6 T7 own6 b1 b2 t1 t2 t3
 go_wp2_with (refine wpList_store_cell rfl _ _ _ rfl (y) 5 (.slice (some ⟨w5.heap.size + 2, 0, none⟩) 2 2) (by rfl) (by rfl) rfl (by rfl) n7 (by simp) ?_; refine Hid.out ?_)
 refine Lib.hid ?_
 intro w6 n8 ts8
 (try simp only [List.setIfInBounds_toArray, List.set_cons_succ, List.set_cons_zero] at n8)
 have own8 := ts8.own own7 (fun g hg he => by have he : g = y := he; have := ob3 g hg; omega)
 have i8 := i7.keep ts8 (by omega)
 have z8 := z7.keep ts8 (by omega)
 have k8 := k7.keep ts8 (by omega)
 have l8 := hb1.keep ts8 (by omega)
 have m8 := hb2.keep ts8 (by omega)
 have e8 := b3.keep ts8 (by omega)
 have T9 := T8.trans' ts8 (fun i hi => .inr (by have hi : i = y := hi; have := HZW.out; omega))
 clear n7 i7 z7 k7 own7 T8 hb1 hb2 b3 ts8
 generalize w5.heap.size = x at *
 go_wp2_with (refine wpList_load_row rfl _ _ rfl y (by rfl) 29 #[.slice (some ⟨y + 1, 0, none⟩) 3 3, .slice O3 (3 + 2) k3, .slice (some ⟨sx, 0, none⟩) 2 2, .slice none 0 0, .slice none 0 0, .slice (some ⟨x + 2, 0, none⟩) 2 2] (0, 0) _ n8 Tryz.underlying29 rfl (by kernel_rfl) ?_; refine Hid.out ?_)
 refine Lib.hid ?_
 go_wp2_with (refine wpList_store_blk rfl _ _ _ rfl (z) #[.slice (some ⟨y + 1, 0, none⟩) 3 3, .slice O3 (3 + 2) k3, .slice (some ⟨sx, 0, none⟩) 2 2, .slice none 0 0, .slice none 0 0, .slice (some ⟨x + 2, 0, none⟩) 2 2] (by rfl) (by rfl) z8 (by kernel_rfl) rfl (by simp [Value.oneCell']) ?_; refine Hid.out ?_)
 refine Lib.hid ?_
 intro w7 hF tF
 have HBF := Lib.hid hF
 have HTF := Lib.hid tF
 clear hF tF n8 z8
 go_wp2
 refine bodyPost_ret (results_cell_row (P := Tryz.prog) rfl _ _ (z) 29 _ (0, 0) _ rfl HBF.out Tryz.underlying29 rfl (by kernel_rfl)) rfl ?_
 refine ⟨_, _, _, _, _, _, [(⟨0, 0, [(2, 5, 3, 8), (2, 4, 0, -8)]⟩, .slice (some ⟨x, 0, none⟩) 2 2), (⟨0, 0, [(3, 5, 2, -6), (3, 4, 0, 6)]⟩, .slice (some ⟨x + 1, 0, none⟩) 2 2)], rfl, ⟨?_, ?_, ?_, Row.nil _ _ _, Row.nil _ _ _, ⟨?_, ?_⟩, rfl⟩, T9.trans' HTF.out (fun i hi => .inr (by have hi : i = z := hi; have := HZW.out; omega))⟩
 ·exact Row.blk (i8.keep HTF.out (by omega)) trivial rfl (by decide)
 ·exact Row.own ((HTF.out).own own8 (fun g hg he => by have he : g = z := he; have := ob3 g hg; omega)) (fun _ _ => trivial)
 ·exact Row.blk (k8.keep HTF.out (by omega)) trivial rfl (by decide)
 ·exact Row.blk (e8.keep HTF.out (by omega)) trivial rfl (by decide)
 ·intro p hp
  simp only [List.mem_cons, List.not_mem_nil, or_false] at hp
  rcases hp with rfl | rfl
  ·exact Row.blk (l8.keep HTF.out (by omega)) trivial rfl (by decide)
  ·exact Row.blk (m8.keep HTF.out (by omega)) trivial rfl (by decide)
end Go.Proofs.YtdangnmeligfjaaGreatDoor
