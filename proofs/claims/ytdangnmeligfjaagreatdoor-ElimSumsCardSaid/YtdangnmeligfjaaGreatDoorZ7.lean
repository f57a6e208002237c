/-
  The document's whole numbers: added, taken off, held against each other.
-/
import Derived.Test.YtdangnmeligfjaaGreatDoorZ6
import Derived.Deep.RegionHeld3
namespace Go.Proofs.YtdangnmeligfjaaGreatDoor
open Go.RowKit Go.Gk
theorem of_any {B : Nat → Prop} {w : World} {x : Int} (h1 : -9223372036854775808 ≤ x) (h2 : x ≤ 9223372036854775807) (hB : ∀ g, w.heap.size ≤ g → B g) :
 Calls Tryz.prog 17 #[.int .i64 x] w fun e w' => ∃ v', e = .returned v' ∧ BigIs B w' v' x ∧ Tch (fun _ => False) w w' := by
 by_cases hx : x < 0
 ·obtain ⟨n, rfl⟩ : ∃ n : Nat, x = -(n : Int) := ⟨x.natAbs, by omega⟩
  exact of_neg (by omega) (by omega) hB
 ·obtain ⟨n, rfl⟩ : ∃ n : Nat, x = (n : Int) := ⟨x.toNat, by omega⟩
  exact of_pos h2 hB
theorem dg_len_pos {n : Nat} (h : 0 < n) : 0 < (dg n).length := by rw [dg_pos h]; simp
theorem Tch.two (w : World) (z : Nat) (u v : Value) : Tch (fun g => g = z) w ((w.setCell ⟨z, 0, none⟩ u).setCell ⟨z, 1, none⟩ v) :=
 (Tch.setCell (F := fun g => g = z) w (p := ⟨z, 0, none⟩) (.inl rfl) u).trans (Tch.setCell (F := fun g => g = z) _ (p := ⟨z, 1, none⟩) (.inl rfl) v)
theorem Blk.new3 (w : World) (o o' : Obj) (t : TypeId) (cs : Array Value) : Blk (((w.alloc o).alloc o').alloc (.cells cs t)) (w.heap.size + 2) t cs := by
 simpa using Blk.new ((w.alloc o).alloc o') t cs
structure PlusIs (W : World) (z : Nat) (sx sy : Bool) (u v : Value) : Prop where
 a : Blk W z 58 #[.bool sx, u]
 b : Blk W (z + 1) 58 #[.bool sy, v]
 r : Blk W (z + 2) 58 #[.bool false, .slice none 0 0]
theorem PlusIs.new (w : World) (sx sy : Bool) (u v : Value) : PlusIs (((w.alloc (.cells #[.bool sx, u] 58)).alloc (.cells #[.bool sy, v] 58)).alloc (.cells #[.bool false, .slice none 0 0] 58)) w.heap.size sx sy u v :=
 ⟨((Blk.new w _ _).alloc _).alloc _, (Blk.new2 w _ _ _).alloc _, Blk.new3 w _ _ _ _⟩
theorem PlusIs.keep {W W' : World} {z : Nat} {sx sy : Bool} {u v : Value} (h : PlusIs W z sx sy u v) (t : Tch (fun _ => False) W W') : PlusIs W' z sx sy u v := ⟨h.a.keep t id, h.b.keep t id, h.r.keep t id⟩
set_option maxRecDepth 100000 in
set_option maxHeartbeats 3200000 in
theorem plus_same {B : Nat → Prop} {w : World} {x y : Int} {sx : Bool} {u v : Value} (hu : DRow B w u (dg x.natAbs)) (hv : DRow B w v (dg y.natAbs)) (nx : (dg x.natAbs).length ≤ 50000) (ny : (dg y.natAbs).length ≤ 50000) (hB : ∀ g, w.heap.size ≤ g → B g) :
 Calls Tryz.prog 16 #[.agg #[.bool sx, u], .agg #[.bool sx, v]] w fun e w' => ∃ dv, e = .returned (.agg #[.bool sx, dv]) ∧ DRow B w' dv (dg (x.natAbs + y.natAbs)) ∧ Tch (fun _ => False) w w' := by
 have hP := PlusIs.new w sx sx u v
 have tw : Tch (fun _ => False) w (((w.alloc (.cells #[.bool sx, u] 58)).alloc (.cells #[.bool sx, v] 58)).alloc (.cells #[.bool false, .slice none 0 0] 58)) := ((Tch.alloc _ _ _).trans (Tch.alloc _ _ _)).trans (Tch.alloc _ _ _)
 have hC := fun (w' : World) (t : Tch (fun _ => False) w w') => more_any (B := fun g => B g ∧ g ≠ w.heap.size + 2) ((hu.keepTo (P' := fun g => B g ∧ g ≠ w.heap.size + 2) t (fun g hg hb => ⟨id, hb, by omega⟩))) ((hv.keepTo (P' := fun g => B g ∧ g ≠ w.heap.size + 2) t (fun g hg hb => ⟨id, hb, by omega⟩))) (dg_digs _) (dg_digs _) (by omega) (by omega)
 rw [dval_dg, dval_dg] at hC
 have HC := Hid.out (p := Hid _) hC
 clear hC
 obtain ⟨A, c, rfl, _, _⟩ := hu.form
 obtain ⟨A', c', rfl, _, _⟩ := hv.form
 generalize (dg x.natAbs).length = lx at *
 generalize (dg y.natAbs).length = ly at *
 obtain ⟨V, hV⟩ : ∃ V : Value → World → Prop, V = fun d w' => DRow (fun g => B g ∧ g ≠ w.heap.size + 2) w' d (dg (x.natAbs + y.natAbs)) := ⟨_, rfl⟩
 have HV := Hid.out (p := Hid (V = _)) hV
 have hss : (sx == sx) = true := by simp
 clear hV hu hv
 go_enter Tryz.func16, Tryz.ntmps16
 go_wp2_with fail
 generalize hWd : ((w.alloc (.cells #[.bool sx, .slice A lx c] 58)).alloc (.cells #[.bool sx, .slice A' ly c'] 58)).alloc (.cells #[.bool false, .slice none 0 0] 58) = W at *
 generalize hz : w.heap.size = z at *
 have HZ := Hid.out (p := Hid (w.heap.size = z)) hz
 have hzW := hP.r.lt
 clear hz hWd
 have c0 := within_cell (F := fun _ => False) (show W.cell? ⟨z, 0, none⟩ = some (.bool sx) from hP.a.cell 0) id
 have c1 := within_cell (F := fun _ => False) (show W.cell? ⟨z, 1, none⟩ = some (.slice A lx c) from hP.a.cell 1) id
 have c2 := within_cell (F := fun _ => False) (show W.cell? ⟨z + 1, 1, none⟩ = some (.slice A' ly c') from hP.b.cell 1) id
 refine wp_region_touch (fun _ => False) [] 7 [(6, .inr V)] [] (by kernel_rfl) rfl (by kernel_rfl) rfl (fun d _ _ _ _ h => by cases d <;> exact h) ?_ ?_
 ·rw [HV.out]
  exact ⟨fun u a b hr h => h.keep hr, trivial⟩
 intro bef ops hbef hops
 clear hbef hops
 simp only [List.take_succ_cons, List.take_zero, List.drop_succ_cons, List.drop_zero]
 iterate 6 (refine t_det (by rfl) (by rfl) (by rfl) (by rfl) (fun K hK => ?_); go_big_quiet_op; (first | refine hK _ ?_ | refine ⟨_, fun _ => rfl, hK _ ?_⟩); clear hK K)
 refine t_loose (by rfl) (by rfl) (fun w1 hr hf => ?_) (fun d => ?_)
 ·refine yields_of_wp (d := 17) rfl (by simp) (fun K hK => ?_)
  go_step
  have t1 := tw.trans ((Tch.drew _ W).trans hr)
  refine (HC.out w1 t1 (fun g hg => ⟨hB g (by have := t1.size; have := HZ.out; omega), by have := hr.size; simp at this; omega⟩)).mono ?_
  rintro e w2 ⟨v', rfl, ho, t2⟩
  refine hK _ _ ⟨⟨?_, t2⟩, newAt_no⟩
  rw [HV.out]
  exact ho
 refine t_nil ?_
 intro w1 hr hp hap
 have hv := hp _ (List.mem_singleton.2 rfl)
 dsimp only at hv
 rw [HV.out] at hv
 have t1 : Tch (fun _ => False) W w1 := (Tch.drew _ W).trans hr
 have hP1 := hP.keep t1
 have tw1 := tw.trans t1
 obtain ⟨D, cd, rfl, _, _⟩ := hv.form
 generalize (dg (x.natAbs + y.natAbs)).length = ld at *
 have r0 := hP1.r.frozen 0
 have r1 := hP1.r.frozen 1
 have r2 : w1.cell? ⟨z + 2, 0, none⟩ = some (.bool false) := hP1.r.cell 0
 have r3 : w1.cell? ⟨z + 2, 1, none⟩ = some (.slice none 0 0) := hP1.r.cell 1
 simp only [Act.put, List.setIfInBounds_toArray, List.set_cons_succ, List.set_cons_zero]
 clear hap HV hp c0 c1 c2 hr t1 hP tw HC hss
 go_wp2
 have hbF := (hP1.r.set_ 0 (.bool sx)).set_ 1 (.slice D ld cd)
 simp only [List.setIfInBounds_toArray, List.set_cons_succ, List.set_cons_zero] at hbF
 (try simp only [Exit.inBlock, Exit.then])
 refine bodyPost_ret (results_cell_row (P := Tryz.prog) rfl _ _ (z + 2) 58 _ (0, 0) _ rfl hbF Tryz.underlying58 rfl (by kernel_rfl)) rfl ?_
 have t2 := Tch.two w1 (z + 2) (.bool sx) (.slice D ld cd)
 exact ⟨_, rfl, hv.keepTo t2 (fun g hg hb => ⟨hb.2, hb.1⟩), tw1.trans' t2 (fun g e => .inr (by rw [HZ.out]; omega))⟩
set_option maxRecDepth 100000 in
set_option maxHeartbeats 3200000 in
theorem plus_ge_t {B : Nat → Prop} {w : World} {x y : Int} {u v : Value} (hu : DRow B w u (dg x.natAbs)) (hv : DRow B w v (dg y.natAbs)) (nx : (dg x.natAbs).length ≤ 50000) (hle : y.natAbs ≤ x.natAbs) (hB : ∀ g, w.heap.size ≤ g → B g) :
 Calls Tryz.prog 16 #[.agg #[.bool true, u], .agg #[.bool false, v]] w fun e w' => ∃ dv, e = .returned (.agg #[.bool (decide (0 < (dg (x.natAbs - y.natAbs)).length)), dv]) ∧ DRow B w' dv (dg (x.natAbs - y.natAbs)) ∧ Tch (fun _ => False) w w' := by
 have hP := PlusIs.new w true false u v
 have tw : Tch (fun _ => False) w (((w.alloc (.cells #[.bool true, u] 58)).alloc (.cells #[.bool false, v] 58)).alloc (.cells #[.bool false, .slice none 0 0] 58)) := ((Tch.alloc _ _ _).trans (Tch.alloc _ _ _)).trans (Tch.alloc _ _ _)
 have hlen : (dg y.natAbs).length ≤ (dg x.natAbs).length := by
  rcases Nat.lt_or_ge (dg x.natAbs).length (dg y.natAbs).length with h | h
  ·have := dg_len_lt h; omega
  ·exact h
 have hC := fun (w' : World) (t : Tch (fun _ => False) w w') => fewer_any (B := fun g => B g ∧ g ≠ w.heap.size + 2) ((hu.keepTo (P' := fun g => B g ∧ g ≠ w.heap.size + 2) t (fun g hg hb => ⟨id, hb, by omega⟩))) ((hv.keepTo (P' := fun g => B g ∧ g ≠ w.heap.size + 2) t (fun g hg hb => ⟨id, hb, by omega⟩))) (dg_digs _) (dg_digs _) (by omega) hlen (by rw [dval_dg, dval_dg]; exact hle)
 rw [dval_dg, dval_dg] at hC
 have hD := digits_any (hu.keep tw) (hv.keep tw)
 have hdv : (if x.natAbs < y.natAbs then (-1 : Int) else if y.natAbs < x.natAbs then 1 else 0) = (if y.natAbs < x.natAbs then 1 else 0) := if_neg (by omega)
 rw [hdv] at hD
 have hdr : (0 : Int) ≤ (if y.natAbs < x.natAbs then 1 else 0) := by split <;> decide
 generalize (if y.natAbs < x.natAbs then (1 : Int) else 0) = dd at *
 have HC := Hid.out (p := Hid _) hC
 clear hC hdv
 obtain ⟨A, c, rfl, _, _⟩ := hu.form
 obtain ⟨A', c', rfl, _, _⟩ := hv.form
 generalize (dg x.natAbs).length = lx at *
 generalize (dg y.natAbs).length = ly at *
 clear hu hv
 go_enter Tryz.func16, Tryz.ntmps16
 go_wp2_with fail
 generalize hWd : ((w.alloc (.cells #[.bool true, .slice A lx c] 58)).alloc (.cells #[.bool false, .slice A' ly c'] 58)).alloc (.cells #[.bool false, .slice none 0 0] 58) = W at *
 generalize hz : w.heap.size = z at *
 have HZ := Hid.out (p := Hid (w.heap.size = z)) hz
 have hzW := hP.r.lt
 clear hz hWd
 refine hD.mono ?_
 rintro e w1 ⟨rfl, t1⟩
 have hP1 := hP.keep t1
 have tw1 := tw.trans t1
 have a0 : w1.cell? ⟨z, 0, none⟩ = some (.bool true) := hP1.a.cell 0
 have a1 : w1.cell? ⟨z, 1, none⟩ = some (.slice A lx c) := hP1.a.cell 1
 have b1 : w1.cell? ⟨z + 1, 1, none⟩ = some (.slice A' ly c') := hP1.b.cell 1
 have h1z := t1.size
 clear hD t1 hP tw
 go_wp2_with fail
 refine (HC.out w1 tw1 (fun g hg => ⟨hB g (by omega), by omega⟩)).mono ?_
 rintro e w2 ⟨v2, rfl, hv2, t2⟩
 have hP2 := hP1.keep t2
 have tw2 := tw1.trans t2
 obtain ⟨D, cd, rfl, _, _⟩ := hv2.form
 generalize hld : (dg (x.natAbs - y.natAbs)).length = ld at *
 have HLD := Hid.out (p := Hid _) hld
 clear hld
 have a0 : w2.cell? ⟨z, 0, none⟩ = some (.bool true) := hP2.a.cell 0
 have r0 := hP2.r.frozen 0
 have r1 := hP2.r.frozen 1
 have r2 : w2.cell? ⟨z + 2, 0, none⟩ = some (.bool false) := hP2.r.cell 0
 have r3 : w2.cell? ⟨z + 2, 1, none⟩ = some (.slice none 0 0) := hP2.r.cell 1
 clear HC a1 b1 t2 hP1 tw1
 go_wp2
 have hbF := (hP2.r.set_ 0 (.bool (decide (0 < ld)))).set_ 1 (.slice D ld cd)
 simp only [List.setIfInBounds_toArray, List.set_cons_succ, List.set_cons_zero] at hbF
 (try simp only [Exit.inBlock, Exit.then])
 refine bodyPost_ret (results_cell_row (P := Tryz.prog) rfl _ _ (z + 2) 58 _ (0, 0) _ rfl hbF Tryz.underlying58 rfl (by kernel_rfl)) rfl ?_
 have t3 := Tch.two w2 (z + 2) (.bool (decide (0 < ld))) (.slice D ld cd)
 exact ⟨.slice D ld cd, by first | rfl | rw [HLD.out], hv2.keepTo t3 (fun g hg hb => ⟨hb.2, hb.1⟩), tw2.trans' t3 (fun g e => .inr (by rw [HZ.out]; omega))⟩
set_option maxRecDepth 100000 in
set_option maxHeartbeats 3200000 in
theorem plus_ge_f {B : Nat → Prop} {w : World} {x y : Int} {u v : Value} (hu : DRow B w u (dg x.natAbs)) (hv : DRow B w v (dg y.natAbs)) (nx : (dg x.natAbs).length ≤ 50000) (hle : y.natAbs ≤ x.natAbs) (hB : ∀ g, w.heap.size ≤ g → B g) :
 Calls Tryz.prog 16 #[.agg #[.bool false, u], .agg #[.bool true, v]] w fun e w' => ∃ dv, e = .returned (.agg #[.bool (false), dv]) ∧ DRow B w' dv (dg (x.natAbs - y.natAbs)) ∧ Tch (fun _ => False) w w' := by
 have hP := PlusIs.new w false true u v
 have tw : Tch (fun _ => False) w (((w.alloc (.cells #[.bool false, u] 58)).alloc (.cells #[.bool true, v] 58)).alloc (.cells #[.bool false, .slice none 0 0] 58)) := ((Tch.alloc _ _ _).trans (Tch.alloc _ _ _)).trans (Tch.alloc _ _ _)
 have hlen : (dg y.natAbs).length ≤ (dg x.natAbs).length := by
  rcases Nat.lt_or_ge (dg x.natAbs).length (dg y.natAbs).length with h | h
  ·have := dg_len_lt h; omega
  ·exact h
 have hC := fun (w' : World) (t : Tch (fun _ => False) w w') => fewer_any (B := fun g => B g ∧ g ≠ w.heap.size + 2) ((hu.keepTo (P' := fun g => B g ∧ g ≠ w.heap.size + 2) t (fun g hg hb => ⟨id, hb, by omega⟩))) ((hv.keepTo (P' := fun g => B g ∧ g ≠ w.heap.size + 2) t (fun g hg hb => ⟨id, hb, by omega⟩))) (dg_digs _) (dg_digs _) (by omega) hlen (by rw [dval_dg, dval_dg]; exact hle)
 rw [dval_dg, dval_dg] at hC
 have hD := digits_any (hu.keep tw) (hv.keep tw)
 have hdv : (if x.natAbs < y.natAbs then (-1 : Int) else if y.natAbs < x.natAbs then 1 else 0) = (if y.natAbs < x.natAbs then 1 else 0) := if_neg (by omega)
 rw [hdv] at hD
 have hdr : (0 : Int) ≤ (if y.natAbs < x.natAbs then 1 else 0) := by split <;> decide
 generalize (if y.natAbs < x.natAbs then (1 : Int) else 0) = dd at *
 have HC := Hid.out (p := Hid _) hC
 clear hC hdv
 obtain ⟨A, c, rfl, _, _⟩ := hu.form
 obtain ⟨A', c', rfl, _, _⟩ := hv.form
 generalize (dg x.natAbs).length = lx at *
 generalize (dg y.natAbs).length = ly at *
 clear hu hv
 go_enter Tryz.func16, Tryz.ntmps16
 go_wp2_with fail
 generalize hWd : ((w.alloc (.cells #[.bool false, .slice A lx c] 58)).alloc (.cells #[.bool true, .slice A' ly c'] 58)).alloc (.cells #[.bool false, .slice none 0 0] 58) = W at *
 generalize hz : w.heap.size = z at *
 have HZ := Hid.out (p := Hid (w.heap.size = z)) hz
 have hzW := hP.r.lt
 clear hz hWd
 refine hD.mono ?_
 rintro e w1 ⟨rfl, t1⟩
 have hP1 := hP.keep t1
 have tw1 := tw.trans t1
 have a0 : w1.cell? ⟨z, 0, none⟩ = some (.bool false) := hP1.a.cell 0
 have a1 : w1.cell? ⟨z, 1, none⟩ = some (.slice A lx c) := hP1.a.cell 1
 have b1 : w1.cell? ⟨z + 1, 1, none⟩ = some (.slice A' ly c') := hP1.b.cell 1
 have h1z := t1.size
 clear hD t1 hP tw
 go_wp2_with fail
 refine (HC.out w1 tw1 (fun g hg => ⟨hB g (by omega), by omega⟩)).mono ?_
 rintro e w2 ⟨v2, rfl, hv2, t2⟩
 have hP2 := hP1.keep t2
 have tw2 := tw1.trans t2
 obtain ⟨D, cd, rfl, _, _⟩ := hv2.form
 generalize hld : (dg (x.natAbs - y.natAbs)).length = ld at *
 have HLD := Hid.out (p := Hid _) hld
 clear hld
 have a0 : w2.cell? ⟨z, 0, none⟩ = some (.bool false) := hP2.a.cell 0
 have r0 := hP2.r.frozen 0
 have r1 := hP2.r.frozen 1
 have r2 : w2.cell? ⟨z + 2, 0, none⟩ = some (.bool false) := hP2.r.cell 0
 have r3 : w2.cell? ⟨z + 2, 1, none⟩ = some (.slice none 0 0) := hP2.r.cell 1
 clear HC a1 b1 t2 hP1 tw1
 go_wp2
 have hbF := (hP2.r.set_ 0 (.bool (false))).set_ 1 (.slice D ld cd)
 simp only [List.setIfInBounds_toArray, List.set_cons_succ, List.set_cons_zero] at hbF
 (try simp only [Exit.inBlock, Exit.then])
 refine bodyPost_ret (results_cell_row (P := Tryz.prog) rfl _ _ (z + 2) 58 _ (0, 0) _ rfl hbF Tryz.underlying58 rfl (by kernel_rfl)) rfl ?_
 have t3 := Tch.two w2 (z + 2) (.bool (false)) (.slice D ld cd)
 exact ⟨.slice D ld cd, by first | rfl | rw [HLD.out], hv2.keepTo t3 (fun g hg hb => ⟨hb.2, hb.1⟩), tw2.trans' t3 (fun g e => .inr (by rw [HZ.out]; omega))⟩
set_option maxRecDepth 100000 in
set_option maxHeartbeats 3200000 in
theorem plus_lt_t {B : Nat → Prop} {w : World} {x y : Int} {u v : Value} (hu : DRow B w u (dg x.natAbs)) (hv : DRow B w v (dg y.natAbs)) (ny : (dg y.natAbs).length ≤ 50000) (hlt : x.natAbs < y.natAbs) (hB : ∀ g, w.heap.size ≤ g → B g) :
 Calls Tryz.prog 16 #[.agg #[.bool true, u], .agg #[.bool false, v]] w fun e w' => ∃ dv, e = .returned (.agg #[.bool false, dv]) ∧ DRow B w' dv (dg (y.natAbs - x.natAbs)) ∧ Tch (fun _ => False) w w' := by
 have hP := PlusIs.new w true false u v
 have tw : Tch (fun _ => False) w (((w.alloc (.cells #[.bool true, u] 58)).alloc (.cells #[.bool false, v] 58)).alloc (.cells #[.bool false, .slice none 0 0] 58)) := ((Tch.alloc _ _ _).trans (Tch.alloc _ _ _)).trans (Tch.alloc _ _ _)
 have hlen : (dg x.natAbs).length ≤ (dg y.natAbs).length := by
  rcases Nat.lt_or_ge (dg y.natAbs).length (dg x.natAbs).length with h | h
  ·have := dg_len_lt h; omega
  ·exact h
 have hC := fun (w' : World) (t : Tch (fun _ => False) w w') => fewer_any (B := fun g => B g ∧ g ≠ w.heap.size + 2) ((hv.keepTo (P' := fun g => B g ∧ g ≠ w.heap.size + 2) t (fun g hg hb => ⟨id, hb, by omega⟩))) ((hu.keepTo (P' := fun g => B g ∧ g ≠ w.heap.size + 2) t (fun g hg hb => ⟨id, hb, by omega⟩))) (dg_digs _) (dg_digs _) (by omega) hlen (by rw [dval_dg, dval_dg]; omega)
 rw [dval_dg, dval_dg] at hC
 have hD := digits_any (hu.keep tw) (hv.keep tw)
 rw [if_pos hlt] at hD
 have HC := Hid.out (p := Hid _) hC
 obtain ⟨A, c, rfl, _, _⟩ := hu.form
 obtain ⟨A', c', rfl, _, _⟩ := hv.form
 generalize (dg x.natAbs).length = lx at *
 generalize (dg y.natAbs).length = ly at *
 obtain ⟨V, hV⟩ : ∃ V : Value → World → Prop, V = fun d w' => DRow (fun g => B g ∧ g ≠ w.heap.size + 2) w' d (dg (y.natAbs - x.natAbs)) := ⟨_, rfl⟩
 have HV := Hid.out (p := Hid (V = _)) hV
 clear hV hu hv hC
 go_enter Tryz.func16, Tryz.ntmps16
 go_wp2_with fail
 generalize hWd : ((w.alloc (.cells #[.bool true, .slice A lx c] 58)).alloc (.cells #[.bool false, .slice A' ly c'] 58)).alloc (.cells #[.bool false, .slice none 0 0] 58) = W0 at *
 generalize hz : w.heap.size = z at *
 have HZ := Hid.out (p := Hid (w.heap.size = z)) hz
 have hzW0 := hP.r.lt
 clear hz hWd
 refine hD.mono ?_
 rintro e W ⟨rfl, t0⟩
 have hP := hP.keep t0
 have tw := tw.trans t0
 have hzW := hP.r.lt
 clear hD
 go_wp2_with fail
 have c0 := within_cell (F := fun _ => False) (show W.cell? ⟨z + 1, 0, none⟩ = some (.bool false) from hP.b.cell 0) id
 have c1 := within_cell (F := fun _ => False) (show W.cell? ⟨z, 1, none⟩ = some (.slice A lx c) from hP.a.cell 1) id
 have c2 := within_cell (F := fun _ => False) (show W.cell? ⟨z + 1, 1, none⟩ = some (.slice A' ly c') from hP.b.cell 1) id
 refine wp_region_touch (fun _ => False) [] 7 [(6, .inr V)] [] (by kernel_rfl) rfl (by kernel_rfl) rfl (fun d _ _ _ _ h => by cases d <;> exact h) ?_ ?_
 ·rw [HV.out]
  exact ⟨fun u a b hr h => h.keep hr, trivial⟩
 intro bef ops hbef hops
 clear hbef hops
 simp only [List.take_succ_cons, List.take_zero, List.drop_succ_cons, List.drop_zero]
 iterate 6 (refine t_det (by rfl) (by rfl) (by rfl) (by rfl) (fun K hK => ?_); go_big_quiet_op; (first | refine hK _ ?_ | refine ⟨_, fun _ => rfl, hK _ ?_⟩); clear hK K)
 refine t_loose (by rfl) (by rfl) (fun w1 hr hf => ?_) (fun d => ?_)
 ·refine yields_of_wp (d := 45) rfl (by simp) (fun K hK => ?_)
  go_step
  have t1 := tw.trans ((Tch.drew _ W).trans hr)
  refine (HC.out w1 t1 (fun g hg => ⟨hB g (by have := t1.size; have := HZ.out; omega), by have := hr.size; simp at this; omega⟩)).mono ?_
  rintro e w2 ⟨v', rfl, ho, t2⟩
  refine hK _ _ ⟨⟨?_, t2⟩, newAt_no⟩
  rw [HV.out]
  exact ho
 refine t_nil ?_
 intro w1 hr hp hap
 have hv := hp _ (List.mem_singleton.2 rfl)
 dsimp only at hv
 rw [HV.out] at hv
 have t1 : Tch (fun _ => False) W w1 := (Tch.drew _ W).trans hr
 have hP1 := hP.keep t1
 have tw1 := tw.trans t1
 obtain ⟨D, cd, rfl, _, _⟩ := hv.form
 generalize (dg (y.natAbs - x.natAbs)).length = ld at *
 have r0 := hP1.r.frozen 0
 have r1 := hP1.r.frozen 1
 have r2 : w1.cell? ⟨z + 2, 0, none⟩ = some (.bool false) := hP1.r.cell 0
 have r3 : w1.cell? ⟨z + 2, 1, none⟩ = some (.slice none 0 0) := hP1.r.cell 1
 simp only [Act.put, List.setIfInBounds_toArray, List.set_cons_succ, List.set_cons_zero]
 clear hap HV hp c0 c1 c2 hr t1 hP tw HC
 go_wp2
 have hbF := (hP1.r.set_ 0 (.bool false)).set_ 1 (.slice D ld cd)
 simp only [List.setIfInBounds_toArray, List.set_cons_succ, List.set_cons_zero] at hbF
 (try simp only [Exit.inBlock, Exit.then])
 refine bodyPost_ret (results_cell_row (P := Tryz.prog) rfl _ _ (z + 2) 58 _ (0, 0) _ rfl hbF Tryz.underlying58 rfl (by kernel_rfl)) rfl ?_
 have t2 := Tch.two w1 (z + 2) (.bool false) (.slice D ld cd)
 exact ⟨_, rfl, hv.keepTo t2 (fun g hg hb => ⟨hb.2, hb.1⟩), tw1.trans' t2 (fun g e => .inr (by rw [HZ.out]; omega))⟩
set_option maxRecDepth 100000 in
set_option maxHeartbeats 3200000 in
theorem plus_lt_f {B : Nat → Prop} {w : World} {x y : Int} {u v : Value} (hu : DRow B w u (dg x.natAbs)) (hv : DRow B w v (dg y.natAbs)) (ny : (dg y.natAbs).length ≤ 50000) (hlt : x.natAbs < y.natAbs) (hB : ∀ g, w.heap.size ≤ g → B g) :
 Calls Tryz.prog 16 #[.agg #[.bool false, u], .agg #[.bool true, v]] w fun e w' => ∃ dv, e = .returned (.agg #[.bool true, dv]) ∧ DRow B w' dv (dg (y.natAbs - x.natAbs)) ∧ Tch (fun _ => False) w w' := by
 have hP := PlusIs.new w false true u v
 have tw : Tch (fun _ => False) w (((w.alloc (.cells #[.bool false, u] 58)).alloc (.cells #[.bool true, v] 58)).alloc (.cells #[.bool false, .slice none 0 0] 58)) := ((Tch.alloc _ _ _).trans (Tch.alloc _ _ _)).trans (Tch.alloc _ _ _)
 have hlen : (dg x.natAbs).length ≤ (dg y.natAbs).length := by
  rcases Nat.lt_or_ge (dg y.natAbs).length (dg x.natAbs).length with h | h
  ·have := dg_len_lt h; omega
  ·exact h
 have hC := fun (w' : World) (t : Tch (fun _ => False) w w') => fewer_any (B := fun g => B g ∧ g ≠ w.heap.size + 2) ((hv.keepTo (P' := fun g => B g ∧ g ≠ w.heap.size + 2) t (fun g hg hb => ⟨id, hb, by omega⟩))) ((hu.keepTo (P' := fun g => B g ∧ g ≠ w.heap.size + 2) t (fun g hg hb => ⟨id, hb, by omega⟩))) (dg_digs _) (dg_digs _) (by omega) hlen (by rw [dval_dg, dval_dg]; omega)
 rw [dval_dg, dval_dg] at hC
 have hD := digits_any (hu.keep tw) (hv.keep tw)
 rw [if_pos hlt] at hD
 have HC := Hid.out (p := Hid _) hC
 obtain ⟨A, c, rfl, _, _⟩ := hu.form
 obtain ⟨A', c', rfl, _, _⟩ := hv.form
 generalize (dg x.natAbs).length = lx at *
 generalize (dg y.natAbs).length = ly at *
 obtain ⟨V, hV⟩ : ∃ V : Value → World → Prop, V = fun d w' => DRow (fun g => B g ∧ g ≠ w.heap.size + 2) w' d (dg (y.natAbs - x.natAbs)) := ⟨_, rfl⟩
 have HV := Hid.out (p := Hid (V = _)) hV
 clear hV hu hv hC
 go_enter Tryz.func16, Tryz.ntmps16
 go_wp2_with fail
 generalize hWd : ((w.alloc (.cells #[.bool false, .slice A lx c] 58)).alloc (.cells #[.bool true, .slice A' ly c'] 58)).alloc (.cells #[.bool false, .slice none 0 0] 58) = W0 at *
 generalize hz : w.heap.size = z at *
 have HZ := Hid.out (p := Hid (w.heap.size = z)) hz
 have hzW0 := hP.r.lt
 clear hz hWd
 refine hD.mono ?_
 rintro e W ⟨rfl, t0⟩
 have hP := hP.keep t0
 have tw := tw.trans t0
 have hzW := hP.r.lt
 clear hD
 go_wp2_with fail
 have c0 := within_cell (F := fun _ => False) (show W.cell? ⟨z + 1, 0, none⟩ = some (.bool true) from hP.b.cell 0) id
 have c1 := within_cell (F := fun _ => False) (show W.cell? ⟨z, 1, none⟩ = some (.slice A lx c) from hP.a.cell 1) id
 have c2 := within_cell (F := fun _ => False) (show W.cell? ⟨z + 1, 1, none⟩ = some (.slice A' ly c') from hP.b.cell 1) id
 refine wp_region_touch (fun _ => False) [] 7 [(6, .inr V)] [] (by kernel_rfl) rfl (by kernel_rfl) rfl (fun d _ _ _ _ h => by cases d <;> exact h) ?_ ?_
 ·rw [HV.out]
  exact ⟨fun u a b hr h => h.keep hr, trivial⟩
 intro bef ops hbef hops
 clear hbef hops
 simp only [List.take_succ_cons, List.take_zero, List.drop_succ_cons, List.drop_zero]
 iterate 6 (refine t_det (by rfl) (by rfl) (by rfl) (by rfl) (fun K hK => ?_); go_big_quiet_op; (first | refine hK _ ?_ | refine ⟨_, fun _ => rfl, hK _ ?_⟩); clear hK K)
 refine t_loose (by rfl) (by rfl) (fun w1 hr hf => ?_) (fun d => ?_)
 ·refine yields_of_wp (d := 45) rfl (by simp) (fun K hK => ?_)
  go_step
  have t1 := tw.trans ((Tch.drew _ W).trans hr)
  refine (HC.out w1 t1 (fun g hg => ⟨hB g (by have := t1.size; have := HZ.out; omega), by have := hr.size; simp at this; omega⟩)).mono ?_
  rintro e w2 ⟨v', rfl, ho, t2⟩
  refine hK _ _ ⟨⟨?_, t2⟩, newAt_no⟩
  rw [HV.out]
  exact ho
 refine t_nil ?_
 intro w1 hr hp hap
 have hv := hp _ (List.mem_singleton.2 rfl)
 dsimp only at hv
 rw [HV.out] at hv
 have t1 : Tch (fun _ => False) W w1 := (Tch.drew _ W).trans hr
 have hP1 := hP.keep t1
 have tw1 := tw.trans t1
 obtain ⟨D, cd, rfl, _, _⟩ := hv.form
 generalize (dg (y.natAbs - x.natAbs)).length = ld at *
 have r0 := hP1.r.frozen 0
 have r1 := hP1.r.frozen 1
 have r2 : w1.cell? ⟨z + 2, 0, none⟩ = some (.bool false) := hP1.r.cell 0
 have r3 : w1.cell? ⟨z + 2, 1, none⟩ = some (.slice none 0 0) := hP1.r.cell 1
 simp only [Act.put, List.setIfInBounds_toArray, List.set_cons_succ, List.set_cons_zero]
 clear hap HV hp c0 c1 c2 hr t1 hP tw HC
 go_wp2
 have hbF := (hP1.r.set_ 0 (.bool true)).set_ 1 (.slice D ld cd)
 simp only [List.setIfInBounds_toArray, List.set_cons_succ, List.set_cons_zero] at hbF
 (try simp only [Exit.inBlock, Exit.then])
 refine bodyPost_ret (results_cell_row (P := Tryz.prog) rfl _ _ (z + 2) 58 _ (0, 0) _ rfl hbF Tryz.underlying58 rfl (by kernel_rfl)) rfl ?_
 have t2 := Tch.two w1 (z + 2) (.bool true) (.slice D ld cd)
 exact ⟨_, rfl, hv.keepTo t2 (fun g hg hb => ⟨hb.2, hb.1⟩), tw1.trans' t2 (fun g e => .inr (by rw [HZ.out]; omega))⟩
theorem dg_dec {n : Nat} : decide (0 < (dg n).length) = decide (0 < n) := by
 by_cases h : 0 < n
 ·rw [decide_eq_true (dg_len_pos h), decide_eq_true h]
 ·obtain rfl : n = 0 := by omega
  rw [dg_zero]; rfl
theorem plus_any {B : Nat → Prop} {w : World} {u v : Value} {x y : Int} (hx : BigIs B w u x) (hy : BigIs B w v y) (nx : (dg x.natAbs).length ≤ 50000) (ny : (dg y.natAbs).length ≤ 50000) (hB : ∀ g, w.heap.size ≤ g → B g) :
 Calls Tryz.prog 16 #[u, v] w fun e w' => ∃ v', e = .returned v' ∧ BigIs B w' v' (x + y) ∧ Tch (fun _ => False) w w' := by
 obtain ⟨du, rfl, hu⟩ := hx
 obtain ⟨dv, rfl, hv⟩ := hy
 unfold BigIs
 by_cases sx : x < 0 <;> by_cases sy : y < 0
 ·rw [decide_eq_true sx, decide_eq_true sy]
  refine (plus_same hu hv nx ny hB).mono ?_
  rintro e w' ⟨d, rfl, h, t⟩
  exact ⟨_, rfl, ⟨d, by rw [decide_eq_true (by omega)], by rwa [show (x + y).natAbs = x.natAbs + y.natAbs by omega]⟩, t⟩
 ·rw [decide_eq_true sx, decide_eq_false sy]
  by_cases hle : y.natAbs ≤ x.natAbs
  ·refine (plus_ge_t hu hv nx hle hB).mono ?_
   rintro e w' ⟨d, rfl, h, t⟩
   refine ⟨_, rfl, ⟨d, ?_, by rwa [show (x + y).natAbs = x.natAbs - y.natAbs by omega]⟩, t⟩
   rw [dg_dec, show decide (0 < x.natAbs - y.natAbs) = decide (x + y < 0) by rw [decide_eq_decide]; omega]
  ·refine (plus_lt_t hu hv ny (by omega) hB).mono ?_
   rintro e w' ⟨d, rfl, h, t⟩
   exact ⟨_, rfl, ⟨d, by rw [decide_eq_false (by omega)], by rwa [show (x + y).natAbs = y.natAbs - x.natAbs by omega]⟩, t⟩
 ·rw [decide_eq_false sx, decide_eq_true sy]
  by_cases hle : y.natAbs ≤ x.natAbs
  ·refine (plus_ge_f hu hv nx hle hB).mono ?_
   rintro e w' ⟨d, rfl, h, t⟩
   exact ⟨_, rfl, ⟨d, by rw [decide_eq_false (by omega)], by rwa [show (x + y).natAbs = x.natAbs - y.natAbs by omega]⟩, t⟩
  ·refine (plus_lt_f hu hv ny (by omega) hB).mono ?_
   rintro e w' ⟨d, rfl, h, t⟩
   exact ⟨_, rfl, ⟨d, by rw [decide_eq_true (by omega)], by rwa [show (x + y).natAbs = y.natAbs - x.natAbs by omega]⟩, t⟩
 ·rw [decide_eq_false sx, decide_eq_false sy]
  refine (plus_same hu hv nx ny hB).mono ?_
  rintro e w' ⟨d, rfl, h, t⟩
  exact ⟨_, rfl, ⟨d, by rw [decide_eq_false (by omega)], by rwa [show (x + y).natAbs = x.natAbs + y.natAbs by omega]⟩, t⟩
open Go.RowKit Go.Gk
theorem BigIs.keepTo {B B' F : Nat → Prop} {w w' : World} {v : Value} {x : Int} (h : BigIs B w v x) (t : Tch F w w') (hP : ∀ g, g < w.heap.size → B g → ¬ F g ∧ B' g) : BigIs B' w' v x := let ⟨dv, e, h⟩ := h; ⟨dv, e, h.keepTo t hP⟩
end Go.Proofs.YtdangnmeligfjaaGreatDoor
namespace Go.Gk
theorem dg_lenk : ∀ (k : Nat) {n : Nat}, n < 2 ^ k → (dg n).length ≤ k := fun k => by
 induction k with
 | zero =>
  intro m hm
  have e : m = 0 := by simpa using hm
  rw [e, dg_zero]; exact Nat.le_refl _
 | succ k ih =>
  intro m hm
  rcases Nat.eq_zero_or_pos m with e | e
  ·subst e; rw [dg_zero]; exact Nat.zero_le _
  ·rw [dg_pos e, List.length_cons]
   have := ih (n := m / 10) (by rw [Nat.pow_succ] at hm; omega)
   omega
def I64s (l : List Int) : Prop := ∀ x ∈ l, -9223372036854775808 ≤ x ∧ x ≤ 9223372036854775807
theorem sum_take {l : List Int} {j : Nat} (h : j < l.length) : (l.take (j + 1)).sum = (l.take j).sum + l[j] := by
 rw [List.take_succ_eq_append_getElem h, List.sum_append]; simp
theorem sum_bound {l : List Int} (h : I64s l) : ∀ j, j ≤ l.length → (l.take j).sum.natAbs ≤ j * 9223372036854775808
 | 0, _ => by simp
 | j + 1, hj => by
  have ih := sum_bound h j (by omega)
  have hx := h l[j] (List.getElem_mem _)
  rw [sum_take (by omega)]
  omega
end Go.Gk
namespace Go.Proofs.YtdangnmeligfjaaGreatDoor
open Go.RowKit Go.Gk
end Go.Proofs.YtdangnmeligfjaaGreatDoor
