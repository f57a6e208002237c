/-
  The probe of layer 31: its books, its answers.
-/
import Derived.Test.YtdangnmeligfjaaGreatDoorZ14
import Derived.Test.YtdangnmeligfjaaGreatDoorZ20
import Derived.Test.YtdangnmeligfjaaGreatDoorZ21
namespace Go.Gk
open Go.RowKit
/-- A new row, all of it. -/
theorem own_all (w : World) (e : TypeId) (size n : Nat) (cells : Array Value) (hn : n ≤ maxLen) (hs : cells.size = n * size) : (w.alloc (.cells cells e)).ownsRow w.heap.size e size (.slice (some ⟨w.heap.size, 0, none⟩) n n) n cells.toList :=
  ⟨by simpa using hs, .inr ⟨w.heap.size, n, cells, rfl, Nat.le_refl _, Blk.new w e cells, Nat.le_refl _, hn, hs, List.take_of_length_le (by simp [hs])⟩⟩
theorem someBks_few : BksFew someBks := by
  refine ⟨by decide, by decide, by decide, by decide, by decide, by decide, ?_⟩
  intro x hx
  simp only [someBks, List.mem_cons, List.not_mem_nil, or_false] at hx
  rcases hx with rfl | rfl <;> decide
theorem someBks_64 : Bks64 someBks := by
  refine ⟨?_, ?_, ?_, ?_, ?_, ?_⟩
  · intro x hx
    simp only [someBks, List.mem_cons, List.not_mem_nil, or_false] at hx
    subst hx; unfold I64; simp
  · intro x hx
    simp only [someBks, ownAccs, List.cons_append, List.nil_append, List.mem_cons, List.not_mem_nil, or_false] at hx
    rcases hx with rfl | rfl | rfl | rfl | rfl <;> (unfold I64; simp)
  · intro x hx; simp [someBks] at hx
  · intro x hx; simp [someBks] at hx
  · intro x hx; simp [someBks] at hx
  · intro x hx
    simp only [someBks, List.mem_cons, List.not_mem_nil, or_false] at hx
    rcases hx with rfl | rfl
    all_goals
      refine ⟨by unfold I64; simp, by unfold I64; simp, ?_⟩
      intro l hl
      simp only [List.mem_cons, List.not_mem_nil, or_false] at hl
      rcases hl with rfl | rfl <;> (unfold I64; simp)
end Go.Gk
namespace Go.Proofs.YtdangnmeligfjaaGreatDoor
open Go.RowKit Go.Gk

set_option maxRecDepth 100000 in
set_option maxHeartbeats 800000 in
theorem new20_any (w : World) :
    Calls Tryz.prog 103 #[] w fun x w' => ∃ u, x = .returned u ∧ Outs acc4 4 89 w w' u ownAccs := by
  go_enter Tryz.func103, Tryz.ntmps103
  go_wp2
  go_ret
  exact ⟨_, rfl, own_all w 89 4 3 _ (by decide) rfl, Tch.alloc _ _ _⟩

set_option maxRecDepth 100000 in
set_option maxHeartbeats 800000 in
theorem new26_any (w : World) :
    Calls Tryz.prog 54 #[] w fun x w' => ∃ u, x = .returned (.agg #[.slice none 0 0, u, .slice none 0 0, .slice none 0 0, .slice none 0 0, .slice none 0 0]) ∧ Outs acc4 4 89 w w' u ownAccs := by
  have tz := Tch.alloc (fun _ => False) w (.cells #[.slice none 0 0, .slice none 0 0, .slice none 0 0, .slice none 0 0, .slice none 0 0, .slice none 0 0] 29)
  have hz := Blk.new w 29 #[.slice none 0 0, .slice none 0 0, .slice none 0 0, .slice none 0 0, .slice none 0 0, .slice none 0 0]
  have hsz : (w.alloc (.cells #[.slice none 0 0, .slice none 0 0, .slice none 0 0, .slice none 0 0, .slice none 0 0, .slice none 0 0] 29)).heap.size = w.heap.size + 1 := by simp
  go_enter Tryz.func54, Tryz.ntmps54
  go_wp2_with fail
  generalize w.alloc _ = W at *
  generalize hzw : w.heap.size = z at *
  have HZW := Lib.hid hzw
  clear hzw
  refine (new20_any W).mono ?_
  rintro _ w1 ⟨u, rfl, hO⟩
  have h1 := hz.keep hO.tch id
  obtain ⟨A, c, he, _, _⟩ := hO.form
  rw [show ownAccs.length = 3 from rfl] at he
  subst he
  go_wp2_with (refine wpList_store_blk rfl _ _ _ rfl (z) #[.slice none 0 0, .slice A 3 c, .slice none 0 0, .slice none 0 0, .slice none 0 0, .slice none 0 0] (by rfl) (by rfl) h1 (by kernel_rfl) rfl (by simp [Value.oneCell']) ?_; refine Hid.out ?_)
  refine Lib.hid ?_
  intro w9 hF tF
  have HBF := Lib.hid hF
  have HTF := Lib.hid tF
  clear hF tF h1
  go_wp2
  refine bodyPost_ret (results_cell_row (P := Tryz.prog) rfl _ _ (z) 29 _ (0, 0) _ rfl HBF.out Tryz.underlying29 rfl (by kernel_rfl)) rfl ?_
  refine ⟨_, rfl, own_up (own_base ((HTF.out).own hO.own (fun g hg he => ?_))) (fun g hg => ?_), (tz.trans hO.tch).trans' HTF.out (fun i hi => .inr (by have hi : i = z := hi; have := HZW.out; omega))⟩
  · have he : g = z := he
    have := (hO.own.lt g hg).1
    omega
  · have := (hO.own.lt g hg).1
    have := HZW.out
    omega

set_option maxRecDepth 100000 in
set_option maxHeartbeats 800000 in
theorem localmay_nil (c : Rt6) (w : World) :
    Calls Tryz.prog 136 #[.pointer none, cellV c] w fun x w' => x = .returned (.int .i64 1) ∧ Tch (fun _ => False) w w' := by
  obtain ⟨c1, c2, c3, c4, c5, c6⟩ := c
  unfold cellV
  have tw := Tch.alloc (fun _ => False) w (.cells #[.int .i64 c1, .int .i64 c2, .int .i64 c3, .int .i64 c4, .int .i64 c5, .int .i64 c6] 31)
  have HM := Lib.hid (vwmay_nil (c1, c2, c3, c4, c5, c6) (w.alloc (.cells #[.int .i64 c1, .int .i64 c2, .int .i64 c3, .int .i64 c4, .int .i64 c5, .int .i64 c6] 31)))
  unfold cellV at HM
  simp only at HM
  go_enter Tryz.func136, Tryz.ntmps136
  go_wp2_with fail
  refine HM.out.mono ?_
  rintro _ w1 ⟨rfl, t1⟩
  clear HM
  have tt := tw.trans t1
  go_wp2
  go_ret
  exact ⟨rfl, tt⟩

set_option maxRecDepth 100000 in
set_option maxHeartbeats 1600000 in
theorem localrec_nil (c1 c2 c3 c4 c5 c6 : Int) (w : World) :
    Calls Tryz.prog 89 #[.pointer none, .agg #[.int .i64 c1, .int .i64 c2, .int .i64 c3, .int .i64 c4, .int .i64 c5, .int .i64 c6]] w fun x w' => x = .returned (.tuple #[.agg #[.int .i64 0, .int .i64 0, .slice none 0 0, .slice none 0 0, .int .i64 0, .int .i64 0, .int .i64 0, .int .i64 0, .int .i64 0, .int .i64 0, .bool false, .int .i64 0, .int .i64 0, .bool false], .int .i64 1]) ∧ Tch (fun _ => False) w w' := by
  have ta := Tch.alloc (fun _ => False) w (.cells #[.int .i64 c1, .int .i64 c2, .int .i64 c3, .int .i64 c4, .int .i64 c5, .int .i64 c6] 31)
  have tb := Tch.alloc (fun _ => False) (w.alloc (.cells #[.int .i64 c1, .int .i64 c2, .int .i64 c3, .int .i64 c4, .int .i64 c5, .int .i64 c6] 31)) (.cells #[.int .i64 0, .int .i64 0, .slice none 0 0, .slice none 0 0, .int .i64 0, .int .i64 0, .int .i64 0, .int .i64 0, .int .i64 0, .int .i64 0, .bool false, .int .i64 0, .int .i64 0, .bool false] 46)
  have tw := ta.trans tb
  have hbR := Blk.new2 w (.cells #[.int .i64 c1, .int .i64 c2, .int .i64 c3, .int .i64 c4, .int .i64 c5, .int .i64 c6] 31) 46 #[.int .i64 0, .int .i64 0, .slice none 0 0, .slice none 0 0, .int .i64 0, .int .i64 0, .int .i64 0, .int .i64 0, .int .i64 0, .int .i64 0, .bool false, .int .i64 0, .int .i64 0, .bool false]
  have HM := Lib.hid (localmay_nil (c1, c2, c3, c4, c5, c6) ((w.alloc (.cells #[.int .i64 c1, .int .i64 c2, .int .i64 c3, .int .i64 c4, .int .i64 c5, .int .i64 c6] 31)).alloc (.cells #[.int .i64 0, .int .i64 0, .slice none 0 0, .slice none 0 0, .int .i64 0, .int .i64 0, .int .i64 0, .int .i64 0, .int .i64 0, .int .i64 0, .bool false, .int .i64 0, .int .i64 0, .bool false] 46)))
  have hsz : ((w.alloc (.cells #[.int .i64 c1, .int .i64 c2, .int .i64 c3, .int .i64 c4, .int .i64 c5, .int .i64 c6] 31)).alloc (.cells #[.int .i64 0, .int .i64 0, .slice none 0 0, .slice none 0 0, .int .i64 0, .int .i64 0, .int .i64 0, .int .i64 0, .int .i64 0, .int .i64 0, .bool false, .int .i64 0, .int .i64 0, .bool false] 46)).heap.size = w.heap.size + 2 := by simp
  unfold cellV at HM
  simp only at HM
  clear ta tb
  go_enter Tryz.func89, Tryz.ntmps89
  go_wp2_with fail
  generalize (w.alloc (.cells #[.int .i64 c1, .int .i64 c2, .int .i64 c3, .int .i64 c4, .int .i64 c5, .int .i64 c6] 31)).alloc _ = W at *
  generalize hzw : w.heap.size = z at *
  have HZW := Lib.hid hzw
  clear hzw
  refine HM.out.mono ?_
  rintro _ w1 ⟨rfl, t1⟩
  clear HM
  have r1 := hbR.keep t1 id
  have tW := tw.trans t1
  clear hbR tw t1 hsz
  go_wp2_with (refine wpList_store_blk rfl _ _ _ rfl (z + 1) #[.int .i64 0, .int .i64 0, .slice none 0 0, .slice none 0 0, .int .i64 0, .int .i64 0, .int .i64 0, .int .i64 0, .int .i64 0, .int .i64 0, .bool false, .int .i64 0, .int .i64 0, .bool false] (by rfl) (by rfl) r1 (by kernel_rfl) rfl (by simp [Value.oneCell']) ?_; refine Hid.out ?_)
  refine Lib.hid ?_
  intro w9 hF tF
  have HBF := Lib.hid hF
  have HTF := Lib.hid tF
  clear hF tF r1
  go_wp2
  (try simp only [Exit.inBlock, Exit.then])
  (try rw [Exit.noGoto_ret])
  refine bodyPost_ret (results_row_tmp (P := Tryz.prog) rfl _ _ (z + 1) 46 _ (0, 0) _ rfl HBF.out Tryz.underlying46 rfl (by kernel_rfl)) rfl ?_
  exact ⟨rfl, tW.trans' (F' := fun g => g = z + 1) HTF.out (fun i hi => .inr (by have hi : i = z + 1 := hi; have := HZW.out; omega))⟩

end Go.Proofs.YtdangnmeligfjaaGreatDoor
