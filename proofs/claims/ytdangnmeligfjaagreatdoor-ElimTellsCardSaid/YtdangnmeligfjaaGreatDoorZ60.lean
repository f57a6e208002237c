/-
  Views: currencies.
-/
import Derived.Test.YtdangnmeligfjaaGreatDoorZ28
import Derived.Test.YtdangnmeligfjaaGreatDoorZ55
import Derived.Test.YtdangnmeligfjaaGreatDoorZ20
import Derived.Test.YtdangnmeligfjaaGreatDoorLv
import Derived.Test.YtdangnmeligfjaaGreatDoorZ21
namespace Go.Proofs.YtdangnmeligfjaaGreatDoor
open Go.RowKit Go.Gk

section
variable {w : World} {bv bi B t mr mp : Nat} {e a s r l n lv : Value} {fs : List Value} {b : Bks} {us : List (Ent × Value)}

set_option maxRecDepth 100000 in
set_option maxHeartbeats 800000 in
theorem vwentities_own (h : Vw w bv bi B t mr mp e a s r l n lv fs b us) :
    Calls Tryz.prog 168 #[.pointer (some ⟨bv, 0, none⟩)] w fun x w' => x = .returned (.int .i64 b.ents.length) ∧ w = w' := by
  have hM := vwmade_any h
  obtain ⟨Aa, ca, rfl, _, _⟩ := h.bks.ents.form
  have v0 : w.cell? ⟨bv, 0, none⟩ = some _ := h.view.cell 0
  have v2 : w.cell? ⟨bi, 1, none⟩ = some (.slice Aa b.ents.length ca) := h.seen.cell 1
  go_enter Tryz.func168, Tryz.ntmps168
  go_wp2_with fail
  refine hM.mono ?_
  rintro _ _ ⟨rfl, rfl⟩
  clear hM
  go_wp2
  go_ret
  exact ⟨rfl, rfl⟩

set_option maxRecDepth 100000 in
set_option maxHeartbeats 1600000 in
theorem vwcurrency_own (h : Vw w bv bi B t mr mp e a s r l n lv fs b us) (x : Int) :
    Calls Tryz.prog 134 #[.pointer (some ⟨bv, 0, none⟩), .int .i64 x] w fun y w' => y = .returned (.int .i64 (curOf b x)) ∧ w = w' := by
  have HE := Lib.hid (vwentities_own h)
  by_cases hx : 1 ≤ x ∧ x ≤ (b.ents.length : Int)
  · obtain ⟨k, rfl⟩ : ∃ k : Nat, x = (k : Int) + 1 := ⟨(x - 1).toNat, by omega⟩
    have hk : k < b.ents.length := by omega
    have hcv : curOf b ((k : Int) + 1) = b.ents[k] := by
      unfold curOf
      rw [if_pos hx]
      have e : ((k : Int) + 1 - 1).toNat = k := by omega
      rw [e, List.getElem?_eq_getElem hk]
      rfl
    rw [hcv]
    have hacc := h.bks.ents
    obtain ⟨Aa, ca, rfl, hm1, hm2⟩ := h.bks.ents.form
    obtain ⟨g, o, rfl⟩ := hacc.head (by omega)
    have q0 := Row.one hacc int1_len hk rfl
    have v0 : w.cell? ⟨bv, 0, none⟩ = some _ := h.view.cell 0
    have v2 : w.cell? ⟨bi, 1, none⟩ = some (.slice (some ⟨g, o, none⟩) b.ents.length ca) := h.seen.cell 1
    have hk' : (k : Int) < (b.ents.length : Int) := by omega
    have hk0 : (0 : Int) ≤ (k : Int) := Int.natCast_nonneg _
    have g1 : ¬ ((k : Int) + 1) < 1 := by omega
    have g2 : ¬ (b.ents.length : Int) < ((k : Int) + 1) := by omega
    have g3 : wrap64 ((k : Int) + 1 - 1) = (k : Int) := by unfold wrap64; omega
    generalize b.ents[k] = y at *
    clear h hacc hcv hx
    go_enter Tryz.func134, Tryz.ntmps134
    go_wp2_with fail
    refine HE.out.mono ?_
    rintro _ _ ⟨rfl, rfl⟩
    clear HE
    go_wp2
    go_ret
    exact ⟨rfl, rfl⟩
  · have hcv : curOf b x = 0 := by unfold curOf; rw [if_neg hx]
    rw [hcv]
    clear h hcv
    by_cases h1 : x < 1
    · clear hx
      go_enter Tryz.func134, Tryz.ntmps134
      go_wp2
      go_ret
      exact ⟨rfl, rfl⟩
    · have h2 : (b.ents.length : Int) < x := by omega
      clear hx
      go_enter Tryz.func134, Tryz.ntmps134
      go_wp2_with fail
      refine HE.out.mono ?_
      rintro _ _ ⟨rfl, rfl⟩
      clear HE
      go_wp2
      go_ret
      exact ⟨rfl, rfl⟩
end
end Go.Proofs.YtdangnmeligfjaaGreatDoor

/-
  A value of some cells stored into the midst of a block that is known whole.
-/
namespace Go.Gk
open Go.RowKit
section
variable {P : Program} {ops : Array Oper} {rest : List Oper} {op : Oper} {a : Act} {w : World} {Q : Exit → Act → World → Prop}
end
end Go.Gk

/-
  What entities have, in their own currency.
-/
namespace Go.Proofs.YtdangnmeligfjaaGreatDoor
open Go.RowKit Go.Gk

section
variable {w : World} {bv bi B t mr mp : Nat} {e a s r l n lv : Value} {fs : List Value} {b : Bks} {us : List (Ent × Value)}

set_option maxRecDepth 100000 in
set_option maxHeartbeats 1600000 in
theorem transmay_own (h : Vw w bv bi B t mr mp e a s r l n lv fs b us) (hn : (accLeaves b.accs).length ≤ 1000) (c : Rt6) :
    Calls Tryz.prog 131 #[.pointer (some ⟨bv, 0, none⟩), cellV c] w fun x w' => x = .returned (.int .i64 (mayOf b c 3 3)) ∧ Tch (fun _ => False) w w' := by
  obtain ⟨c1, c2, c3, c4, c5, c6⟩ := c
  have tw := Tch.alloc (fun _ => False) w (.cells #[.int .i64 c1, .int .i64 c2, .int .i64 c3, .int .i64 c4, .int .i64 c5, .int .i64 c6] 31)
  have hb := Blk.new w 31 #[.int .i64 c1, .int .i64 c2, .int .i64 c3, .int .i64 c4, .int .i64 c5, .int .i64 c6]
  have h1 := h.keep tw
  have HM := Lib.hid (vwmay_any h1 (c1, c2, c3, c4, c5, c6))
  have HL := Lib.hid (fun w' (tc : Tch (fun _ => False) (w.alloc (.cells #[.int .i64 c1, .int .i64 c2, .int .i64 c3, .int .i64 c4, .int .i64 c5, .int .i64 c6] 31)) w') => vwleaf_any (h1.keep tc) hn c3)
  rw [leaf_contains] at HL
  obtain ⟨m, hm⟩ : ∃ m, mayOf b (c1, c2, c3, c4, c5, c6) 3 3 = m := ⟨_, rfl⟩
  rw [hm]
  unfold mayOf at hm
  simp only at hm
  generalize cellIn (c1, c2, c3, c4, c5, c6) b.ents.length b.accs.length = k at *
  generalize accLeaf b.accs c3 = lf at *
  have HMM := Lib.hid hm
  unfold cellV at HM ⊢
  simp only at HM ⊢
  clear hm h h1
  go_enter Tryz.func131, Tryz.ntmps131
  go_wp2_with fail
  generalize w.alloc (.cells #[.int .i64 c1, .int .i64 c2, .int .i64 c3, .int .i64 c4, .int .i64 c5, .int .i64 c6] 31) = W at *
  generalize w.heap.size = z at *
  refine HM.out.mono ?_
  rintro _ w1 ⟨rfl, t1⟩
  clear HM
  have tt := tw.trans t1
  by_cases hk : k = 0
  rotate_left
  · have hk' : (k != 0) = true := by simpa using hk
    obtain rfl : m = k := by rw [← HMM.out, if_neg hk]
    clear HMM
    go_wp2
    go_ret
    exact ⟨rfl, tt⟩
  subst hk
  have q0 : w1.cell? ⟨z, 0, none⟩ = some (.int .i64 c1) := (hb.keep t1 id).cell 0
  have q2 : w1.cell? ⟨z, 2, none⟩ = some (.int .i64 c3) := (hb.keep t1 id).cell 2
  by_cases hr : c1 = 3
  rotate_left
  · obtain rfl : m = 25 := by rw [← HMM.out, if_pos rfl, if_pos (by omega)]
    have h1 : (c1 != 3) = true := by simp; omega
    clear HMM hr
    go_wp2
    go_ret
    exact ⟨rfl, tt⟩
  have HMM := Lib.hid (show (if lf = true then (0 : Int) else 27) = m by
    have h9 := HMM.out
    rw [if_pos rfl, if_neg (show ¬ (c1 < 3 ∨ 3 < c1) by omega)] at h9
    exact h9)
  subst hr
  go_wp2_with fail
  refine (HL.out w1 t1).mono ?_
  rintro _ w2 ⟨rfl, t2⟩
  clear HL q0 q2
  cases lf
  · obtain rfl : m = 27 := by rw [← HMM.out]; rfl
    go_wp2
    go_ret
    exact ⟨rfl, tt.trans t2⟩
  · obtain rfl : m = 0 := by rw [← HMM.out]; rfl
    go_wp2
    go_ret
    exact ⟨rfl, tt.trans t2⟩

set_option maxRecDepth 100000 in
set_option maxHeartbeats 800000 in
theorem transwith_own {w : World} {g : Nat} {c1 c2 c3 c4 c5 c6 : Int} (hb : Blk w g 31 #[.int .i64 c1, .int .i64 c2, .int .i64 c3, .int .i64 c4, .int .i64 c5, .int .i64 c6]) (r : Int) :
    Calls Tryz.prog 133 #[.int .i64 r, .pointer (some ⟨g, 0, none⟩)] w fun x w' => x = .returned (.agg #[.int .i64 r, .int .i64 c2, .int .i64 c3, .int .i64 c4, .int .i64 0, .int .i64 c6]) ∧ Tch (fun _ => False) w w' := by
  have hb1 := hb.keep (Tch.alloc (fun _ => False) w (.cells #[.int .i64 0, .int .i64 0, .int .i64 0, .int .i64 0, .int .i64 0, .int .i64 0] 31)) id
  have x0 : (w.alloc (.cells #[.int .i64 0, .int .i64 0, .int .i64 0, .int .i64 0, .int .i64 0, .int .i64 0] 31)).cell? ⟨g, 0, none⟩ = some (.int .i64 c1) := hb1.cell 0
  have x1 : (w.alloc (.cells #[.int .i64 0, .int .i64 0, .int .i64 0, .int .i64 0, .int .i64 0, .int .i64 0] 31)).cell? ⟨g, 1, none⟩ = some (.int .i64 c2) := hb1.cell 1
  have x2 : (w.alloc (.cells #[.int .i64 0, .int .i64 0, .int .i64 0, .int .i64 0, .int .i64 0, .int .i64 0] 31)).cell? ⟨g, 2, none⟩ = some (.int .i64 c3) := hb1.cell 2
  have x3 : (w.alloc (.cells #[.int .i64 0, .int .i64 0, .int .i64 0, .int .i64 0, .int .i64 0, .int .i64 0] 31)).cell? ⟨g, 3, none⟩ = some (.int .i64 c4) := hb1.cell 3
  have x4 : (w.alloc (.cells #[.int .i64 0, .int .i64 0, .int .i64 0, .int .i64 0, .int .i64 0, .int .i64 0] 31)).cell? ⟨g, 4, none⟩ = some (.int .i64 c5) := hb1.cell 4
  have x5 : (w.alloc (.cells #[.int .i64 0, .int .i64 0, .int .i64 0, .int .i64 0, .int .i64 0, .int .i64 0] 31)).cell? ⟨g, 5, none⟩ = some (.int .i64 c6) := hb1.cell 5
  clear hb hb1
  go_enter Tryz.func133, Tryz.ntmps133
  go_wp2_with fail
  (try simp only [Exit.inBlock, Exit.then])
  (try rw [Exit.noGoto_ret])
  refine bodyPost_ret (results_cell_row (P := Tryz.prog) rfl _ _ (w.heap.size) 31 _ (0, 0) _ rfl ((Blk.new w 31 #[.int .i64 r, .int .i64 c2, .int .i64 c3, .int .i64 c4, .int .i64 0, .int .i64 c6]).keep (Tch.alloc (fun _ => False) _ _) id) Tryz.underlying31 rfl (by kernel_rfl)) rfl ?_
  exact ⟨rfl, (Tch.alloc _ _ _).trans (Tch.alloc _ _ _)⟩

def TransOwn (b : Bks) (c : Rt6) (w : World) (x : Ending) (w' : World) : Prop := ∃ v, x = .returned (.tuple #[v, .int .i64 (transOf b c).2]) ∧ RcpIs w' v (transOf b c).1 ∧ Tch (fun _ => False) w w'

set_option maxRecDepth 100000 in
set_option maxHeartbeats 25600000 in
theorem transrec_own (h : Vw w bv bi B t mr mp e a s r l n lv fs b us) (hn : (accLeaves b.accs).length ≤ 1000) (c1 c2 c3 c4 c5 c6 : Int) (hown : mayOf b (c1, c2, c3, c4, c5, c6) 3 3 = 0 → c3 ≠ 1 ∧ curOf b c2 = c5) :
    Calls Tryz.prog 88 #[.pointer (some ⟨bv, 0, none⟩), .agg #[.int .i64 c1, .int .i64 c2, .int .i64 c3, .int .i64 c4, .int .i64 c5, .int .i64 c6]] w (TransOwn b (c1, c2, c3, c4, c5, c6) w) := by
  have ta := Tch.alloc (fun _ => False) w (.cells #[.int .i64 c1, .int .i64 c2, .int .i64 c3, .int .i64 c4, .int .i64 c5, .int .i64 c6] 31)
  have tb := Tch.alloc (fun _ => False) (w.alloc (.cells #[.int .i64 c1, .int .i64 c2, .int .i64 c3, .int .i64 c4, .int .i64 c5, .int .i64 c6] 31)) (.cells #[.int .i64 0, .int .i64 0, .slice none 0 0, .slice none 0 0, .int .i64 0, .int .i64 0, .int .i64 0, .int .i64 0, .int .i64 0, .int .i64 0, .bool false, .int .i64 0, .int .i64 0, .bool false] 46)
  have tw := ta.trans tb
  have bC := (Blk.new w 31 #[.int .i64 c1, .int .i64 c2, .int .i64 c3, .int .i64 c4, .int .i64 c5, .int .i64 c6]).keep tb id
  have bO := Blk.new2 w (.cells #[.int .i64 c1, .int .i64 c2, .int .i64 c3, .int .i64 c4, .int .i64 c5, .int .i64 c6] 31) 46 #[.int .i64 0, .int .i64 0, .slice none 0 0, .slice none 0 0, .int .i64 0, .int .i64 0, .int .i64 0, .int .i64 0, .int .i64 0, .int .i64 0, .bool false, .int .i64 0, .int .i64 0, .bool false]
  have HM := Lib.hid (transmay_own (h.keep tw) hn (c1, c2, c3, c4, c5, c6))
  have HH := Lib.hid h
  have HOW := Lib.hid hown
  unfold cellV at HM
  simp only at HM
  have HL : Hid (transOf b (c1, c2, c3, c4, c5, c6) = if mayOf b (c1, c2, c3, c4, c5, c6) 3 3 = 0 then (transRcp b (c1, c2, c3, c4, c5, c6), 0) else (Rcp.none, mayOf b (c1, c2, c3, c4, c5, c6) 3 3)) := Lib.hid rfl
  have HFA := Lib.hid (fun h => may_facts (b := b) (c := (c1, c2, c3, c4, c5, c6)) (lo := 3) (hi := 3) h)
  have hsz : ((w.alloc (.cells #[.int .i64 c1, .int .i64 c2, .int .i64 c3, .int .i64 c4, .int .i64 c5, .int .i64 c6] 31)).alloc (.cells #[.int .i64 0, .int .i64 0, .slice none 0 0, .slice none 0 0, .int .i64 0, .int .i64 0, .int .i64 0, .int .i64 0, .int .i64 0, .int .i64 0, .bool false, .int .i64 0, .int .i64 0, .bool false] 46)).heap.size = w.heap.size + 2 := by simp
  have k0 : ((w.alloc (.cells #[.int .i64 c1, .int .i64 c2, .int .i64 c3, .int .i64 c4, .int .i64 c5, .int .i64 c6] 31)).alloc (.cells #[.int .i64 0, .int .i64 0, .slice none 0 0, .slice none 0 0, .int .i64 0, .int .i64 0, .int .i64 0, .int .i64 0, .int .i64 0, .int .i64 0, .bool false, .int .i64 0, .int .i64 0, .bool false] 46)).cell? ⟨w.heap.size, 0, none⟩ = some (.int .i64 c1) := bC.cell 0
  have k1 : ((w.alloc (.cells #[.int .i64 c1, .int .i64 c2, .int .i64 c3, .int .i64 c4, .int .i64 c5, .int .i64 c6] 31)).alloc (.cells #[.int .i64 0, .int .i64 0, .slice none 0 0, .slice none 0 0, .int .i64 0, .int .i64 0, .int .i64 0, .int .i64 0, .int .i64 0, .int .i64 0, .bool false, .int .i64 0, .int .i64 0, .bool false] 46)).cell? ⟨w.heap.size, 1, none⟩ = some (.int .i64 c2) := bC.cell 1
  have k2 : ((w.alloc (.cells #[.int .i64 c1, .int .i64 c2, .int .i64 c3, .int .i64 c4, .int .i64 c5, .int .i64 c6] 31)).alloc (.cells #[.int .i64 0, .int .i64 0, .slice none 0 0, .slice none 0 0, .int .i64 0, .int .i64 0, .int .i64 0, .int .i64 0, .int .i64 0, .int .i64 0, .bool false, .int .i64 0, .int .i64 0, .bool false] 46)).cell? ⟨w.heap.size, 2, none⟩ = some (.int .i64 c3) := bC.cell 2
  have k3 : ((w.alloc (.cells #[.int .i64 c1, .int .i64 c2, .int .i64 c3, .int .i64 c4, .int .i64 c5, .int .i64 c6] 31)).alloc (.cells #[.int .i64 0, .int .i64 0, .slice none 0 0, .slice none 0 0, .int .i64 0, .int .i64 0, .int .i64 0, .int .i64 0, .int .i64 0, .int .i64 0, .bool false, .int .i64 0, .int .i64 0, .bool false] 46)).cell? ⟨w.heap.size, 3, none⟩ = some (.int .i64 c4) := bC.cell 3
  have k4 : ((w.alloc (.cells #[.int .i64 c1, .int .i64 c2, .int .i64 c3, .int .i64 c4, .int .i64 c5, .int .i64 c6] 31)).alloc (.cells #[.int .i64 0, .int .i64 0, .slice none 0 0, .slice none 0 0, .int .i64 0, .int .i64 0, .int .i64 0, .int .i64 0, .int .i64 0, .int .i64 0, .bool false, .int .i64 0, .int .i64 0, .bool false] 46)).cell? ⟨w.heap.size, 4, none⟩ = some (.int .i64 c5) := bC.cell 4
  have k5 : ((w.alloc (.cells #[.int .i64 c1, .int .i64 c2, .int .i64 c3, .int .i64 c4, .int .i64 c5, .int .i64 c6] 31)).alloc (.cells #[.int .i64 0, .int .i64 0, .slice none 0 0, .slice none 0 0, .int .i64 0, .int .i64 0, .int .i64 0, .int .i64 0, .int .i64 0, .int .i64 0, .bool false, .int .i64 0, .int .i64 0, .bool false] 46)).cell? ⟨w.heap.size, 5, none⟩ = some (.int .i64 c6) := bC.cell 5
  generalize mayOf b (c1, c2, c3, c4, c5, c6) 3 3 = m at *
  clear ta tb h hown
  go_enter Tryz.func88, Tryz.ntmps88
  go_wp2_with fail
  generalize (w.alloc (.cells #[.int .i64 c1, .int .i64 c2, .int .i64 c3, .int .i64 c4, .int .i64 c5, .int .i64 c6] 31)).alloc _ = W at *
  generalize hzw : w.heap.size = z at *
  have HZW := Lib.hid hzw
  clear hzw
  refine HM.out.mono ?_
  rintro _ w1 ⟨rfl, t1⟩
  have bC1 := bC.keep t1 id
  have bO1 := bO.keep t1 id
  have T1 := tw.trans t1
  have hz1 : z + 2 ≤ w1.heap.size := by have := t1.size; omega
  clear HM bC bO tw t1 hsz k0 k1 k2 k3 k4 k5
  by_cases hm : m = 0
  rotate_left
  · have hm' : (m != 0) = true := by simpa using hm
    have HLN := Lib.hid (show transOf b (c1, c2, c3, c4, c5, c6) = (Rcp.none, m) by rw [HL.out, if_neg hm])
    clear hm HL HFA HH HOW bC1
    go_wp2_with (refine wpList_store_blk rfl _ _ _ rfl (z + 1) #[.int .i64 0, .int .i64 0, .slice none 0 0, .slice none 0 0, .int .i64 0, .int .i64 0, .int .i64 0, .int .i64 0, .int .i64 0, .int .i64 0, .bool false, .int .i64 0, .int .i64 0, .bool false] (by rfl) (by rfl) bO1 (by kernel_rfl) rfl (by simp [Value.oneCell']) ?_; refine Hid.out ?_)
    refine Lib.hid ?_
    intro w9 hF tF
    have HBF := Lib.hid hF
    have HTF := Lib.hid tF
    clear hF tF bO1
    go_wp2
    (try simp only [Exit.inBlock, Exit.then])
    (try rw [Exit.noGoto_ret])
    refine bodyPost_ret (results_row_tmp (P := Tryz.prog) rfl _ _ (z + 1) 46 _ (0, 0) _ rfl HBF.out Tryz.underlying46 rfl (by kernel_rfl)) rfl ?_
    unfold TransOwn
    rw [HLN.out]
    exact ⟨_, rfl, ⟨_, _, rfl, Row.nil _ _ _, Row.nil _ _ _⟩, T1.trans' (F' := fun g => g = z + 1) HTF.out (fun i hi => .inr (by have hi : i = z + 1 := hi; have := HZW.out; omega))⟩
  obtain ⟨_, ⟨hp0, hp1⟩, _, hlf⟩ := HFA.out hm
  have HLF := Lib.hid (show accLeaf b.accs c3 = true from hlf)
  have HC4 := Lib.hid (show 0 ≤ c4 ∧ c4 ≤ 23 from ⟨hp0, hp1⟩)
  have HLN := Lib.hid (show transOf b (c1, c2, c3, c4, c5, c6) = (transRcp b (c1, c2, c3, c4, c5, c6), 0) by rw [HL.out, if_pos hm])
  subst hm
  clear HL HFA hp0 hp1 hlf
  have H1 := Lib.hid (HH.out.keep T1)
  have k0 : w1.cell? ⟨z, 0, none⟩ = some (.int .i64 c1) := bC1.cell 0
  have k1 : w1.cell? ⟨z, 1, none⟩ = some (.int .i64 c2) := bC1.cell 1
  have k2 : w1.cell? ⟨z, 2, none⟩ = some (.int .i64 c3) := bC1.cell 2
  have k3 : w1.cell? ⟨z, 3, none⟩ = some (.int .i64 c4) := bC1.cell 3
  have k4 : w1.cell? ⟨z, 4, none⟩ = some (.int .i64 c5) := bC1.cell 4
  have k5 : w1.cell? ⟨z, 5, none⟩ = some (.int .i64 c6) := bC1.cell 5
  obtain ⟨h31, hcu⟩ := HOW.out rfl
  clear HOW
  have h31b : (c3 == 1) = false := by simpa using h31
  have HCU := Lib.hid (vwcurrency_own H1.out c2)
  have HRC := Lib.hid (show transRcp b (c1, c2, c3, c4, c5, c6) = if curOf b c2 = c5 then { Rcp.none with plus := [(2, c2, c3, c4, 0, c6)] } else { Rcp.none with plus := if kindOf b c3 ≠ 1 ∧ 0 < c4 then [(c1, c2, c3, c4 - 1, c5, c6)] else [], scaled := (if kindOf b c3 = 1 then 2 else 1, c2, c3, c4, 0, c6), rated := true, ratio := (rateOf b.rates (curOf b c2) c5 (kindOf b c3) c4).1, has := (rateOf b.rates (curOf b c2) c5 (kindOf b c3) c4).2 } from by unfold transRcp; simp only; rw [if_neg h31])
  generalize curOf b c2 = cu at *
  clear h31
  go_wp2_with fail
  refine HCU.out.mono ?_
  rintro _ _ ⟨rfl, rfl⟩
  clear HCU
  have he : cu = c5 := hcu
  clear hcu
  have hb : (cu == c5) = true := by simpa using he
  have hrc := HRC.out
  rw [if_pos he] at hrc
  have HRC2 := Lib.hid hrc
  have HWI := Lib.hid (transwith_own bC1 2)
  clear hrc HRC he HLF H1 HH bC1
  go_wp2_with fail
  refine HWI.out.mono ?_
  rintro _ w2 ⟨rfl, t2⟩
  have tD := Tch.alloc (fun _ => False) w2 (.cells #[.int .i64 2, .int .i64 c2, .int .i64 c3, .int .i64 c4, .int .i64 0, .int .i64 c6] 31)
  have bD := Blk.new w2 31 #[.int .i64 2, .int .i64 c2, .int .i64 c3, .int .i64 c4, .int .i64 0, .int .i64 c6]
  have bO3 := (bO1.keep t2 id).keep tD id
  have T3 := (T1.trans t2).trans tD
  have hy2 := t2.size
  clear HWI bO1 T1 t2 tD k0 k1 k2 k3 k4 k5
  go_wp2_with (refine wpList_store_blk rfl _ _ _ rfl (z + 1) #[.int .i64 0, .int .i64 0, .slice (some ⟨w2.heap.size, 0, none⟩) 1 1, .slice none 0 0, .int .i64 0, .int .i64 0, .int .i64 0, .int .i64 0, .int .i64 0, .int .i64 0, .bool false, .int .i64 0, .int .i64 0, .bool false] (by rfl) (by rfl) bO3 (by kernel_rfl) rfl (by simp [Value.oneCell']) ?_; refine Hid.out ?_)
  refine Lib.hid ?_
  intro w9 hF tF
  generalize w2.alloc _ = W2 at *
  generalize hye : w2.heap.size = y at *
  have HBF := Lib.hid hF
  have HTF := Lib.hid tF
  have HBD := Lib.hid (bD.keep tF (by omega))
  clear hF tF bO3 bD
  go_wp2
  (try simp only [Exit.inBlock, Exit.then])
  (try rw [Exit.noGoto_ret])
  refine bodyPost_ret (results_row_tmp (P := Tryz.prog) rfl _ _ (z + 1) 46 _ (0, 0) _ rfl HBF.out Tryz.underlying46 rfl (by kernel_rfl)) rfl ?_
  unfold TransOwn
  rw [HLN.out, HRC2.out]
  exact ⟨_, rfl, ⟨_, _, rfl, Row.blk HBD.out trivial rfl (by decide), Row.nil _ _ _⟩, T3.trans' (F' := fun g => g = z + 1) HTF.out (fun i hi => .inr (by have hi : i = z + 1 := hi; have := HZW.out; omega))⟩
end
end Go.Proofs.YtdangnmeligfjaaGreatDoor
