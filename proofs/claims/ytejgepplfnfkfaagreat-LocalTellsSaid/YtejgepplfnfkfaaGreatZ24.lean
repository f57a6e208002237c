/-
  The document's: recipes of movements and balances.
-/
import Derived.Test.YtejgepplfnfkfaaGreatZ23
import Derived.Test.YtejgepplfnfkfaaGreatZ21
namespace Go.Gk
open Go.RowKit
section
variable {P : Program} {ops : Array Oper} {rest : List Oper} {op : Oper} {a : Act} {w : World} {Q : Exit → Act → World → Prop}
/-- A value of two cells is stored into a block that is known whole. -/
theorem wpList_store_two (hgd : op.guard = none) (ty : TypeId) (x y : Operand) (ho : op.op = .store ty x y) (b o : Nat) (u v : Value) (hx : a.eval x = .pointer (some ⟨b, o, none⟩)) (hy : a.eval y = .agg #[u, v]) (h1 : u.oneCell' = true) (h2 : v.oneCell' = true) (hi : (P.info? ty).map (·.size) = some 2)
    {t : TypeId} {cs : Array Value} (hb : Blk w b t cs) (hlt : o + 1 < cs.size) (h : ∀ W, Blk W b t ((cs.setIfInBounds o u).setIfInBounds (o + 1) v) → Tch (fun g => g = b) w W → wpList P ops Q rest (a.put op.dst undef) W) : wpList P ops Q (op :: rest) a w := by
  refine wpList_store_mid hgd ty x y ho b o #[u, v] hx hy (fun j hj => ⟨?_, hb.frozen _⟩) hi (by simp [h1, h2]) ?_
  · have hj2 : j < 2 := hj
    have hc := hb.cell (o + j)
    rw [Array.getElem?_eq_getElem (by omega)] at hc
    rw [hc]; rfl
  · exact h _ ((hb.set_ o u).set_ (o + 1) v) ((Tch.setCell (F := fun g => g = b) w (p := ⟨b, o, none⟩) (.inl rfl) u).trans (Tch.setCell (F := fun g => g = b) _ (p := ⟨b, o + 1, none⟩) (.inl rfl) v))
end
end Go.Gk
namespace Go.Proofs.YtejgepplfnfkfaaGreat
open Go.RowKit Go.Gk

set_option maxRecDepth 100000 in
set_option maxHeartbeats 800000 in
theorem reftold_any (n e : Int) (w : World) :
    Calls Tryz.prog 33 #[.int .i64 n, .int .i64 e] w fun x w' => x = .returned (.agg #[.int .i64 (if e = 0 then n else 0), .int .i64 e]) ∧ Tch (fun _ => False) w w' := by
  have tw := Tch.alloc (fun _ => False) w (.cells #[.int .i64 0, .int .i64 0] 39)
  by_cases h : e = 0
  · subst h
    rw [if_pos rfl]
    go_enter Tryz.func33, Tryz.ntmps33
    go_wp2
    refine bodyPost_ret (results_cell_row (P := Tryz.prog) rfl _ _ (w.heap.size) 39 _ (0, 0) _ rfl (Blk.new w 39 _) Tryz.underlying39 rfl (by kernel_rfl)) rfl ?_
    exact ⟨rfl, Tch.alloc _ _ _⟩
  · have h2 : (e != 0) = true := by simpa using h
    rw [if_neg h]
    go_enter Tryz.func33, Tryz.ntmps33
    go_wp2
    refine bodyPost_ret (results_cell_row (P := Tryz.prog) rfl _ _ (w.heap.size) 39 _ (0, 0) _ rfl (Blk.new w 39 _) Tryz.underlying39 rfl (by kernel_rfl)) rfl ?_
    exact ⟨rfl, Tch.alloc _ _ _⟩

section
variable {w : World} {e a s r l n : Value} {b : Bks} {us : List (Ent × Value)}

set_option maxRecDepth 100000 in
set_option maxHeartbeats 1600000 in
theorem refmay31_any (h : BksAt w e a s r l n b us) (hn : b.accs.length ≤ 100000) (c : Rt6) (lo hi : Int) :
    Calls Tryz.prog 32 #[.agg #[e, a, s, r, l, n], cellV c, .int .i64 lo, .int .i64 hi] w fun x w' => x = .returned (.int .i64 (mayOf b c lo hi)) ∧ Tch (fun _ => False) w w' := by
  have tA := Tch.alloc (fun _ => False) w (.cells #[e, a, s, r, l, n] 29)
  obtain ⟨c1, c2, c3, c4, c5, c6⟩ := c
  have tB := Tch.alloc (fun _ => False) (w.alloc (.cells #[e, a, s, r, l, n] 29)) (.cells #[.int .i64 c1, .int .i64 c2, .int .i64 c3, .int .i64 c4, .int .i64 c5, .int .i64 c6] 31)
  have tw := tA.trans tB
  have hbB := (Blk.new w 29 #[e, a, s, r, l, n]).keep tB id
  have hbC := Blk.new2 w (.cells #[e, a, s, r, l, n] 29) 31 #[.int .i64 c1, .int .i64 c2, .int .i64 c3, .int .i64 c4, .int .i64 c5, .int .i64 c6]
  have HM := Lib.hid (refmay30_any (h.keep tw) (c1, c2, c3, c4, c5, c6))
  have HL := Lib.hid (fun w' (tc : Tch (fun _ => False) _ w') => refleaf30_any ((h.keep tw).keep tc) hn c3)
  obtain ⟨m, hm⟩ : ∃ m, mayOf b (c1, c2, c3, c4, c5, c6) lo hi = m := ⟨_, rfl⟩
  rw [hm]
  unfold mayOf at hm
  simp only at hm
  generalize cellIn (c1, c2, c3, c4, c5, c6) b.ents.length b.accs.length = k at *
  generalize accLeaf b.accs c3 = lf at *
  have HMM := Lib.hid hm
  unfold cellV at HM ⊢
  simp only at HM ⊢
  obtain ⟨Ae, ce, rfl, _, _⟩ := h.ents.form
  obtain ⟨Aa, ca, rfl, _, _⟩ := h.accs.form
  obtain ⟨As, cs, rfl, _, _⟩ := h.stakes.form
  obtain ⟨Ar, cr, rfl, _, _⟩ := h.rates.form
  obtain ⟨Al, cl, rfl, _, _⟩ := h.locks.form
  obtain ⟨An, cn, rfl, _, _⟩ := h.ent.row.form
  clear hm h tA tB
  go_enter Tryz.func32, Tryz.ntmps32
  go_wp2_with fail
  generalize (w.alloc (.cells #[.slice Ae b.ents.length ce, .slice Aa b.accs.length ca, .slice As b.stakes.length cs, .slice Ar b.rates.length cr, .slice Al b.locks.length cl, .slice An us.length cn] 29)).alloc (.cells #[.int .i64 c1, .int .i64 c2, .int .i64 c3, .int .i64 c4, .int .i64 c5, .int .i64 c6] 31) = W at *
  generalize w.heap.size = z at *
  refine HM.out.mono ?_
  rintro _ w1 ⟨rfl, t1⟩
  clear HM
  have tt := tw.trans t1
  by_cases hk : k = 0
  rotate_left
  · have hk' : (k != 0) = true := by simpa using hk
    obtain rfl : m = k := by rw [← HMM.out, if_neg hk]
    clear HMM
    go_wp2
    go_ret
    exact ⟨rfl, tt⟩
  subst hk
  have q0 : w1.cell? ⟨z + 1, 0, none⟩ = some (.int .i64 c1) := (hbC.keep t1 id).cell 0
  have q2 : w1.cell? ⟨z + 1, 2, none⟩ = some (.int .i64 c3) := (hbC.keep t1 id).cell 2
  have hB := hbB.keep t1 id
  have g0 : w1.cell? ⟨z, 0, none⟩ = some _ := hB.cell 0
  have g1 : w1.cell? ⟨z, 1, none⟩ = some _ := hB.cell 1
  have g2 : w1.cell? ⟨z, 2, none⟩ = some _ := hB.cell 2
  have g3 : w1.cell? ⟨z, 3, none⟩ = some _ := hB.cell 3
  have g4 : w1.cell? ⟨z, 4, none⟩ = some _ := hB.cell 4
  have g5 : w1.cell? ⟨z, 5, none⟩ = some _ := hB.cell 5
  clear hB hbB hbC
  by_cases hlo : c1 < lo
  · obtain rfl : m = 25 := by rw [← HMM.out, if_pos rfl, if_pos (.inl hlo)]
    clear HMM
    go_wp2
    go_ret
    exact ⟨rfl, tt⟩
  by_cases hhi : hi < c1
  · obtain rfl : m = 25 := by rw [← HMM.out, if_pos rfl, if_pos (.inr hhi)]
    clear HMM
    go_wp2
    go_ret
    exact ⟨rfl, tt⟩
  have HM2 := Lib.hid (show (if lf = true then (0 : Int) else 27) = m by
    have h9 := HMM.out
    rw [if_pos rfl, if_neg (show ¬ (c1 < lo ∨ hi < c1) by omega)] at h9
    exact h9)
  clear HMM
  go_wp2_with fail
  refine (HL.out w1 t1).mono ?_
  rintro _ w2 ⟨rfl, t2⟩
  clear HL q0 q2 g0 g1 g2 g3 g4 g5
  cases lf
  · obtain rfl : m = 27 := by rw [← HM2.out]; rfl
    go_wp2
    go_ret
    exact ⟨rfl, tt.trans t2⟩
  · obtain rfl : m = 0 := by rw [← HM2.out]; rfl
    go_wp2
    go_ret
    exact ⟨rfl, tt.trans t2⟩

set_option maxRecDepth 100000 in
set_option maxHeartbeats 12800000 in
theorem refrec_any (h : BksAt w e a s r l n b us) (hn : b.accs.length ≤ 100000) (hul : us.length ≤ 60) (hll : ∀ p ∈ us, p.1.lines.length ≤ 100) (h64 : ∀ p ∈ posts b.entries, I64 p.2.2.2.2) (c1 c2 c3 c4 c5 c6 : Int) :
    Calls Tryz.prog 10 #[.agg #[e, a, s, r, l, n], .agg #[.int .i64 c1, .int .i64 c2, .int .i64 c3, .int .i64 c4, .int .i64 c5, .int .i64 c6]] w (RecOk b (c1, c2, c3, c4, c5, c6) w) := by
  have ta := Tch.alloc (fun _ => False) w (.cells #[e, a, s, r, l, n] 29)
  have tb := Tch.alloc (fun _ => False) (w.alloc (.cells #[e, a, s, r, l, n] 29)) (.cells #[.int .i64 c1, .int .i64 c2, .int .i64 c3, .int .i64 c4, .int .i64 c5, .int .i64 c6] 31)
  have tc := Tch.alloc (fun _ => False) ((w.alloc (.cells #[e, a, s, r, l, n] 29)).alloc (.cells #[.int .i64 c1, .int .i64 c2, .int .i64 c3, .int .i64 c4, .int .i64 c5, .int .i64 c6] 31)) (.cells #[.int .i64 0, .int .i64 0, .slice none 0 0, .slice none 0 0, .int .i64 0, .int .i64 0, .int .i64 0, .int .i64 0, .int .i64 0, .int .i64 0, .bool false, .int .i64 0, .int .i64 0, .bool false] 50)
  have td := Tch.alloc (fun _ => False) (((w.alloc (.cells #[e, a, s, r, l, n] 29)).alloc (.cells #[.int .i64 c1, .int .i64 c2, .int .i64 c3, .int .i64 c4, .int .i64 c5, .int .i64 c6] 31)).alloc (.cells #[.int .i64 0, .int .i64 0, .slice none 0 0, .slice none 0 0, .int .i64 0, .int .i64 0, .int .i64 0, .int .i64 0, .int .i64 0, .int .i64 0, .bool false, .int .i64 0, .int .i64 0, .bool false] 50)) (.cells #[.int .i64 0, .int .i64 0, .slice none 0 0, .slice none 0 0, .int .i64 0, .int .i64 0, .int .i64 0, .int .i64 0, .int .i64 0, .int .i64 0, .bool false, .int .i64 0, .int .i64 0, .bool false] 50)
  have tw := ((ta.trans tb).trans tc).trans td
  have hbB := (((Blk.new w 29 #[e, a, s, r, l, n]).keep tb id).keep tc id).keep td id
  have hbC := ((Blk.new2 w (.cells #[e, a, s, r, l, n] 29) 31 #[.int .i64 c1, .int .i64 c2, .int .i64 c3, .int .i64 c4, .int .i64 c5, .int .i64 c6]).keep tc id).keep td id
  have hbR := (Blk.new ((w.alloc (.cells #[e, a, s, r, l, n] 29)).alloc (.cells #[.int .i64 c1, .int .i64 c2, .int .i64 c3, .int .i64 c4, .int .i64 c5, .int .i64 c6] 31)) 50 #[.int .i64 0, .int .i64 0, .slice none 0 0, .slice none 0 0, .int .i64 0, .int .i64 0, .int .i64 0, .int .i64 0, .int .i64 0, .int .i64 0, .bool false, .int .i64 0, .int .i64 0, .bool false]).keep td id
  have hbN := Blk.new (((w.alloc (.cells #[e, a, s, r, l, n] 29)).alloc (.cells #[.int .i64 c1, .int .i64 c2, .int .i64 c3, .int .i64 c4, .int .i64 c5, .int .i64 c6] 31)).alloc (.cells #[.int .i64 0, .int .i64 0, .slice none 0 0, .slice none 0 0, .int .i64 0, .int .i64 0, .int .i64 0, .int .i64 0, .int .i64 0, .int .i64 0, .bool false, .int .i64 0, .int .i64 0, .bool false] 50)) 50 #[.int .i64 0, .int .i64 0, .slice none 0 0, .slice none 0 0, .int .i64 0, .int .i64 0, .int .i64 0, .int .i64 0, .int .i64 0, .int .i64 0, .bool false, .int .i64 0, .int .i64 0, .bool false]
  rw [show ((w.alloc (.cells #[e, a, s, r, l, n] 29)).alloc (.cells #[.int .i64 c1, .int .i64 c2, .int .i64 c3, .int .i64 c4, .int .i64 c5, .int .i64 c6] 31)).heap.size = w.heap.size + 2 by simp] at hbR
  rw [show (((w.alloc (.cells #[e, a, s, r, l, n] 29)).alloc (.cells #[.int .i64 c1, .int .i64 c2, .int .i64 c3, .int .i64 c4, .int .i64 c5, .int .i64 c6] 31)).alloc (.cells #[.int .i64 0, .int .i64 0, .slice none 0 0, .slice none 0 0, .int .i64 0, .int .i64 0, .int .i64 0, .int .i64 0, .int .i64 0, .int .i64 0, .bool false, .int .i64 0, .int .i64 0, .bool false] 50)).heap.size = w.heap.size + 3 by simp] at hbN
  have hsz : ((((w.alloc (.cells #[e, a, s, r, l, n] 29)).alloc (.cells #[.int .i64 c1, .int .i64 c2, .int .i64 c3, .int .i64 c4, .int .i64 c5, .int .i64 c6] 31)).alloc (.cells #[.int .i64 0, .int .i64 0, .slice none 0 0, .slice none 0 0, .int .i64 0, .int .i64 0, .int .i64 0, .int .i64 0, .int .i64 0, .int .i64 0, .bool false, .int .i64 0, .int .i64 0, .bool false] 50)).alloc (.cells #[.int .i64 0, .int .i64 0, .slice none 0 0, .slice none 0 0, .int .i64 0, .int .i64 0, .int .i64 0, .int .i64 0, .int .i64 0, .int .i64 0, .bool false, .int .i64 0, .int .i64 0, .bool false] 50)).heap.size = w.heap.size + 4 := by simp
  have hW := h.keep tw
  have HM := Lib.hid (refmay31_any hW hn (c1, c2, c3, c4, c5, c6) 1 2)
  unfold cellV at HM
  simp only at HM
  have HL : Hid (localOf b (c1, c2, c3, c4, c5, c6) = if mayOf b (c1, c2, c3, c4, c5, c6) 1 2 = 0 then (if c1 = 1 then { Rcp.none with base := localBase b (c1, c2, c3, c4, c5, c6) } else { Rcp.none with plus := localPlus (c1, c2, c3, c4, c5, c6) }, 0) else (Rcp.none, mayOf b (c1, c2, c3, c4, c5, c6) 1 2)) := Lib.hid rfl
  have HCU := Lib.hid (fun h => may_cur (b := b) (c := (c1, c2, c3, c4, c5, c6)) h)
  have HPR := Lib.hid (fun h => may_period (b := b) (c := (c1, c2, c3, c4, c5, c6)) h)
  generalize mayOf b (c1, c2, c3, c4, c5, c6) 1 2 = m at *
  have HW := Lib.hid hW
  obtain ⟨Ae, ce, rfl, _, _⟩ := h.ents.form
  obtain ⟨Aa, ca, rfl, _, _⟩ := h.accs.form
  obtain ⟨As, cs, rfl, _, _⟩ := h.stakes.form
  obtain ⟨Ar, cr, rfl, _, _⟩ := h.rates.form
  obtain ⟨Al, cl, rfl, _, _⟩ := h.locks.form
  obtain ⟨An, cn, rfl, _, _⟩ := h.ent.row.form
  clear ta tb tc td h hW
  go_enter Tryz.func10, Tryz.ntmps10
  go_wp2_with fail
  generalize (((w.alloc (.cells #[.slice Ae b.ents.length ce, .slice Aa b.accs.length ca, .slice As b.stakes.length cs, .slice Ar b.rates.length cr, .slice Al b.locks.length cl, .slice An us.length cn] 29)).alloc (.cells #[.int .i64 c1, .int .i64 c2, .int .i64 c3, .int .i64 c4, .int .i64 c5, .int .i64 c6] 31)).alloc (.cells #[.int .i64 0, .int .i64 0, .slice none 0 0, .slice none 0 0, .int .i64 0, .int .i64 0, .int .i64 0, .int .i64 0, .int .i64 0, .int .i64 0, .bool false, .int .i64 0, .int .i64 0, .bool false] 50)).alloc (.cells #[.int .i64 0, .int .i64 0, .slice none 0 0, .slice none 0 0, .int .i64 0, .int .i64 0, .int .i64 0, .int .i64 0, .int .i64 0, .int .i64 0, .bool false, .int .i64 0, .int .i64 0, .bool false] 50) = W at *
  generalize hzw : w.heap.size = z at *
  have HZW := Lib.hid hzw
  clear hzw
  refine HM.out.mono ?_
  rintro _ w1 ⟨rfl, t1⟩
  clear HM
  have b1 := hbC.keep t1 id
  have r1 := hbR.keep t1 id
  have n1 := hbN.keep t1 id
  have k1 := hbB.keep t1 id
  have h1 := HW.out.keep t1
  have tW := tw.trans t1
  have s1 : z + 4 ≤ w1.heap.size := by have := t1.size; omega
  clear hbC hbR hbN hbB HW tw t1 hsz
  by_cases hm : m = 0
  rotate_left
  · have hm' : (m != 0) = true := by simpa using hm
    have HLN := Lib.hid (show localOf b (c1, c2, c3, c4, c5, c6) = (Rcp.none, m) by rw [HL.out, if_neg hm])
    clear hm
    go_wp2_with (refine wpList_load_row rfl _ _ rfl (z + 3) (by rfl) 50 #[.int .i64 0, .int .i64 0, .slice none 0 0, .slice none 0 0, .int .i64 0, .int .i64 0, .int .i64 0, .int .i64 0, .int .i64 0, .int .i64 0, .bool false, .int .i64 0, .int .i64 0, .bool false] (0, 0) _ n1 Tryz.underlying50 rfl (by kernel_rfl) ?_; refine Hid.out ?_)
    refine Lib.hid ?_
    go_wp2_with (refine wpList_store_blk rfl _ _ _ rfl (z + 2) #[.int .i64 0, .int .i64 0, .slice none 0 0, .slice none 0 0, .int .i64 0, .int .i64 0, .int .i64 0, .int .i64 0, .int .i64 0, .int .i64 0, .bool false, .int .i64 0, .int .i64 0, .bool false] (by rfl) (by rfl) r1 (by kernel_rfl) rfl (by simp [Value.oneCell']) ?_; refine Hid.out ?_)
    refine Lib.hid ?_
    intro w9 hF tF
    have HBF := Lib.hid hF
    have HTF := Lib.hid tF
    clear hF tF
    go_wp2
    (try simp only [Exit.inBlock, Exit.then])
    (try rw [Exit.noGoto_ret])
    refine bodyPost_ret (results_row_tmp (P := Tryz.prog) rfl _ _ (z + 2) 50 _ (0, 0) _ rfl HBF.out Tryz.underlying50 rfl (by kernel_rfl)) rfl ?_
    unfold RecOk
    rw [HLN.out]
    exact ⟨_, rfl, ⟨_, _, rfl, Row.nil _ _ _, Row.nil _ _ _⟩, tW.trans' (F' := fun g => g = z + 2) HTF.out (fun i hi => .inr (by have hi : i = z + 2 := hi; have := HZW.out; omega))⟩
  subst hm
  obtain ⟨hr, hc5⟩ := HCU.out rfl
  (try simp only at hr hc5)
  subst hc5
  obtain ⟨hp0, hp1⟩ := HPR.out rfl
  (try simp only at hp0 hp1)
  clear HCU HPR
  have HLL := Lib.hid (show localOf b (c1, c2, c3, c4, 0, c6) = (if c1 = 1 then { Rcp.none with base := localBase b (c1, c2, c3, c4, 0, c6) } else { Rcp.none with plus := localPlus (c1, c2, c3, c4, 0, c6) }, 0) by rw [HL.out, if_pos rfl])
  clear HL
  have q0 : w1.cell? ⟨z + 1, 0, none⟩ = some (.int .i64 c1) := b1.cell 0
  rcases hr with rfl | rfl
  · have hE := h1.map
    have HT := Lib.hid (reftotal_any h1.ent hul hll (by rw [hE]; exact h64) c2 c3 c4 c6)
    have HLB := Lib.hid (show localOf b (1, c2, c3, c4, 0, c6) = ({ Rcp.none with base := told2 (amtsAt (posts b.entries) (c2, c3, c4) c6).sum }, 0) from HLL.out.trans rfl)
    rw [hE] at HT
    clear HLL hE
    have HTO := Lib.hid (show (if (told2 (amtsAt (posts b.entries) (c2, c3, c4) c6).sum).2 = 0 then (told2 (amtsAt (posts b.entries) (c2, c3, c4) c6).sum).1 else 0) = (told2 (amtsAt (posts b.entries) (c2, c3, c4) c6).sum).1 by unfold told2; split <;> rfl)
    generalize told2 (amtsAt (posts b.entries) (c2, c3, c4) c6).sum = R at *
    obtain ⟨R1, R2⟩ := R
    simp only at HT HTO
    have g5 : w1.cell? ⟨z, 5, none⟩ = some (.slice An us.length cn) := k1.cell 5
    have q1 : w1.cell? ⟨z + 1, 1, none⟩ = some (.int .i64 c2) := b1.cell 1
    have q2 : w1.cell? ⟨z + 1, 2, none⟩ = some (.int .i64 c3) := b1.cell 2
    have q3 : w1.cell? ⟨z + 1, 3, none⟩ = some (.int .i64 c4) := b1.cell 3
    have q5 : w1.cell? ⟨z + 1, 5, none⟩ = some (.int .i64 c6) := b1.cell 5
    go_wp2_with fail
    refine HT.out.mono ?_
    rintro _ w2 ⟨rfl, t2⟩
    clear HT g5 q0 q1 q2 q3 q5
    go_wp2_with fail
    refine (reftold_any R1 R2 w2).mono ?_
    rintro _ w3 ⟨rfl, t3⟩
    rw [HTO.out]
    have n3 := n1.keep (t2.trans t3) id
    have r3 := r1.keep (t2.trans t3) id
    have tW3 := tW.trans (t2.trans t3)
    clear n1 r1 b1 k1 h1 t2 t3 tW HTO
    go_wp2_with (refine wpList_store_two rfl _ _ _ rfl (z + 3) 0 (.int .i64 R1) (.int .i64 R2) (by rfl) (by rfl) rfl rfl (by rfl) n3 (by simp) ?_; refine Hid.out ?_)
    refine Lib.hid ?_
    intro w4 n4 ts4
    (try simp only [List.setIfInBounds_toArray, List.set_cons_succ, List.set_cons_zero] at n4)
    have r4 := r3.keep ts4 (by omega)
    have t4 := tW3.trans' ts4 (fun i hi => .inr (by have hi : i = z + 3 := hi; have := HZW.out; omega))
    clear n3 r3 ts4 tW3
    go_wp2_with (refine wpList_load_row rfl _ _ rfl (z + 3) (by rfl) 50 #[.int .i64 R1, .int .i64 R2, .slice none 0 0, .slice none 0 0, .int .i64 0, .int .i64 0, .int .i64 0, .int .i64 0, .int .i64 0, .int .i64 0, .bool false, .int .i64 0, .int .i64 0, .bool false] (0, 0) _ n4 Tryz.underlying50 rfl (by kernel_rfl) ?_; refine Hid.out ?_)
    refine Lib.hid ?_
    go_wp2_with (refine wpList_store_blk rfl _ _ _ rfl (z + 2) #[.int .i64 R1, .int .i64 R2, .slice none 0 0, .slice none 0 0, .int .i64 0, .int .i64 0, .int .i64 0, .int .i64 0, .int .i64 0, .int .i64 0, .bool false, .int .i64 0, .int .i64 0, .bool false] (by rfl) (by rfl) r4 (by kernel_rfl) rfl (by simp [Value.oneCell']) ?_; refine Hid.out ?_)
    refine Lib.hid ?_
    intro w9 hF tF
    have HBF := Lib.hid hF
    have HTF := Lib.hid tF
    clear hF tF
    go_wp2
    (try simp only [Exit.inBlock, Exit.then])
    (try rw [Exit.noGoto_ret])
    refine bodyPost_ret (results_row_tmp (P := Tryz.prog) rfl _ _ (z + 2) 50 _ (0, 0) _ rfl HBF.out Tryz.underlying50 rfl (by kernel_rfl)) rfl ?_
    unfold RecOk
    rw [HLB.out]
    exact ⟨_, rfl, ⟨_, _, rfl, Row.nil _ _ _, Row.nil _ _ _⟩, t4.trans' (F' := fun g => g = z + 2) HTF.out (fun i hi => .inr (by have hi : i = z + 2 := hi; have := HZW.out; omega))⟩
  · have HL2 := Lib.hid (show localOf b (2, c2, c3, c4, 0, c6) = ({ Rcp.none with plus := localPlus (2, c2, c3, c4, 0, c6) }, 0) by rw [HLL.out, if_neg (by decide)])
    clear HLL h64 hul hll hn h1 k1
    have own1 := World.ownsRow_nil w1 0 31 6
    have ob1 : ∀ g, (Value.slice none 0 0).ownBlock = some g → z + 4 ≤ g := fun g9 hg9 => by cases hg9
    have q3 : w1.cell? ⟨z + 1, 3, none⟩ = some (.int .i64 c4) := b1.cell 3
    by_cases hpos : 0 < c4
    · have HPL := Lib.hid (show localPlus (2, c2, c3, c4, 0, c6) = [(2, c2, c3, c4 - 1, 0, c6), (1, c2, c3, c4, 0, c6)] by simp [localPlus, hpos])
      have p2 : w1.cell? ⟨z + 3, 2, none⟩ = some (.slice none 0 0) := n1.cell 2
      have e1 : w1.cell? ⟨z + 1, 1, none⟩ = some (.int .i64 c2) := b1.cell 1
      have e2 : w1.cell? ⟨z + 1, 2, none⟩ = some (.int .i64 c3) := b1.cell 2
      have e3 : w1.cell? ⟨z + 1, 3, none⟩ = some (.int .i64 c4) := b1.cell 3
      have e5 : w1.cell? ⟨z + 1, 5, none⟩ = some (.int .i64 c6) := b1.cell 5
      go_wp2_with (at_builtin; refine Hid.out ?_)
      refine Lib.hid ?_
      have bG := Blk.new w1 31 #[.int .i64 2, .int .i64 c2, .int .i64 c3, .int .i64 (c4 - 1), .int .i64 0, .int .i64 c6]
      refine wpList_append _ rfl _ _ 40 rfl rowCells (own1.alloc _) (by rfl) (Go.Gk.Src.one (news := int6 (2, c2, c3, (c4 - 1), 0, c6)) rfl (fun m9 u9 hu9 => by rw [bG.cell m9]; simpa [int6] using hu9)) (by rfl) (one6 _) (by unfold maxLen; simp) (by simp) ?_
      intro v4 x4 ho4 hg4 hl4
      obtain ⟨O4, k4, rfl, _, _⟩ := own_form ho4
      have ta4 := Tch.alloc (fun _ => False) w1 (.cells #[.int .i64 2, .int .i64 c2, .int .i64 c3, .int .i64 (c4 - 1), .int .i64 0, .int .i64 c6] 31)
      have hs4a := ta4.size
      have tg4 : Tch (fun g => z + 4 ≤ g) (w1.alloc (.cells #[.int .i64 2, .int .i64 c2, .int .i64 c3, .int .i64 (c4 - 1), .int .i64 0, .int .i64 c6] 31)) x4 := Tch.grown hg4 fun k9 hk9 => .inl (ob1 k9 hk9)
      have nn4 : Blk x4 (z + 3) 50 _ := (n1.keep ta4 id).keep tg4 (by omega)
      have rr4 : Blk x4 (z + 2) 50 _ := (r1.keep ta4 id).keep tg4 (by omega)
      have bb4 : Blk x4 (z + 1) 31 _ := (b1.keep ta4 id).keep tg4 (by omega)
      have tt4 := (tW.trans ta4).trans' tg4 (fun i hi => .inr (by have hi : z + 4 ≤ i := hi; have := HZW.out; omega))
      have hh4 : z + 4 ≤ x4.heap.size := by have := tg4.size; omega
      have ob4 : ∀ g, (Value.slice O4 (0 + 1) k4).ownBlock = some g → z + 4 ≤ g := fun g9 hg9 => by
        rcases hl4 g9 hg9 with h9 | h9
        · exact ob1 g9 h9
        · omega
      clear hg4 hl4 tg4 ta4 hs4a p2 e1 e2 e3 e5 bG own1 n1 r1 tW b1
      go_step
      go_step
      go_step
      refine wpList_store_cell rfl _ _ _ rfl (z + 3) 2 (.slice O4 (0 + 1) k4) (by rfl) (by rfl) rfl (by rfl) nn4 (by simp) ?_
      intro w4 n4 ts4
      simp only [List.setIfInBounds_toArray, List.set_cons_succ, List.set_cons_zero] at n4
      have own4 := ts4.own ho4 (fun g9 hg9 he9 => by have he9 : g9 = z + 3 := he9; have := ob4 g9 hg9; omega)
      have r4 := rr4.keep ts4 (by omega)
      have b4 := bb4.keep ts4 (by omega)
      have t4 := tt4.trans' ts4 (fun i hi => .inr (by have hi : i = z + 3 := hi; have := HZW.out; omega))
      have s4 : z + 4 ≤ w4.heap.size := by have := ts4.size; omega
      clear nn4 rr4 bb4 tt4 ho4 ts4 hh4
      clear q3 q0
      have p2 : w4.cell? ⟨z + 3, 2, none⟩ = some (.slice O4 (0 + 1) k4) := n4.cell 2
      have e1 : w4.cell? ⟨z + 1, 1, none⟩ = some (.int .i64 c2) := b4.cell 1
      have e2 : w4.cell? ⟨z + 1, 2, none⟩ = some (.int .i64 c3) := b4.cell 2
      have e3 : w4.cell? ⟨z + 1, 3, none⟩ = some (.int .i64 c4) := b4.cell 3
      have e5 : w4.cell? ⟨z + 1, 5, none⟩ = some (.int .i64 c6) := b4.cell 5
      go_wp2_with (at_builtin; refine Hid.out ?_)
      refine Lib.hid ?_
      have bG := Blk.new w4 31 #[.int .i64 1, .int .i64 c2, .int .i64 c3, .int .i64 c4, .int .i64 0, .int .i64 c6]
      refine wpList_append _ rfl _ _ 40 rfl rowCells (own4.alloc _) (by rfl) (Go.Gk.Src.one (news := int6 (1, c2, c3, c4, 0, c6)) rfl (fun m9 u9 hu9 => by rw [bG.cell m9]; simpa [int6] using hu9)) (by rfl) (one6 _) (by unfold maxLen; simp) (by simp) ?_
      intro v5 x5 ho5 hg5 hl5
      obtain ⟨O5, k5, rfl, _, _⟩ := own_form ho5
      have ta5 := Tch.alloc (fun _ => False) w4 (.cells #[.int .i64 1, .int .i64 c2, .int .i64 c3, .int .i64 c4, .int .i64 0, .int .i64 c6] 31)
      have hs5a := ta5.size
      have tg5 : Tch (fun g => z + 4 ≤ g) (w4.alloc (.cells #[.int .i64 1, .int .i64 c2, .int .i64 c3, .int .i64 c4, .int .i64 0, .int .i64 c6] 31)) x5 := Tch.grown hg5 fun k9 hk9 => .inl (ob4 k9 hk9)
      have nn5 : Blk x5 (z + 3) 50 _ := (n4.keep ta5 id).keep tg5 (by omega)
      have rr5 : Blk x5 (z + 2) 50 _ := (r4.keep ta5 id).keep tg5 (by omega)
      have bb5 : Blk x5 (z + 1) 31 _ := (b4.keep ta5 id).keep tg5 (by omega)
      have tt5 := (t4.trans ta5).trans' tg5 (fun i hi => .inr (by have hi : z + 4 ≤ i := hi; have := HZW.out; omega))
      have hh5 : z + 4 ≤ x5.heap.size := by have := tg5.size; omega
      have ob5 : ∀ g, (Value.slice O5 ((0 + 1) + 1) k5).ownBlock = some g → z + 4 ≤ g := fun g9 hg9 => by
        rcases hl5 g9 hg9 with h9 | h9
        · exact ob4 g9 h9
        · omega
      clear hg5 hl5 tg5 ta5 hs5a p2 e1 e2 e3 e5 bG own4 n4 r4 t4 b4
      go_step
      go_step
      go_step
      refine wpList_store_cell rfl _ _ _ rfl (z + 3) 2 (.slice O5 ((0 + 1) + 1) k5) (by rfl) (by rfl) rfl (by rfl) nn5 (by simp) ?_
      intro w5 n5 ts5
      simp only [List.setIfInBounds_toArray, List.set_cons_succ, List.set_cons_zero] at n5
      have own5 := ts5.own ho5 (fun g9 hg9 he9 => by have he9 : g9 = z + 3 := he9; have := ob5 g9 hg9; omega)
      have r5 := rr5.keep ts5 (by omega)
      have b5 := bb5.keep ts5 (by omega)
      have t5 := tt5.trans' ts5 (fun i hi => .inr (by have hi : i = z + 3 := hi; have := HZW.out; omega))
      have s5 : z + 4 ≤ w5.heap.size := by have := ts5.size; omega
      clear nn5 rr5 bb5 tt5 ho5 ts5 hh5
      go_wp2_with (refine wpList_load_row rfl _ _ rfl (z + 3) (by rfl) 50 #[.int .i64 0, .int .i64 0, .slice O5 ((0 + 1) + 1) k5, .slice none 0 0, .int .i64 0, .int .i64 0, .int .i64 0, .int .i64 0, .int .i64 0, .int .i64 0, .bool false, .int .i64 0, .int .i64 0, .bool false] (0, 0) _ n5 Tryz.underlying50 rfl (by kernel_rfl) ?_; refine Hid.out ?_)
      refine Lib.hid ?_
      go_wp2_with (refine wpList_store_blk rfl _ _ _ rfl (z + 2) #[.int .i64 0, .int .i64 0, .slice O5 ((0 + 1) + 1) k5, .slice none 0 0, .int .i64 0, .int .i64 0, .int .i64 0, .int .i64 0, .int .i64 0, .int .i64 0, .bool false, .int .i64 0, .int .i64 0, .bool false] (by rfl) (by rfl) r5 (by kernel_rfl) rfl (by simp [Value.oneCell']) ?_; refine Hid.out ?_)
      refine Lib.hid ?_
      intro w9 hF tF
      have HBF := Lib.hid hF
      have HTF := Lib.hid tF
      clear hF tF
      go_wp2
      (try simp only [Exit.inBlock, Exit.then])
      (try rw [Exit.noGoto_ret])
      refine bodyPost_ret (results_row_tmp (P := Tryz.prog) rfl _ _ (z + 2) 50 _ (0, 0) _ rfl HBF.out Tryz.underlying50 rfl (by kernel_rfl)) rfl ?_
      unfold RecOk
      rw [HL2.out]
      refine ⟨_, rfl, ⟨_, _, rfl, ?_, Row.nil _ _ _⟩, t5.trans' HTF.out (fun i hi => .inr (by have hi : i = z + 2 := hi; have := HZW.out; omega))⟩
      simp only
      rw [HPL.out]
      exact Row.own ((HTF.out).own own5 (fun g hg he => by have he : g = z + 2 := he; have := ob5 g hg; omega)) (fun _ _ => trivial)
    · obtain rfl : c4 = 0 := by omega
      have HPL := Lib.hid (show localPlus (2, c2, c3, 0, 0, c6) = [(1, c2, c3, 0, 0, c6)] by simp [localPlus])
      have p2 : w1.cell? ⟨z + 3, 2, none⟩ = some (.slice none 0 0) := n1.cell 2
      have e1 : w1.cell? ⟨z + 1, 1, none⟩ = some (.int .i64 c2) := b1.cell 1
      have e2 : w1.cell? ⟨z + 1, 2, none⟩ = some (.int .i64 c3) := b1.cell 2
      have e3 : w1.cell? ⟨z + 1, 3, none⟩ = some (.int .i64 0) := b1.cell 3
      have e5 : w1.cell? ⟨z + 1, 5, none⟩ = some (.int .i64 c6) := b1.cell 5
      go_wp2_with (at_builtin; refine Hid.out ?_)
      refine Lib.hid ?_
      have bG := Blk.new w1 31 #[.int .i64 1, .int .i64 c2, .int .i64 c3, .int .i64 0, .int .i64 0, .int .i64 c6]
      refine wpList_append _ rfl _ _ 40 rfl rowCells (own1.alloc _) (by rfl) (Go.Gk.Src.one (news := int6 (1, c2, c3, 0, 0, c6)) rfl (fun m9 u9 hu9 => by rw [bG.cell m9]; simpa [int6] using hu9)) (by rfl) (one6 _) (by unfold maxLen; simp) (by simp) ?_
      intro v5 x5 ho5 hg5 hl5
      obtain ⟨O5, k5, rfl, _, _⟩ := own_form ho5
      have ta5 := Tch.alloc (fun _ => False) w1 (.cells #[.int .i64 1, .int .i64 c2, .int .i64 c3, .int .i64 0, .int .i64 0, .int .i64 c6] 31)
      have hs5a := ta5.size
      have tg5 : Tch (fun g => z + 4 ≤ g) (w1.alloc (.cells #[.int .i64 1, .int .i64 c2, .int .i64 c3, .int .i64 0, .int .i64 0, .int .i64 c6] 31)) x5 := Tch.grown hg5 fun k9 hk9 => .inl (ob1 k9 hk9)
      have nn5 : Blk x5 (z + 3) 50 _ := (n1.keep ta5 id).keep tg5 (by omega)
      have rr5 : Blk x5 (z + 2) 50 _ := (r1.keep ta5 id).keep tg5 (by omega)
      have bb5 : Blk x5 (z + 1) 31 _ := (b1.keep ta5 id).keep tg5 (by omega)
      have tt5 := (tW.trans ta5).trans' tg5 (fun i hi => .inr (by have hi : z + 4 ≤ i := hi; have := HZW.out; omega))
      have hh5 : z + 4 ≤ x5.heap.size := by have := tg5.size; omega
      have ob5 : ∀ g, (Value.slice O5 (0 + 1) k5).ownBlock = some g → z + 4 ≤ g := fun g9 hg9 => by
        rcases hl5 g9 hg9 with h9 | h9
        · exact ob1 g9 h9
        · omega
      clear hg5 hl5 tg5 ta5 hs5a p2 e1 e2 e3 e5 bG own1 n1 r1 tW b1
      go_step
      go_step
      go_step
      refine wpList_store_cell rfl _ _ _ rfl (z + 3) 2 (.slice O5 (0 + 1) k5) (by rfl) (by rfl) rfl (by rfl) nn5 (by simp) ?_
      intro w5 n5 ts5
      simp only [List.setIfInBounds_toArray, List.set_cons_succ, List.set_cons_zero] at n5
      have own5 := ts5.own ho5 (fun g9 hg9 he9 => by have he9 : g9 = z + 3 := he9; have := ob5 g9 hg9; omega)
      have r5 := rr5.keep ts5 (by omega)
      have b5 := bb5.keep ts5 (by omega)
      have t5 := tt5.trans' ts5 (fun i hi => .inr (by have hi : i = z + 3 := hi; have := HZW.out; omega))
      have s5 : z + 4 ≤ w5.heap.size := by have := ts5.size; omega
      clear nn5 rr5 bb5 tt5 ho5 ts5 hh5
      go_wp2_with (refine wpList_load_row rfl _ _ rfl (z + 3) (by rfl) 50 #[.int .i64 0, .int .i64 0, .slice O5 (0 + 1) k5, .slice none 0 0, .int .i64 0, .int .i64 0, .int .i64 0, .int .i64 0, .int .i64 0, .int .i64 0, .bool false, .int .i64 0, .int .i64 0, .bool false] (0, 0) _ n5 Tryz.underlying50 rfl (by kernel_rfl) ?_; refine Hid.out ?_)
      refine Lib.hid ?_
      go_wp2_with (refine wpList_store_blk rfl _ _ _ rfl (z + 2) #[.int .i64 0, .int .i64 0, .slice O5 (0 + 1) k5, .slice none 0 0, .int .i64 0, .int .i64 0, .int .i64 0, .int .i64 0, .int .i64 0, .int .i64 0, .bool false, .int .i64 0, .int .i64 0, .bool false] (by rfl) (by rfl) r5 (by kernel_rfl) rfl (by simp [Value.oneCell']) ?_; refine Hid.out ?_)
      refine Lib.hid ?_
      intro w9 hF tF
      have HBF := Lib.hid hF
      have HTF := Lib.hid tF
      clear hF tF
      go_wp2
      (try simp only [Exit.inBlock, Exit.then])
      (try rw [Exit.noGoto_ret])
      refine bodyPost_ret (results_row_tmp (P := Tryz.prog) rfl _ _ (z + 2) 50 _ (0, 0) _ rfl HBF.out Tryz.underlying50 rfl (by kernel_rfl)) rfl ?_
      unfold RecOk
      rw [HL2.out]
      refine ⟨_, rfl, ⟨_, _, rfl, ?_, Row.nil _ _ _⟩, t5.trans' HTF.out (fun i hi => .inr (by have hi : i = z + 2 := hi; have := HZW.out; omega))⟩
      simp only
      rw [HPL.out]
      exact Row.own ((HTF.out).own own5 (fun g hg he => by have he : g = z + 2 := he; have := ob5 g hg; omega)) (fun _ _ => trivial)
end
end Go.Proofs.YtejgepplfnfkfaaGreat
