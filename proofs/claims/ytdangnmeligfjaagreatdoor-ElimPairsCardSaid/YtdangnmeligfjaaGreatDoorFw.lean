/-
  Forests: where two meet.
-/
import Derived.Test.YtdangnmeligfjaaGreatDoorFv
namespace Go.Proofs.YtdangnmeligfjaaGreatDoor
open Go.RowKit Go.Gk Go.Gk.V33

section
variable {w : World} {g n : Nat} {l : List Stk4} {p : Nat}

theorem own_int1 {w : World} {y : Nat} {a : Int} (h : Blk w y 3 #[.int .i64 a]) : w.ownsRow 0 3 1 (.slice (some ⟨y, 0, none⟩) 1 1) 1 [.int .i64 a] :=
  ⟨rfl, .inr ⟨y, 1, #[.int .i64 a], rfl, Nat.zero_le _, h, Nat.le_refl _, by decide, rfl, rfl⟩⟩

set_option maxRecDepth 100000 in
set_option maxHeartbeats 3200000 in
theorem fmeet_any (h : Blk w g 160 (holdsCells l n p n).toArray) (h40 : n ≤ 40) (hok : stakesOK l n = true) (h400 : l.length ≤ 400) (hp : p < 24) (a b : Int) :
    Calls Tryz.prog 51 #[.pointer (some ⟨g, 0, none⟩), .int .i64 a, .int .i64 b] w fun e w' => e = .returned (.int .i64 (if (1 ≤ a ∧ a ≤ n) ∧ (1 ≤ b ∧ b ≤ n) then meetOf l p a b else 0)) ∧ Tch (fun _ => False) w w' := by
  have ta := Tch.alloc (fun _ => False) w (.cells #[.pointer (some ⟨g, 0, none⟩)] 78)
  have tb := Tch.alloc (fun _ => False) (w.alloc (.cells #[.pointer (some ⟨g, 0, none⟩)] 78)) (.cells #[.int .i64 b] 3)
  have tw := ta.trans tb
  have bF := (Blk.new w 78 #[.pointer (some ⟨g, 0, none⟩)]).keep tb id
  have bB := Blk.new2 w (.cells #[.pointer (some ⟨g, 0, none⟩)] 78) 3 #[.int .i64 b]
  have h2 := h.keep tw id
  have HIA := Lib.hid (fis_any h2 a)
  have HIB := Lib.hid (fis_any h2 b)
  clear ta tb h
  obtain ⟨R, hR⟩ : ∃ R, (if (1 ≤ a ∧ a ≤ (n : Int)) ∧ (1 ≤ b ∧ b ≤ (n : Int)) then meetOf l p a b else 0) = R := ⟨_, rfl⟩
  rw [hR]
  have HR := Lib.hid hR
  clear hR
  by_cases ha : 1 ≤ a ∧ a ≤ (n : Int)
  rotate_left
  · obtain rfl : R = 0 := by rw [← HR.out, if_neg (fun h => ha h.1)]
    rw [decide_eq_false ha] at HIA
    have HTW := Lib.hid tw
    clear HIB HR ha bF bB h2 tw
    go_enter Tryz.func51, Tryz.ntmps51
    go_wp2_with fail
    refine HIA.out.mono ?_
    rintro _ _ ⟨rfl, rfl⟩
    go_wp2
    go_ret
    exact ⟨rfl, HTW.out⟩
  by_cases hb : 1 ≤ b ∧ b ≤ (n : Int)
  rotate_left
  · obtain rfl : R = 0 := by rw [← HR.out, if_neg (fun h => hb h.2)]
    rw [decide_eq_true ha] at HIA
    rw [decide_eq_false hb] at HIB
    have HTW := Lib.hid tw
    clear HR ha hb h2 tw
    go_enter Tryz.func51, Tryz.ntmps51
    go_wp2_with fail
    refine HIA.out.mono ?_
    rintro _ _ ⟨rfl, rfl⟩
    go_wp2_with fail
    refine HIB.out.mono ?_
    rintro _ _ ⟨rfl, rfl⟩
    go_wp2
    go_ret
    exact ⟨rfl, HTW.out⟩
  rw [decide_eq_true ha] at HIA
  rw [decide_eq_true hb] at HIB
  have HR2 := Lib.hid (show ((a :: upsOf l p a).find? fun t => underOf l p t b).getD 0 = R by rw [← HR.out, if_pos ⟨ha, hb⟩]; rfl)
  have HUP := Lib.hid (fun w' (t : Tch (fun _ => False) _ w') => fup_any (h2.keep t id) h40 hok h400 hp ha)
  have HMC := Lib.hid (fun w' (t : Tch (fun _ => False) _ w') i => fmeetc_any (h2.keep t id) h40 hok h400 hp (t.cell_some (bF.cell 0) id) (t.cell_some (bB.cell 0) id) hb i)
  have HL := Lib.hid (ups_len l p a)
  clear HR ha hb h2
  go_enter Tryz.func51, Tryz.ntmps51
  go_wp2_with fail
  refine HIA.out.mono ?_
  rintro _ _ ⟨rfl, rfl⟩
  go_wp2_with fail
  refine HIB.out.mono ?_
  rintro _ _ ⟨rfl, rfl⟩
  clear HIA HIB
  have tY := Tch.alloc (fun _ => False) ((w.alloc (.cells #[.pointer (some ⟨g, 0, none⟩)] 78)).alloc (.cells #[.int .i64 b] 3)) (.cells #[.int .i64 a] 3)
  have bY : Blk (((w.alloc (.cells #[.pointer (some ⟨g, 0, none⟩)] 78)).alloc (.cells #[.int .i64 b] 3)).alloc (.cells #[.int .i64 a] 3)) (w.heap.size + 1 + 1) 3 #[.int .i64 a] := by simpa using Blk.new ((w.alloc (.cells #[.pointer (some ⟨g, 0, none⟩)] 78)).alloc (.cells #[.int .i64 b] 3)) 3 #[.int .i64 a]
  have bF2 := bF.keep tY id
  have f0 : (((w.alloc (.cells #[.pointer (some ⟨g, 0, none⟩)] 78)).alloc (.cells #[.int .i64 b] 3)).alloc (.cells #[.int .i64 a] 3)).cell? ⟨w.heap.size, 0, none⟩ = some (.pointer (some ⟨g, 0, none⟩)) := bF2.cell 0
  have HTY := Lib.hid tY
  have HTW := Lib.hid tw
  have HUP1 := Lib.hid (HUP.out _ tY)
  clear bF bB tw tY
  go_wp2_with fail
  refine HUP1.out.mono ?_
  rintro _ w1 ⟨u, rfl, hO⟩
  have bY1 := bY.keep hO.tch id
  have hrow := hO.row
  have T1 := (HTW.out.trans HTY.out).trans hO.tch
  have t01 := HTY.out.trans hO.tch
  obtain ⟨O, co, rfl, ho1, ho2⟩ := hO.form
  generalize upsOf l p a = U at *
  have hul : U.length ≤ 401 := by have := HL.out; omega
  have hown := own_int1 bY1
  clear HUP HUP1 f0 bF2 bY bY1 hO
  go_wp2_with (at_builtin; refine Hid.out ?_)
  refine Lib.hid ?_
  refine wpList_append _ rfl _ _ 22 rfl rowInts hown (by rfl) hrow.src (by rfl) (by intro u9 hu9; obtain ⟨x9, _, hx9⟩ := List.mem_flatMap.1 hu9; simp [int1] at hx9; subst hx9; rfl) (by unfold maxLen; omega) (by omega) ?_
  intro v2 w2 ho3 hg2 hl2
  have hrow2 : RowsOf int1 1 (fun _ => True) w2 v2 (a :: U) := by
    have h := Row.own (P := fun _ => True) ho3 (fun _ _ => trivial)
    have e9 : 1 + U.length = (a :: U).length := by simp [Nat.add_comm]
    unfold RowsOf
    rw [← e9]
    simpa [int1] using h
  have tg := Tch.grown (F := fun g => w.heap.size + 1 + 1 ≤ g) hg2 (fun k hk => .inl (by have hk : some (w.heap.size + 1 + 1) = some k := hk; injection hk with hk; omega))
  have T2 := T1.trans' tg (fun i hi => .inr (by have hi : w.heap.size + 1 + 1 ≤ i := hi; omega))
  have t02 := t01.trans' tg (fun i hi => .inr (by have hi : w.heap.size + 1 + 1 ≤ i := hi; simp; omega))
  have HIX := Lib.hid (findmeet_any (F := fun t => underOf l p t b) hrow2 (by simp; omega) (fun w' t9 i => HMC.out w' (t02.trans t9) i))
  have HR3 := Lib.hid (fun w' (t9 : Tch (fun _ => False) w2 w') => hrow2.keep t9)
  have hwl : (a :: U).length ≤ 402 := by simp; omega
  obtain ⟨V, cv, rfl, hv1, hv2⟩ := hrow2.form
  generalize hway : a :: U = way at *
  clear hg2 hl2 ho3 hrow hown T1 t01 t02 tg hrow2 hway HMC
  go_wp2_with fail
  refine HIX.out.mono ?_
  rintro _ w3 ⟨hix, t3⟩
  have T3 := T2.trans t3
  rcases hix with ⟨hno, rfl⟩ | ⟨j, hj, hfi, rfl⟩
  · obtain rfl : R = 0 := by rw [← HR2.out, hno]; rfl
    clear HIX HR2 hno
    go_wp2
    go_ret
    exact ⟨rfl, T3⟩
  · have hr := HR3.out w3 t3
    obtain ⟨g9, o9, rfl⟩ := hr.head (by omega)
    have q0 := Row.one hr int1_len hj rfl
    have hrj : R = way[j] := by rw [← HR2.out, hfi]; rfl
    have hj' : (j : Int) < (way.length : Int) := by omega
    have hj0 : (0 : Int) ≤ (j : Int) := Int.natCast_nonneg _
    have hj1 : ¬ (j : Int) < 0 := by omega
    generalize way[j] = x at *
    have HRX := Lib.hid hrj
    clear HIX HR2 hfi hr HR3 hrj
    go_wp2
    go_ret
    exact ⟨by rw [HRX.out]; rfl, T3⟩
end
end Go.Proofs.YtdangnmeligfjaaGreatDoor
