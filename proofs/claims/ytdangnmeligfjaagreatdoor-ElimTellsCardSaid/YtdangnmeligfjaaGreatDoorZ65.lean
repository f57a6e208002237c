/-
  Forests: those above, those under, where two meet.
-/
import Derived.Test.YtdangnmeligfjaaGreatDoorZ31
import Derived.Test.YtdangnmeligfjaaGreatDoorZ59
import Derived.Test.YtdangnmeligfjaaGreatDoorZ12
namespace Go.Gk.V33
open Go.RowKit
def lenV : Value → Nat
  | .slice _ n _ => n
  | _ => 0
end Go.Gk.V33
namespace Go.Proofs.YtdangnmeligfjaaGreatDoor
open Go.RowKit Go.Gk Go.Gk.V33

section
variable {w : World} {g n : Nat} {l : List Stk4} {p : Nat}

set_option maxRecDepth 100000 in
set_option maxHeartbeats 1600000 in
theorem fup_any (h : Blk w g 160 (holdsCells l n p n).toArray) (h40 : n ≤ 40) (hok : stakesOK l n = true) (h400 : l.length ≤ 400) (hp : p < 24) {x : Int} (hx : 1 ≤ x ∧ x ≤ n) :
    Calls Tryz.prog 96 #[.pointer (some ⟨g, 0, none⟩), .int .i64 x] w fun e w' => ∃ u, e = .returned u ∧ OutI w w' u (upsOf l p x) := by
  have HP := Lib.hid (fun w' (t : Tch (fun _ => False) w w') i (hi : 1 ≤ i ∧ i ≤ (n : Int)) => by have := fparent_any (h.keep t id) h40 i; rw [if_pos hi] at this; exact this)
  have HC := Lib.hid (fun (out : List Int) (y : Int) (hc : Chain (fun y => stkUp l y p) x out y) => chain_new hp hok hc)
  have HR := Lib.hid (fun y (hy : stkUp l y p ≠ 0) => up_range hok hy)
  have HP0 := Lib.hid (HP.out w (Tch.refl _ _) x hx)
  have HST := Lib.hid (Chain.start (f := fun y => stkUp l y p) (e := x))
  generalize hy0 : stkUp l x p = y0 at *
  have HY0 := Lib.hid hy0
  clear h hy0
  go_enter Tryz.func96, Tryz.ntmps96
  go_wp2_with fail
  refine HP0.out.mono ?_
  rintro _ _ ⟨rfl, rfl⟩
  clear HP0
  go_wp2_with fail
  go_loopw [5, 6] (fun o i wr => ∃ (xs : List Int) (y : Int), i = .int .i64 y ∧ Chain (fun y => stkUp l y p) x xs y ∧ OutI w wr o xs) (fun o _ _ => 1000 - lenV o)
  case atStart => exact ⟨[], y0, rfl, HST.out, Outs.start _ _ _ (Tch.refl _ _)⟩
  case round =>
    obtain ⟨xs, y, rfl, hc, hO⟩ := hrel
    obtain ⟨O, co, rfl, ho1, ho2⟩ := hO.form
    have hxl : xs.length ≤ 400 := Nat.le_trans (chain_len hc) h400
    have HCH := Lib.hid hc
    by_cases hy : y = 0
    · subst hy
      have HU := Lib.hid (ups_chain hc)
      clear hc
      go_wp2
      go_ret
      exact ⟨_, rfl, by rw [HU.out]; exact hO⟩
    · have hyb : (y != 0) = true := by simpa using hy
      have HN := Lib.hid (Chain.step hc hy (HC.out xs y hc))
      have HYR := Lib.hid (show 1 ≤ y ∧ y ≤ (n : Int) by
        obtain ⟨z, hz⟩ := hc.image.1
        rw [hz] at hy ⊢
        exact HR.out z hy)
      clear hc hy
      go_wp2_with ((at_builtin; refine wpList_append _ rfl _ _ 22 rfl rowInts (own_base (hO.own.alloc _)) (by rfl) (Go.Gk.Src.one (news := [.int .i64 (y)]) rfl (fun m9 u9 hu9 => by rw [(Blk.new (wr) 3 #[.int .i64 (y)]).cell m9]; simpa using hu9)) (by rfl) (by simp; rfl) (by unfold maxLen; omega) (by omega) ?_; intro v2 w2 ho2 hg2 hl2; have hO2 := hO.step (x := y) (Tch.alloc _ _ _) ho2 hg2 hl2; obtain ⟨O2, co2, rfl, _, _⟩ := own_form ho2))
      have HPY := Lib.hid (HP.out _ hO2.tch y HYR.out)
      generalize stkUp l y p = y2 at *
      refine HPY.out.mono ?_
      rintro _ _ ⟨rfl, rfl⟩
      clear HPY
      go_wp2
      go_roundw
      case rel => exact ⟨xs ++ [y], y2, rfl, HN.out, hO2⟩
      case measure => simp [lenV] <;> omega

set_option maxRecDepth 100000 in
set_option maxHeartbeats 800000 in
theorem funder_any (h : Blk w g 160 (holdsCells l n p n).toArray) (h40 : n ≤ 40) (hok : stakesOK l n = true) (h400 : l.length ≤ 400) (hp : p < 24) {x : Int} (hx : 1 ≤ x ∧ x ≤ n) (top : Int) :
    Calls Tryz.prog 99 #[.pointer (some ⟨g, 0, none⟩), .int .i64 top, .int .i64 x] w fun e w' => e = .returned (.bool (underOf l p top x)) ∧ Tch (fun _ => False) w w' := by
  have HU := Lib.hid (fup_any h h40 hok h400 hp hx)
  have HL := Lib.hid (ups_len l p x)
  have HD := Lib.hid (show underOf l p top x = (top == x || (upsOf l p x).contains top) from rfl)
  generalize underOf l p top x = R at *
  generalize upsOf l p x = U at *
  clear h
  by_cases he : top = x
  · have hb : (top == x) = true := by simpa using he
    obtain rfl : R = true := by rw [HD.out, hb]; rfl
    clear HU HD he
    go_enter Tryz.func99, Tryz.ntmps99
    go_wp2
    go_ret
    exact ⟨rfl, Tch.refl _ _⟩
  · have hb : (top == x) = false := by simpa using he
    have HD2 := Lib.hid (show R = U.contains top by rw [HD.out, hb]; rfl)
    clear HD he
    go_enter Tryz.func99, Tryz.ntmps99
    go_wp2_with fail
    refine HU.out.mono ?_
    rintro _ w1 ⟨u, rfl, hO⟩
    have HC := Lib.hid (contains_any hO.row (by have := HL.out; omega) top)
    rw [← HD2.out] at HC
    obtain ⟨O, co, rfl, _, _⟩ := hO.form
    have HT := Lib.hid hO.tch
    clear HU hO
    go_wp2_with fail
    refine HC.out.mono ?_
    rintro _ w2 ⟨rfl, t2⟩
    go_wp2
    go_ret
    exact ⟨rfl, HT.out.trans t2⟩

set_option maxRecDepth 100000 in
set_option maxHeartbeats 800000 in
theorem funderc_any (h : Blk w g 160 (holdsCells l n p n).toArray) (h40 : n ≤ 40) (hok : stakesOK l n = true) (h400 : l.length ≤ 400) (hp : p < 24) {z1 z2 : Nat} {top : Int} (h1 : w.cell? ⟨z1, 0, none⟩ = some (.pointer (some ⟨g, 0, none⟩))) (h2 : w.cell? ⟨z2, 0, none⟩ = some (.int .i64 top)) (i : Int) (hi : 1 ≤ i ∧ i ≤ n) :
    Calls Tryz.prog 101 #[.int .i64 i, .pointer (some ⟨z1, 0, none⟩), .pointer (some ⟨z2, 0, none⟩)] w fun e w' => e = .returned (.bool (underOf l p top i)) ∧ Tch (fun _ => False) w w' := by
  have HU := Lib.hid (funder_any h h40 hok h400 hp hi top)
  generalize underOf l p top i = R at *
  clear h
  go_enter Tryz.func101, Tryz.ntmps101
  go_wp2_with fail
  refine HU.out.mono ?_
  rintro _ w1 ⟨rfl, t1⟩
  go_wp2
  go_ret
  exact ⟨rfl, t1⟩

set_option maxRecDepth 100000 in
set_option maxHeartbeats 800000 in
theorem fmeetc_any (h : Blk w g 160 (holdsCells l n p n).toArray) (h40 : n ≤ 40) (hok : stakesOK l n = true) (h400 : l.length ≤ 400) (hp : p < 24) {z1 z2 : Nat} {b : Int} (h1 : w.cell? ⟨z1, 0, none⟩ = some (.pointer (some ⟨g, 0, none⟩))) (h2 : w.cell? ⟨z2, 0, none⟩ = some (.int .i64 b)) (hb : 1 ≤ b ∧ b ≤ n) (t : Int) :
    Calls Tryz.prog 98 #[.int .i64 t, .pointer (some ⟨z1, 0, none⟩), .pointer (some ⟨z2, 0, none⟩)] w fun e w' => e = .returned (.bool (underOf l p t b)) ∧ Tch (fun _ => False) w w' := by
  have HU := Lib.hid (funder_any h h40 hok h400 hp hb t)
  generalize underOf l p t b = R at *
  clear h
  go_enter Tryz.func98, Tryz.ntmps98
  go_wp2_with fail
  refine HU.out.mono ?_
  rintro _ w1 ⟨rfl, t1⟩
  go_wp2
  go_ret
  exact ⟨rfl, t1⟩

-- gathered by whether they stand under one
set_option maxRecDepth 100000 in
set_option maxHeartbeats 1600000 in
theorem fthoseu_any (h : Blk w g 160 (holdsCells l n p n).toArray) {z1 z2 : Nat} {F : Int → Bool} (HK0 : ∀ w' : World, Tch (fun _ => False) w w' → ∀ i : Int, 1 ≤ i ∧ i ≤ (n : Int) → Calls Tryz.prog 101 #[.int .i64 i, .pointer (some ⟨z1, 0, none⟩), .pointer (some ⟨z2, 0, none⟩)] w' fun e w'' => e = .returned (.bool (F i)) ∧ Tch (fun _ => False) w' w'') (h40 : n ≤ 40) :
    Calls Tryz.prog 100 #[.pointer (some ⟨g, 0, none⟩), .func (.func 101) #[] #[.pointer (some ⟨z1, 0, none⟩), .pointer (some ⟨z2, 0, none⟩)]] w fun e w' => ∃ u, e = .returned u ∧ OutI w w' u ((accIds n).filter F) := by
  have HI := Lib.hid (fun w' (t : Tch (fun _ => False) w w') i => fis_any (h.keep t id) i)
  have HK := Lib.hid HK0
  clear HK0 h
  go_enter Tryz.func100, Tryz.ntmps100
  go_wp2_with fail
  go_loopw [5, 6] (fun out i wr => ∃ (j : Nat) (xs : List Int), j ≤ n ∧ i = .int .i64 ((j : Int) + 1) ∧ (accIds j).filter F = xs ∧ OutI w wr out xs) (fun _ i _ => n + 1 - (intOf i).toNat)
  case atStart => exact ⟨0, [], Nat.zero_le _, rfl, rfl, Outs.start _ _ _ (Tch.refl _ _)⟩
  case round =>
    obtain ⟨j, xs, hj, rfl, hx, hO⟩ := hrel
    obtain ⟨O, co, rfl, ho1, ho2⟩ := hO.form
    have hxl : xs.length ≤ j := by
      rw [← hx]
      exact Nat.le_trans (List.length_filter_le _ _) (by rw [accIds_len]; omega)
    have HX := Lib.hid hx
    have hj0 : (0 : Int) ≤ (j : Int) := Int.natCast_nonneg _
    clear hx
    by_cases hlt : j < n
    · have hlt' : (j : Int) < (n : Int) := by omega
      have HI1 := Lib.hid (HI.out wr hO.tch ((j : Int) + 1))
      rw [decide_eq_true (show 1 ≤ (j : Int) + 1 ∧ (j : Int) + 1 ≤ n by omega)] at HI1
      have HK1 := Lib.hid (HK.out wr hO.tch ((j : Int) + 1) (by omega))
      have HS := Lib.hid (show (accIds (j + 1)).filter F = xs ++ (if F ((j : Int) + 1) then [(j : Int) + 1] else []) by rw [accIds_succ, filter_snoc, HX.out])
      generalize F ((j : Int) + 1) = f at *
      go_wp2_with fail
      refine HI1.out.mono ?_
      rintro _ _ ⟨rfl, rfl⟩
      clear HI1
      go_wp2_with fail
      refine HK1.out.mono ?_
      rintro _ w1 ⟨rfl, t1⟩
      clear HK1
      have hO := hO.keep t1
      cases f
      · have HS := Lib.hid (show (accIds (j + 1)).filter F = xs by rw [HS.out]; simp)
        go_wp2
        go_roundw
        case rel => exact ⟨j + 1, xs, by omega, by go_num, HS.out, hO⟩
        case measure => simp [intOf]; omega
      · go_wp2_with ((at_builtin; refine wpList_append _ rfl _ _ 22 rfl rowInts (own_base (hO.own.alloc _)) (by rfl) (Go.Gk.Src.one (news := [.int .i64 ((j : Int) + 1)]) rfl (fun m9 u9 hu9 => by rw [(Blk.new (w1) 3 #[.int .i64 ((j : Int) + 1)]).cell m9]; simpa using hu9)) (by rfl) (by simp; rfl) (by unfold maxLen; omega) (by omega) ?_; intro v2 w2 ho2 hg2 hl2; have hO2 := hO.step (x := (j : Int) + 1) (Tch.alloc _ _ _) ho2 hg2 hl2; obtain ⟨O2, co2, rfl, _, _⟩ := own_form ho2))
        go_roundw
        case rel => exact ⟨j + 1, _, by omega, by go_num, HS.out, hO2⟩
        case measure => simp [intOf]; omega
    · obtain rfl : n = j := by omega
      have HI1 := Lib.hid (HI.out wr hO.tch ((n : Int) + 1))
      rw [decide_eq_false (show ¬ (1 ≤ (n : Int) + 1 ∧ (n : Int) + 1 ≤ n) by omega)] at HI1
      have e := HX.out
      subst e
      go_wp2_with fail
      refine HI1.out.mono ?_
      rintro _ _ ⟨rfl, rfl⟩
      go_wp2
      go_ret
      exact ⟨_, rfl, hO⟩

set_option maxRecDepth 100000 in
set_option maxHeartbeats 800000 in
theorem fUnder_any (h : Blk w g 160 (holdsCells l n p n).toArray) (h40 : n ≤ 40) (hok : stakesOK l n = true) (h400 : l.length ≤ 400) (hp : p < 24) {x : Int} (hx : 1 ≤ x ∧ x ≤ n) :
    Calls Tryz.prog 52 #[.pointer (some ⟨g, 0, none⟩), .int .i64 x] w fun e w' => ∃ u, e = .returned u ∧ OutI w w' u ((accIds n).filter (underOf l p x)) := by
  have ta := Tch.alloc (fun _ => False) w (.cells #[.pointer (some ⟨g, 0, none⟩)] 78)
  have tb := Tch.alloc (fun _ => False) (w.alloc (.cells #[.pointer (some ⟨g, 0, none⟩)] 78)) (.cells #[.int .i64 x] 3)
  have tw := ta.trans tb
  have bF := (Blk.new w 78 #[.pointer (some ⟨g, 0, none⟩)]).keep tb id
  have bX := Blk.new2 w (.cells #[.pointer (some ⟨g, 0, none⟩)] 78) 3 #[.int .i64 x]
  have h2 := h.keep tw id
  have HI := Lib.hid (fis_any h2 x)
  rw [decide_eq_true hx] at HI
  have HT := Lib.hid (fthoseu_any (F := underOf l p x) h2 (fun w' t i hi => funderc_any (h2.keep t id) h40 hok h400 hp (t.cell_some (bF.cell 0) id) (t.cell_some (bX.cell 0) id) i hi) h40)
  have HTW := Lib.hid tw
  clear ta tb tw h h2 bF bX
  go_enter Tryz.func52, Tryz.ntmps52
  go_wp2_with fail
  refine HI.out.mono ?_
  rintro _ _ ⟨rfl, rfl⟩
  go_wp2_with fail
  refine HT.out.mono ?_
  rintro _ w4 ⟨u, rfl, hO⟩
  obtain ⟨O, co, rfl, _, _⟩ := hO.form
  go_wp2
  go_ret
  exact ⟨_, rfl, hO.base HTW.out⟩

-- where the first one stands that is above another one
set_option maxRecDepth 100000 in
set_option maxHeartbeats 1600000 in
theorem findmeet_any {v : Value} {xs : List Int} (hv : RowsOf int1 1 (fun _ => True) w v xs) (hl : xs.length ≤ 100000) {z1 z2 : Nat} {F : Int → Bool} (HK0 : ∀ w' : World, Tch (fun _ => False) w w' → ∀ i : Int, Calls Tryz.prog 98 #[.int .i64 i, .pointer (some ⟨z1, 0, none⟩), .pointer (some ⟨z2, 0, none⟩)] w' fun e w'' => e = .returned (.bool (F i)) ∧ Tch (fun _ => False) w' w'') :
    Calls Tryz.prog 97 #[v, .func (.func 98) #[] #[.pointer (some ⟨z1, 0, none⟩), .pointer (some ⟨z2, 0, none⟩)]] w fun e w' => ((xs.find? F = none ∧ e = .returned (.int .i64 (-1))) ∨ ∃ j : Nat, ∃ hj : j < xs.length, xs.find? F = some xs[j] ∧ e = .returned (.int .i64 (j : Int))) ∧ Tch (fun _ => False) w w' := by
  have HK := Lib.hid HK0
  have HV := Lib.hid (fun w' (t : Tch (fun _ => False) w w') => hv.keep t)
  obtain ⟨A, c, rfl, hc1, hc2⟩ := hv.form
  clear HK0 hv
  go_enter Tryz.func97, Tryz.ntmps97
  go_wp2_with fail
  go_loopw [8] (fun i wr => ∃ j : Nat, j ≤ xs.length ∧ i = .int .i64 (j : Int) ∧ (∀ i (hi : i < xs.length), i < j → F xs[i] = false) ∧ Tch (fun _ => False) w wr) (fun i _ => xs.length - (intOf i).toNat)
  case atStart => exact ⟨0, Nat.zero_le _, rfl, fun i hi h => by omega, Tch.refl _ _⟩
  case round =>
    obtain ⟨j, hj, rfl, hn, ht⟩ := hrel
    have HN := Lib.hid hn
    have hj0 : (0 : Int) ≤ (j : Int) := Int.natCast_nonneg _
    clear hn
    by_cases hlt : j < xs.length
    · have hlt' : (j : Int) < (xs.length : Int) := by omega
      have hl9 := HV.out wr ht
      obtain ⟨g, o, rfl⟩ := hl9.head (by omega)
      have q0 := Row.one hl9 int1_len hlt rfl
      have HK1 := Lib.hid (HK.out wr ht xs[j])
      have HF1 := Lib.hid (fun h1 : F xs[j] = true => find_at hlt h1 HN.out)
      have HF0 := Lib.hid (show F xs[j] = false → ∀ i (hi : i < xs.length), i < j + 1 → F xs[i] = false from fun h0 i hi h => by
        by_cases e : i = j
        · subst e; exact h0
        · exact HN.out i hi (by omega))
      generalize hxj : xs[j] = x at *
      generalize F x = f at *
      have HXJ := Lib.hid hxj
      clear hl9 hxj
      go_wp2_with fail
      refine HK1.out.mono ?_
      rintro _ w1 ⟨rfl, t1⟩
      cases f
      · clear HK1 q0 HF1
        go_wp2
        go_roundw
        case rel => exact ⟨j + 1, by omega, by go_num, HF0.out (by simp), ht.trans t1⟩
        case measure => simp [intOf] <;> omega
      · clear HK1 q0 HF0
        go_wp2
        (try rw [Exit.noGoto_ret])
        go_ret
        exact ⟨.inr ⟨j, hlt, by rw [HF1.out (by simp), HXJ.out], rfl⟩, ht.trans t1⟩
    · obtain rfl : j = xs.length := by omega
      have hlt' : ¬ (xs.length : Int) < (xs.length : Int) := by omega
      have HNO := Lib.hid (find_no (F := F) (xs := xs) fun i hi => HN.out i hi hi)
      go_wp2
      go_ret
      exact ⟨.inl ⟨by simpa using HNO.out, rfl⟩, ht⟩
end
end Go.Proofs.YtdangnmeligfjaaGreatDoor

/-
  Forests: where two meet.
-/
namespace Go.Proofs.YtdangnmeligfjaaGreatDoor
open Go.RowKit Go.Gk Go.Gk.V33

section
variable {w : World} {g n : Nat} {l : List Stk4} {p : Nat}

theorem own_int1 {w : World} {y : Nat} {a : Int} (h : Blk w y 3 #[.int .i64 a]) : w.ownsRow 0 3 1 (.slice (some ⟨y, 0, none⟩) 1 1) 1 [.int .i64 a] :=
  ⟨rfl, .inr ⟨y, 1, #[.int .i64 a], rfl, Nat.zero_le _, h, Nat.le_refl _, by decide, rfl, rfl⟩⟩

set_option maxRecDepth 100000 in
set_option maxHeartbeats 3200000 in
theorem fmeet_any (h : Blk w g 160 (holdsCells l n p n).toArray) (h40 : n ≤ 40) (hok : stakesOK l n = true) (h400 : l.length ≤ 400) (hp : p < 24) (a b : Int) :
    Calls Tryz.prog 51 #[.pointer (some ⟨g, 0, none⟩), .int .i64 a, .int .i64 b] w fun e w' => e = .returned (.int .i64 (if (1 ≤ a ∧ a ≤ n) ∧ (1 ≤ b ∧ b ≤ n) then meetOf l p a b else 0)) ∧ Tch (fun _ => False) w w' := by
  have ta := Tch.alloc (fun _ => False) w (.cells #[.pointer (some ⟨g, 0, none⟩)] 78)
  have tb := Tch.alloc (fun _ => False) (w.alloc (.cells #[.pointer (some ⟨g, 0, none⟩)] 78)) (.cells #[.int .i64 b] 3)
  have tw := ta.trans tb
  have bF := (Blk.new w 78 #[.pointer (some ⟨g, 0, none⟩)]).keep tb id
  have bB := Blk.new2 w (.cells #[.pointer (some ⟨g, 0, none⟩)] 78) 3 #[.int .i64 b]
  have h2 := h.keep tw id
  have HIA := Lib.hid (fis_any h2 a)
  have HIB := Lib.hid (fis_any h2 b)
  clear ta tb h
  obtain ⟨R, hR⟩ : ∃ R, (if (1 ≤ a ∧ a ≤ (n : Int)) ∧ (1 ≤ b ∧ b ≤ (n : Int)) then meetOf l p a b else 0) = R := ⟨_, rfl⟩
  rw [hR]
  have HR := Lib.hid hR
  clear hR
  by_cases ha : 1 ≤ a ∧ a ≤ (n : Int)
  rotate_left
  · obtain rfl : R = 0 := by rw [← HR.out, if_neg (fun h => ha h.1)]
    rw [decide_eq_false ha] at HIA
    have HTW := Lib.hid tw
    clear HIB HR ha bF bB h2 tw
    go_enter Tryz.func51, Tryz.ntmps51
    go_wp2_with fail
    refine HIA.out.mono ?_
    rintro _ _ ⟨rfl, rfl⟩
    go_wp2
    go_ret
    exact ⟨rfl, HTW.out⟩
  by_cases hb : 1 ≤ b ∧ b ≤ (n : Int)
  rotate_left
  · obtain rfl : R = 0 := by rw [← HR.out, if_neg (fun h => hb h.2)]
    rw [decide_eq_true ha] at HIA
    rw [decide_eq_false hb] at HIB
    have HTW := Lib.hid tw
    clear HR ha hb h2 tw
    go_enter Tryz.func51, Tryz.ntmps51
    go_wp2_with fail
    refine HIA.out.mono ?_
    rintro _ _ ⟨rfl, rfl⟩
    go_wp2_with fail
    refine HIB.out.mono ?_
    rintro _ _ ⟨rfl, rfl⟩
    go_wp2
    go_ret
    exact ⟨rfl, HTW.out⟩
  rw [decide_eq_true ha] at HIA
  rw [decide_eq_true hb] at HIB
  have HR2 := Lib.hid (show ((a :: upsOf l p a).find? fun t => underOf l p t b).getD 0 = R by rw [← HR.out, if_pos ⟨ha, hb⟩]; rfl)
  have HUP := Lib.hid (fun w' (t : Tch (fun _ => False) _ w') => fup_any (h2.keep t id) h40 hok h400 hp ha)
  have HMC := Lib.hid (fun w' (t : Tch (fun _ => False) _ w') i => fmeetc_any (h2.keep t id) h40 hok h400 hp (t.cell_some (bF.cell 0) id) (t.cell_some (bB.cell 0) id) hb i)
  have HL := Lib.hid (ups_len l p a)
  clear HR ha hb h2
  go_enter Tryz.func51, Tryz.ntmps51
  go_wp2_with fail
  refine HIA.out.mono ?_
  rintro _ _ ⟨rfl, rfl⟩
  go_wp2_with fail
  refine HIB.out.mono ?_
  rintro _ _ ⟨rfl, rfl⟩
  clear HIA HIB
  have tY := Tch.alloc (fun _ => False) ((w.alloc (.cells #[.pointer (some ⟨g, 0, none⟩)] 78)).alloc (.cells #[.int .i64 b] 3)) (.cells #[.int .i64 a] 3)
  have bY : Blk (((w.alloc (.cells #[.pointer (some ⟨g, 0, none⟩)] 78)).alloc (.cells #[.int .i64 b] 3)).alloc (.cells #[.int .i64 a] 3)) (w.heap.size + 1 + 1) 3 #[.int .i64 a] := by simpa using Blk.new ((w.alloc (.cells #[.pointer (some ⟨g, 0, none⟩)] 78)).alloc (.cells #[.int .i64 b] 3)) 3 #[.int .i64 a]
  have bF2 := bF.keep tY id
  have f0 : (((w.alloc (.cells #[.pointer (some ⟨g, 0, none⟩)] 78)).alloc (.cells #[.int .i64 b] 3)).alloc (.cells #[.int .i64 a] 3)).cell? ⟨w.heap.size, 0, none⟩ = some (.pointer (some ⟨g, 0, none⟩)) := bF2.cell 0
  have HTY := Lib.hid tY
  have HTW := Lib.hid tw
  have HUP1 := Lib.hid (HUP.out _ tY)
  clear bF bB tw tY
  go_wp2_with fail
  refine HUP1.out.mono ?_
  rintro _ w1 ⟨u, rfl, hO⟩
  have bY1 := bY.keep hO.tch id
  have hrow := hO.row
  have T1 := (HTW.out.trans HTY.out).trans hO.tch
  have t01 := HTY.out.trans hO.tch
  obtain ⟨O, co, rfl, ho1, ho2⟩ := hO.form
  generalize upsOf l p a = U at *
  have hul : U.length ≤ 401 := by have := HL.out; omega
  have hown := own_int1 bY1
  clear HUP HUP1 f0 bF2 bY bY1 hO
  go_wp2_with (at_builtin; refine Hid.out ?_)
  refine Lib.hid ?_
  refine wpList_append _ rfl _ _ 22 rfl rowInts hown (by rfl) hrow.src (by rfl) (by intro u9 hu9; obtain ⟨x9, _, hx9⟩ := List.mem_flatMap.1 hu9; simp [int1] at hx9; subst hx9; rfl) (by unfold maxLen; omega) (by omega) ?_
  intro v2 w2 ho3 hg2 hl2
  have hrow2 : RowsOf int1 1 (fun _ => True) w2 v2 (a :: U) := by
    have h := Row.own (P := fun _ => True) ho3 (fun _ _ => trivial)
    have e9 : 1 + U.length = (a :: U).length := by simp [Nat.add_comm]
    unfold RowsOf
    rw [← e9]
    simpa [int1] using h
  have tg := Tch.grown (F := fun g => w.heap.size + 1 + 1 ≤ g) hg2 (fun k hk => .inl (by have hk : some (w.heap.size + 1 + 1) = some k := hk; injection hk with hk; omega))
  have T2 := T1.trans' tg (fun i hi => .inr (by have hi : w.heap.size + 1 + 1 ≤ i := hi; omega))
  have t02 := t01.trans' tg (fun i hi => .inr (by have hi : w.heap.size + 1 + 1 ≤ i := hi; simp; omega))
  have HIX := Lib.hid (findmeet_any (F := fun t => underOf l p t b) hrow2 (by simp; omega) (fun w' t9 i => HMC.out w' (t02.trans t9) i))
  have HR3 := Lib.hid (fun w' (t9 : Tch (fun _ => False) w2 w') => hrow2.keep t9)
  have hwl : (a :: U).length ≤ 402 := by simp; omega
  obtain ⟨V, cv, rfl, hv1, hv2⟩ := hrow2.form
  generalize hway : a :: U = way at *
  clear hg2 hl2 ho3 hrow hown T1 t01 t02 tg hrow2 hway HMC
  go_wp2_with fail
  refine HIX.out.mono ?_
  rintro _ w3 ⟨hix, t3⟩
  have T3 := T2.trans t3
  rcases hix with ⟨hno, rfl⟩ | ⟨j, hj, hfi, rfl⟩
  · obtain rfl : R = 0 := by rw [← HR2.out, hno]; rfl
    clear HIX HR2 hno
    go_wp2
    go_ret
    exact ⟨rfl, T3⟩
  · have hr := HR3.out w3 t3
    obtain ⟨g9, o9, rfl⟩ := hr.head (by omega)
    have q0 := Row.one hr int1_len hj rfl
    have hrj : R = way[j] := by rw [← HR2.out, hfi]; rfl
    have hj' : (j : Int) < (way.length : Int) := by omega
    have hj0 : (0 : Int) ≤ (j : Int) := Int.natCast_nonneg _
    have hj1 : ¬ (j : Int) < 0 := by omega
    generalize way[j] = x at *
    have HRX := Lib.hid hrj
    clear HIX HR2 hfi hr HR3 hrj
    go_wp2
    go_ret
    exact ⟨by rw [HRX.out]; rfl, T3⟩
end
end Go.Proofs.YtdangnmeligfjaaGreatDoor
