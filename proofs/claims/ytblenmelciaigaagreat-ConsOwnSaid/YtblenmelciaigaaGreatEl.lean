/-
  Eliminations: the sides of the pairs of an account.
-/
import Derived.Test.YtblenmelciaigaaGreatPg
import Derived.Test.YtblenmelciaigaaGreatLv
import Derived.Test.YtblenmelciaigaaGreatZ21
namespace Go.Proofs.YtblenmelciaigaaGreat
open Go.RowKit Go.Gk Go.Gk.V33

set_option maxRecDepth 100000 in
set_option maxHeartbeats 1600000 in
theorem sidec_any {w : World} {z1 z2 : Nat} {acc c4 c5 : Int} (h1 : w.cell? ⟨z1, 0, none⟩ = some (.int .i64 acc)) (h2 : w.cell? ⟨z2, 3, none⟩ = some (.int .i64 c4)) (h3 : w.cell? ⟨z2, 4, none⟩ = some (.int .i64 c5)) (x y : Int) :
    Calls Tryz.prog 74 #[.agg #[.int .i64 x, .int .i64 y], .pointer (some ⟨z1, 0, none⟩), .pointer (some ⟨z2, 0, none⟩)] w fun e w' => e = .returned (.agg #[.int .i64 3, .int .i64 x, .int .i64 acc, .int .i64 c4, .int .i64 c5, .int .i64 y]) ∧ Tch (fun _ => False) w w' := by
  have ta := Tch.alloc (fun _ => False) w (.cells #[.int .i64 x, .int .i64 y] 148)
  have tb := Tch.alloc (fun _ => False) (w.alloc (.cells #[.int .i64 x, .int .i64 y] 148)) (.cells #[.int .i64 3, .int .i64 x, .int .i64 acc, .int .i64 c4, .int .i64 c5, .int .i64 y] 31)
  have HF := Lib.hid (Blk.new2 w (.cells #[.int .i64 x, .int .i64 y] 148) 31 #[.int .i64 3, .int .i64 x, .int .i64 acc, .int .i64 c4, .int .i64 c5, .int .i64 y])
  have HT := Lib.hid (ta.trans tb)
  have tz := Tch.alloc (fun _ => False) (w.alloc (.cells #[.int .i64 x, .int .i64 y] 148)) (.cells #[.int .i64 0, .int .i64 0, .int .i64 0, .int .i64 0, .int .i64 0, .int .i64 0] 31)
  have k1 := (ta.trans tz).cell_some h1 id
  have k2 := (ta.trans tz).cell_some h2 id
  have k3 := (ta.trans tz).cell_some h3 id
  clear ta tb tz h1 h2 h3
  go_enter Tryz.func74, Tryz.ntmps74
  go_wp2_with fail
  (try simp only [Exit.inBlock, Exit.then])
  (try rw [Exit.noGoto_ret])
  refine bodyPost_ret (results_cell_row (P := Tryz.prog) rfl _ _ (w.heap.size + 1) 31 _ (0, 0) _ rfl HF.out Tryz.underlying31 rfl (by kernel_rfl)) rfl ?_
  exact ⟨rfl, HT.out⟩

def sideG (acc c4 c5 : Int) (q : Int × Int) : Rt6 := (3, q.1, acc, c4, c5, q.2)

set_option maxRecDepth 100000 in
set_option maxHeartbeats 1600000 in
theorem each2_any {w : World} {v : Value} {xs : List (Int × Int)} (hv : RowsOf f2 2 (fun _ => True) w v xs) (hl : xs.length ≤ 1600) {z1 z2 : Nat} {acc c4 c5 : Int} (HK0 : ∀ w' : World, Tch (fun _ => False) w w' → ∀ x y : Int, Calls Tryz.prog 74 #[.agg #[.int .i64 x, .int .i64 y], .pointer (some ⟨z1, 0, none⟩), .pointer (some ⟨z2, 0, none⟩)] w' fun e w'' => e = .returned (.agg #[.int .i64 3, .int .i64 x, .int .i64 acc, .int .i64 c4, .int .i64 c5, .int .i64 y]) ∧ Tch (fun _ => False) w' w'') :
    Calls Tryz.prog 72 #[v, .func (.func 74) #[] #[.pointer (some ⟨z1, 0, none⟩), .pointer (some ⟨z2, 0, none⟩)]] w fun e w' => ∃ u, e = .returned u ∧ Outs int6 6 31 w w' u (xs.map (sideG acc c4 c5)) := by
  have HK := Lib.hid HK0
  have HV := Lib.hid (fun w' (t : Tch (fun _ => False) w w') => hv.keep t)
  obtain ⟨A, c, rfl, hc1, hc2⟩ := hv.form
  clear HK0 hv
  go_enter Tryz.func72, Tryz.ntmps72
  go_wp2_with fail
  go_loopw [5, 10] (fun o i wr => ∃ (j : Nat) (ys : List Rt6), j ≤ xs.length ∧ i = .int .i64 (j : Int) ∧ (xs.take j).map (sideG acc c4 c5) = ys ∧ Outs int6 6 31 w wr o ys) (fun _ i _ => xs.length - (intOf i).toNat)
  case atStart => exact ⟨0, [], Nat.zero_le _, rfl, rfl, Outs.start _ _ _ (Tch.refl _ _)⟩
  case round =>
    obtain ⟨j, ys, hj, rfl, hys, hO⟩ := hrel
    obtain ⟨O, co, rfl, ho1, ho2⟩ := hO.form
    have hyl : ys.length ≤ 1600 := by rw [← hys, List.length_map, List.length_take]; omega
    have HYS := Lib.hid hys
    have hj0 : (0 : Int) ≤ (j : Int) := Int.natCast_nonneg _
    clear hys
    by_cases hlt : j < xs.length
    · have hlt' : (j : Int) < (xs.length : Int) := by omega
      have hl9 := HV.out wr hO.tch
      obtain ⟨g, o9, rfl⟩ := hl9.head (by omega)
      obtain ⟨q0, q1⟩ := Row.two hl9 f2_len hlt rfl
      have HN := Lib.hid (show (xs.take (j + 1)).map (sideG acc c4 c5) = ys ++ [sideG acc c4 c5 xs[j]] by rw [List.take_succ_eq_append_getElem hlt, List.map_append, HYS.out]; rfl)
      generalize xs[j] = q at *
      obtain ⟨x, y⟩ := q
      simp only at q0 q1
      have tP := Tch.alloc (fun _ => False) wr (.cells #[.int .i64 x, .int .i64 y] 148)
      have bP := Blk.new wr 148 #[.int .i64 x, .int .i64 y]
      have HK1 := Lib.hid (HK.out _ (hO.tch.trans tP) x y)
      have hO1 := hO.keep tP
      have p0 : (wr.alloc (.cells #[.int .i64 x, .int .i64 y] 148)).cell? ⟨wr.heap.size, 0, none⟩ = some (.int .i64 x) := bP.cell 0
      have p1 : (wr.alloc (.cells #[.int .i64 x, .int .i64 y] 148)).cell? ⟨wr.heap.size, 1, none⟩ = some (.int .i64 y) := bP.cell 1
      clear hl9 tP bP hO
      go_wp2_with fail
      refine HK1.out.mono ?_
      rintro _ w2 ⟨rfl, t2⟩
      have hO2 := hO1.keep t2
      clear HK1 p0 p1 q0 q1 hO1 t2
      go_wp2_with (at_builtin; refine wpList_append _ rfl _ _ 40 rfl rowCells (own_base (hO2.own.alloc _)) (by rfl) (Go.Gk.Src.one (news := int6 (3, x, acc, c4, c5, y)) rfl (fun m9 u9 hu9 => by rw [(Blk.new w2 31 #[.int .i64 3, .int .i64 x, .int .i64 acc, .int .i64 c4, .int .i64 c5, .int .i64 y]).cell m9]; simpa [int6] using hu9)) (by rfl) (one6 _) (by unfold maxLen; omega) (by omega) ?_; intro v2 w4 ho2 hg2 hl2; have hO4 := hO2.step (x := (3, x, acc, c4, c5, y)) (Tch.alloc _ _ _) ho2 hg2 (fun g hg => by simpa using hl2 g hg); obtain ⟨O2, co2, rfl, _, _⟩ := own_form ho2)
      go_roundw
      case rel => exact ⟨j + 1, _, by omega, by go_num, HN.out, by simpa [sideG] using hO4⟩
      case measure => simp [intOf] <;> omega
    · obtain rfl : j = xs.length := by omega
      have hlt' : ¬ (xs.length : Int) < (xs.length : Int) := by omega
      have hys := HYS.out
      rw [List.take_length] at hys
      have HY2 := Lib.hid hys
      clear hys
      go_wp2
      go_ret
      exact ⟨_, rfl, by rw [HY2.out]; exact hO⟩

section
variable {w : World} {bv bi B t mr mp : Nat} {e a s r l n lv : Value} {fs : List Value} {b : Bks} {us : List (Ent × Value)}

set_option maxRecDepth 100000 in
set_option maxHeartbeats 3200000 in
theorem sides_any (h : Vw w bv bi B t mr mp e a s r l n lv fs b us) (hpo : (posts b.entries).length ≤ 10000) (hok : booksOK b = true) (c1 c2 c3 c4 c5 c6 acc : Int) {p : Nat} (hc4 : c4 = (p : Int)) (hp : p < 24) (hnode : 1 ≤ c2 ∧ c2 ≤ b.ents.length) :
    Calls Tryz.prog 28 #[.pointer (some ⟨bv, 0, none⟩), .agg #[.int .i64 c1, .int .i64 c2, .int .i64 c3, .int .i64 c4, .int .i64 c5, .int .i64 c6], .int .i64 acc] w fun x w' => ∃ (u : Value) (ys : List Rt6), x = .returned u ∧ Outs int6 6 31 w w' u ys ∧ ys.length ≤ 1600 ∧ (Lone b p c2 → ys = []) := by
  subst hc4
  have ta := Tch.alloc (fun _ => False) w (.cells #[.int .i64 c1, .int .i64 c2, .int .i64 c3, .int .i64 (p : Int), .int .i64 c5, .int .i64 c6] 31)
  have tb := Tch.alloc (fun _ => False) (w.alloc (.cells #[.int .i64 c1, .int .i64 c2, .int .i64 c3, .int .i64 (p : Int), .int .i64 c5, .int .i64 c6] 31)) (.cells #[.int .i64 acc] 3)
  have tw := ta.trans tb
  have bC := (Blk.new w 31 #[.int .i64 c1, .int .i64 c2, .int .i64 c3, .int .i64 (p : Int), .int .i64 c5, .int .i64 c6]).keep tb id
  have bA := Blk.new2 w (.cells #[.int .i64 c1, .int .i64 c2, .int .i64 c3, .int .i64 (p : Int), .int .i64 c5, .int .i64 c6] 31) 3 #[.int .i64 acc]
  have HP := Lib.hid (pairsof_any (h.keep tw) hpo hok hp c2 acc hnode)
  have HS := Lib.hid (fun w' (t9 : Tch (fun _ => False) _ w') x y => sidec_any (t9.cell_some (bA.cell 0) id) (t9.cell_some (bC.cell 3) id) (t9.cell_some (bC.cell 4) id) x y)
  have HTW := Lib.hid tw
  clear ta tb h tw bC bA
  go_enter Tryz.func28, Tryz.ntmps28
  go_wp2_with fail
  refine HP.out.mono ?_
  rintro _ w1 ⟨u, xs, rfl, hO, hxl, hlo⟩
  have HLO := Lib.hid hlo
  have HE := Lib.hid (each2_any (acc := acc) (c4 := (p : Int)) (c5 := c5) hO.row hxl (fun w' t9 x y => HS.out w' (hO.tch.trans t9) x y))
  have T1 := HTW.out.trans hO.tch
  obtain ⟨O, co, rfl, _, _⟩ := hO.form
  clear HP HS hO hlo
  go_wp2_with fail
  refine HE.out.mono ?_
  rintro _ w2 ⟨u2, rfl, hO2⟩
  obtain ⟨O2, co2, rfl, _, _⟩ := hO2.form
  have HB := Lib.hid (hO2.base T1)
  clear HE hO2
  go_wp2
  go_ret
  exact ⟨_, xs.map (sideG acc (p : Int) c5), rfl, (by have h9 := HB.out; rw [List.length_map] at h9; exact h9), by simpa using hxl, fun hl => by rw [HLO.out hl]; rfl⟩

-- the accounts with partners
set_option maxRecDepth 100000 in
set_option maxHeartbeats 3200000 in
theorem paccounts_any (h : Vw w bv bi B t mr mp e a s r l n lv fs b us) (hn : (accLeaves b.accs).length ≤ 1000) :
    Calls Tryz.prog 30 #[.pointer (some ⟨bv, 0, none⟩)] w fun x w' => ∃ (u : Value) (zs : List Int), x = .returned u ∧ OutI w w' u zs ∧ zs.length ≤ 1000 := by
  have HL := Lib.hid (vwleaves_any h hn)
  have HA := Lib.hid (fun w' (t9 : Tch (fun _ => False) w w') x (hx : x ∈ accLeaves b.accs) => by
    obtain ⟨k, hk, hkx, _⟩ := accIs_at (leaves_are hx)
    exact (show ∃ a1 kd a3 a4, Calls Tryz.prog 27 #[.pointer (some ⟨bv, 0, none⟩), .int .i64 x] w' fun y w'' => y = .returned (.tuple #[.agg #[.int .i64 a1, .int .i64 kd, .bool a3, .bool a4], .bool true]) ∧ Tch (fun _ => False) w' w'' from ⟨b.accs[k].1, b.accs[k].2.1, b.accs[k].2.2.1, b.accs[k].2.2.2, vwaccount_any (h.keep t9) hk x hkx⟩))
  generalize accLeaves b.accs = L at *
  clear h
  go_enter Tryz.func30, Tryz.ntmps30
  go_wp2_with fail
  refine HL.out.mono ?_
  rintro _ w1 ⟨u, rfl, hU⟩
  have HR := Lib.hid (fun w' (t9 : Tch (fun _ => False) w1 w') => hU.row.keep t9)
  have t1 := hU.tch
  obtain ⟨U, cu, rfl, hu1, hu2⟩ := hU.form
  clear hU HL
  go_wp2_with fail
  go_loopw [3, 11] (fun o i wr => ∃ (j : Nat) (zs : List Int), j ≤ L.length ∧ i = .int .i64 (j : Int) ∧ zs.length ≤ j ∧ OutI w1 wr o zs) (fun _ i _ => L.length - (intOf i).toNat)
  case atStart => exact ⟨0, [], Nat.zero_le _, rfl, Nat.le_refl _, Outs.start _ _ _ (Tch.refl _ _)⟩
  case round =>
    obtain ⟨j, zs, hj, rfl, hzl, hO⟩ := hrel
    obtain ⟨O, co, rfl, ho1, ho2⟩ := hO.form
    have hj0 : (0 : Int) ≤ (j : Int) := Int.natCast_nonneg _
    by_cases hlt : j < L.length
    · have hlt' : (j : Int) < (L.length : Int) := by omega
      have hl9 := HR.out wr hO.tch
      obtain ⟨g, o9, rfl⟩ := hl9.head (by omega)
      have q0 := Row.one hl9 int1_len hlt rfl
      obtain ⟨a1, kd, a3, a4, hac⟩ := HA.out wr (t1.trans hO.tch) L[j] (List.getElem_mem hlt)
      have HAC := Lib.hid hac
      generalize L[j] = x at *
      clear hl9 hac
      go_wp2_with fail
      refine HAC.out.mono ?_
      rintro _ w2 ⟨rfl, t2⟩
      have tA := Tch.alloc (fun _ => False) w2 (.cells #[.int .i64 a1, .int .i64 kd, .bool a3, .bool a4] 79)
      have bA := Blk.new w2 79 #[.int .i64 a1, .int .i64 kd, .bool a3, .bool a4]
      have hO := hO.keep (t2.trans tA)
      have p3 : (w2.alloc (.cells #[.int .i64 a1, .int .i64 kd, .bool a3, .bool a4] 79)).cell? ⟨w2.heap.size, 3, none⟩ = some (.bool a4) := bA.cell 3
      have hz9 : zs.length ≤ 1000 := by omega
      clear HAC q0 t2 tA bA
      cases a4
      · go_wp2
        go_roundw
        case rel => exact ⟨j + 1, zs, by omega, by go_num, by omega, hO⟩
        case measure => simp [intOf] <;> omega
      · go_wp2_with ((at_builtin; refine wpList_append _ rfl _ _ 22 rfl rowInts (own_base (hO.own.alloc _)) (by rfl) (Go.Gk.Src.one (news := [.int .i64 (x)]) rfl (fun m9 u9 hu9 => by rw [(Blk.new2 (w2) (.cells #[.int .i64 a1, .int .i64 kd, .bool a3, .bool true] 79) 3 #[.int .i64 (x)]).cell m9]; simpa using hu9)) (by rfl) (by simp; rfl) (by unfold maxLen; omega) (by omega) ?_; intro v2 w2 ho2 hg2 hl2; have hO2 := hO.step (x := x) (Tch.alloc _ _ _) ho2 hg2 hl2; obtain ⟨O2, co2, rfl, _, _⟩ := own_form ho2))
        go_roundw
        case rel => exact ⟨j + 1, _, by omega, by go_num, by simp; omega, hO2⟩
        case measure => simp [intOf] <;> omega
    · obtain rfl : j = L.length := by omega
      have hlt' : ¬ (L.length : Int) < (L.length : Int) := by omega
      have HB := Lib.hid (hO.base t1)
      have hz9 : zs.length ≤ 1000 := by omega
      clear hO
      go_wp2
      go_ret
      exact ⟨_, rfl, zs, HB.out, hz9⟩
end
end Go.Proofs.YtblenmelciaigaaGreat
