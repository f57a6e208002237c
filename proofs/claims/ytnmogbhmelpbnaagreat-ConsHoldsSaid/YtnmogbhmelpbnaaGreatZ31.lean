/-
  Plain: what a node has: the parts that are added.
-/
import Derived.Test.YtnmogbhmelpbnaaGreatZ28
import Derived.Test.YtnmogbhmelpbnaaGreatZ12
import Derived.Test.YtnmogbhmelpbnaaGreatZ10
import Derived.Test.YtnmogbhmelpbnaaGreatZ27
import Derived.Laws.CopyRow
import Derived.Laws.Append
import Derived.Laws.MakeOwn
namespace Go.Gk
theorem accIds_succ (j : Nat) : accIds (j + 1) = accIds j ++ [(j : Int) + 1] := by
  unfold accIds
  rw [List.range_succ, List.map_append]
  rfl
theorem accIds_len (j : Nat) : (accIds j).length = j := by unfold accIds; simp
theorem accIds_mem {j : Nat} {x : Int} (h : x ∈ accIds j) : 1 ≤ x ∧ x ≤ j := by
  unfold accIds at h
  obtain ⟨i, hi, rfl⟩ := List.mem_map.1 h
  have := List.mem_range.1 hi
  omega
theorem filter_snoc {α : Type} (F : α → Bool) (l : List α) (x : α) : (l ++ [x]).filter F = l.filter F ++ (if F x then [x] else []) := by
  rw [List.filter_append]
  congr 1
  by_cases h : F x = true <;> simp [h]
/-- Those that an entity holds. -/
def isKid (b : Bks) (x p : Int) (i : Int) : Bool := stkUp b.stakes i p == x
def kidsOf (b : Bks) (x p : Int) : List Int := if 1 ≤ x ∧ x ≤ b.ents.length then (accIds b.ents.length).filter (isKid b x p) else []
/-- The leaves that are split. -/
def splitsOf (b : Bks) : List Int := (accLeaves b.accs).filter (accSplit b)
def ofC (c : Rt6) (r e a : Int) : Rt6 := (r, e, a, c.2.2.2.1, c.2.2.2.2.1, 0)
def consMin (c : Rt6) (kids splits : List Int) : List Rt6 := kids.flatMap fun k => splits.map fun a => ofC c 5 k a
def consPlus (c : Rt6) (kids splits : List Int) : List Rt6 := ofC c 3 c.2.1 c.2.2.1 :: (kids.map (fun k => ofC c 4 k c.2.2.1) ++ ((if c.2.2.1 = 2 then consMin c kids splits else []) ++ [ofC c 6 c.2.1 c.2.2.1]))
def consOf (b : Bks) (c : Rt6) : Rcp × Int := if mayOf b c 7 7 = 0 then ({ Rcp.none with plus := consPlus c (kidsOf b c.2.1 c.2.2.2.1) (splitsOf b) }, 0) else (Rcp.none, mayOf b c 7 7)
theorem may_alone {b : Bks} {c : Rt6} {lo hi : Int} (h : mayOf b c lo hi = 0) (h4 : 3 < lo) : c.2.2.2.2.2 = 0 := by
  have hf := may_facts h
  unfold mayOf at h
  by_cases h0 : cellIn c b.ents.length b.accs.length = 0
  · unfold cellIn at h0
    by_cases hc : cellOK c = true
    · unfold cellOK at hc
      simp only [Bool.and_eq_true, wi, decide_eq_true_eq] at hc
      have h1 : ¬ c.1 ≤ 3 := by omega
      rw [if_neg h1] at hc
      omega
    · rw [if_neg hc] at h0; cases h0
  · rw [if_neg h0] at h; exact absurd h h0
theorem kids_len (b : Bks) (x p : Int) : (kidsOf b x p).length ≤ b.ents.length := by
  unfold kidsOf
  split
  · exact Nat.le_trans (List.length_filter_le _ _) (by rw [accIds_len]; omega)
  · simp
theorem splits_len (b : Bks) : (splitsOf b).length ≤ b.accs.length := by
  unfold splitsOf accLeaves
  exact Nat.le_trans (List.length_filter_le _ _) (Nat.le_trans (List.length_filter_le _ _) (by rw [accIds_len]; omega))
end Go.Gk

/-
  Forests: those that an entity holds.
-/
namespace Go.Proofs.YtnmogbhmelpbnaaGreat
open Go.RowKit Go.Gk

section
variable {w : World} {g n : Nat} {l : List Stk4} {p : Int}

-- whether an entity is held: the closure
set_option maxRecDepth 100000 in
set_option maxHeartbeats 800000 in
theorem fkid_any (h : Blk w g 114 (holdsCells l n p n).toArray) (h40 : n ≤ 40) {z1 z2 : Nat} {x : Int} (h1 : w.cell? ⟨z1, 0, none⟩ = some (.func (.func 20) #[.pointer (some ⟨g, 0, none⟩)] #[])) (h2 : w.cell? ⟨z2, 0, none⟩ = some (.int .i64 x)) (i : Int) (hi : 1 ≤ i ∧ i ≤ n) :
    Calls Tryz.prog 57 #[.int .i64 i, .pointer (some ⟨z1, 0, none⟩), .pointer (some ⟨z2, 0, none⟩)] w fun e w' => e = .returned (.bool (stkUp l i p == x)) ∧ Tch (fun _ => False) w w' := by
  have HP := Lib.hid (fun w' (t : Tch (fun _ => False) w w') => fparent_any (h.keep t id) h40 i)
  simp only [if_pos hi] at HP
  generalize stkUp l i p = u at *
  have y1 := within_cell (F := fun _ => False) h1 id
  have y2 := within_cell (F := fun _ => False) h2 id
  clear h h1 h2 hi
  go_enter Tryz.func57, Tryz.ntmps57
  go_wp2_with fail
  refine wp_region_touch (fun _ => False) [] 4 [(2, .inl (.int .i64 u))] [] (by kernel_rfl) rfl (by kernel_rfl) rfl (fun d _ _ _ _ h => by cases d <;> exact h) ?_ ?_
  · exact trivial
  (intro bef ops hbef hops; clear hbef; subst hops; simp only [List.take_succ_cons, List.take_zero, List.drop_succ_cons, List.drop_zero])
  iterate 2 (refine t_det (by rfl) (by rfl) (by rfl) (by rfl) (fun K hK => ?_); go_big_quiet_op; (first | refine hK _ ?_ | refine ⟨_, fun _ => rfl, hK _ ?_⟩); clear hK K; (try simp only [Act.put, List.setIfInBounds_toArray, List.set_cons_succ, List.set_cons_zero]))
  refine t_fix (.int .i64 u) (by rfl) (by rfl) (fun w2 hr hf => ?_) ?_
  · refine yields_of_wp (d := 7) rfl (by simp) (fun K hK => ?_)
    go_step
    refine (HP.out w2 ((Tch.drew _ w).trans hr)).mono ?_
    rintro _ _ ⟨rfl, rfl⟩
    exact hK _ _ ⟨⟨rfl, Tch.refl _ _⟩, newAt_no⟩
  simp only [Act.put, List.setIfInBounds_toArray, List.set_cons_succ, List.set_cons_zero]
  iterate 1 (refine t_det (by rfl) (by rfl) (by rfl) (by rfl) (fun K hK => ?_); go_big_quiet_op; (first | refine hK _ ?_ | refine ⟨_, fun _ => rfl, hK _ ?_⟩); clear hK K; (try simp only [Act.put, List.setIfInBounds_toArray, List.set_cons_succ, List.set_cons_zero]))
  refine t_nil ?_
  intro w2 hr hp1 hap
  have t2 := (Tch.drew (fun _ => False) w).trans hr
  clear hap hp1 hr y1 y2 HP
  go_wp2
  go_ret
  exact ⟨rfl, t2⟩

set_option maxRecDepth 100000 in
set_option maxHeartbeats 1600000 in
theorem fthose_any (h : Blk w g 114 (holdsCells l n p n).toArray) (h40 : n ≤ 40) {z1 z2 : Nat} {x : Int} (h1 : w.cell? ⟨z1, 0, none⟩ = some (.func (.func 20) #[.pointer (some ⟨g, 0, none⟩)] #[])) (h2 : w.cell? ⟨z2, 0, none⟩ = some (.int .i64 x)) :
    Calls Tryz.prog 56 #[.pointer (some ⟨g, 0, none⟩), .func (.func 57) #[] #[.pointer (some ⟨z1, 0, none⟩), .pointer (some ⟨z2, 0, none⟩)]] w fun e w' => ∃ u, e = .returned u ∧ OutI w w' u ((accIds n).filter (fun i => stkUp l i p == x)) := by
  obtain ⟨F, hF⟩ : ∃ F : Int → Bool, (fun i => stkUp l i p == x) = F := ⟨_, rfl⟩
  rw [hF]
  have HI := Lib.hid (fun w' (t : Tch (fun _ => False) w w') i => fis_any (h.keep t id) i)
  have HK := Lib.hid (fun w' (t : Tch (fun _ => False) w w') i hi => fkid_any (h.keep t id) h40 (t.cell_some h1 id) (t.cell_some h2 id) i hi)
  have HKF := Lib.hid (fun i => show (stkUp l i p == x) = F i by rw [← hF])
  simp only [HKF.out] at HK
  clear hF HKF h h1 h2
  go_enter Tryz.func56, Tryz.ntmps56
  go_wp2_with fail
  go_loopw [5, 6] (fun out i wr => ∃ (j : Nat) (xs : List Int), j ≤ n ∧ i = .int .i64 ((j : Int) + 1) ∧ (accIds j).filter F = xs ∧ OutI w wr out xs) (fun _ i _ => n + 1 - (intOf i).toNat)
  case atStart => exact ⟨0, [], Nat.zero_le _, rfl, rfl, Outs.start _ _ _ (Tch.refl _ _)⟩
  case round =>
    obtain ⟨j, xs, hj, rfl, hx, hO⟩ := hrel
    obtain ⟨O, co, rfl, ho1, ho2⟩ := hO.form
    have hxl : xs.length ≤ j := by
      rw [← hx]
      exact Nat.le_trans (List.length_filter_le _ _) (by rw [accIds_len]; omega)
    have HX := Lib.hid hx
    have hj0 : (0 : Int) ≤ (j : Int) := Int.natCast_nonneg _
    clear hx
    by_cases hlt : j < n
    · have hlt' : (j : Int) < (n : Int) := by omega
      have HI1 := Lib.hid (HI.out wr hO.tch ((j : Int) + 1))
      rw [decide_eq_true (show 1 ≤ (j : Int) + 1 ∧ (j : Int) + 1 ≤ n by omega)] at HI1
      have HK1 := Lib.hid (HK.out wr hO.tch ((j : Int) + 1) (by omega))
      have HS := Lib.hid (show (accIds (j + 1)).filter F = xs ++ (if F ((j : Int) + 1) then [(j : Int) + 1] else []) by rw [accIds_succ, filter_snoc, HX.out])
      generalize F ((j : Int) + 1) = f at *
      go_wp2_with fail
      refine HI1.out.mono ?_
      rintro _ _ ⟨rfl, rfl⟩
      clear HI1
      go_wp2_with fail
      refine HK1.out.mono ?_
      rintro _ w1 ⟨rfl, t1⟩
      clear HK1
      have hO := hO.keep t1
      cases f
      · have HS := Lib.hid (show (accIds (j + 1)).filter F = xs by rw [HS.out]; simp)
        go_wp2
        go_roundw
        case rel => exact ⟨j + 1, xs, by omega, by go_num, HS.out, hO⟩
        case measure => simp [intOf]; omega
      · go_wp2_with ((at_builtin; refine wpList_append _ rfl _ _ 22 rfl rowInts (own_base (hO.own.alloc _)) (by rfl) (Go.Gk.Src.one (news := [.int .i64 ((j : Int) + 1)]) rfl (fun m9 u9 hu9 => by rw [(Blk.new (w1) 3 #[.int .i64 ((j : Int) + 1)]).cell m9]; simpa using hu9)) (by rfl) (by simp; rfl) (by unfold maxLen; omega) (by omega) ?_; intro v2 w2 ho2 hg2 hl2; have hO2 := hO.step (x := (j : Int) + 1) (Tch.alloc _ _ _) ho2 hg2 hl2; obtain ⟨O2, co2, rfl, _, _⟩ := own_form ho2))
        go_roundw
        case rel => exact ⟨j + 1, _, by omega, by go_num, HS.out, hO2⟩
        case measure => simp [intOf]; omega
    · obtain rfl : n = j := by omega
      have HI1 := Lib.hid (HI.out wr hO.tch ((n : Int) + 1))
      rw [decide_eq_false (show ¬ (1 ≤ (n : Int) + 1 ∧ (n : Int) + 1 ≤ n) by omega)] at HI1
      have e := HX.out
      subst e
      go_wp2_with fail
      refine HI1.out.mono ?_
      rintro _ _ ⟨rfl, rfl⟩
      go_wp2
      go_ret
      exact ⟨_, rfl, hO⟩

set_option maxRecDepth 100000 in
set_option maxHeartbeats 800000 in
theorem fchildren_any (h : Blk w g 114 (holdsCells l n p n).toArray) (h40 : n ≤ 40) (x : Int) :
    Calls Tryz.prog 22 #[.pointer (some ⟨g, 0, none⟩), .int .i64 x] w fun e w' => ∃ u, e = .returned u ∧ OutI w w' u (if 1 ≤ x ∧ x ≤ n then (accIds n).filter (fun i => stkUp l i p == x) else []) := by
  have tw := Tch.alloc (fun _ => False) w (.cells #[.int .i64 x] 3)
  have bx := Blk.new w 3 #[.int .i64 x]
  have HI := Lib.hid (fun x => fis_any (h.keep tw id) x)
  by_cases hin : 1 ≤ x ∧ x ≤ n
  · have HI1 := Lib.hid (HI.out x)
    rw [decide_eq_true hin] at HI1
    rw [if_pos hin]
    have q0 : (w.alloc (.cells #[.int .i64 x] 3)).cell? ⟨w.heap.size, 0, none⟩ = some (.int .i64 x) := bx.cell 0
    go_enter Tryz.func22, Tryz.ntmps22
    go_wp2_with fail
    refine HI1.out.mono ?_
    rintro _ _ ⟨rfl, rfl⟩
    have tf := Tch.alloc (fun _ => False) (w.alloc (.cells #[.int .i64 x] 3)) (.cells #[.nilFunc] 62)
    have bf := Blk.new2 w (.cells #[.int .i64 x] 3) 62 #[.nilFunc]
    have bx2 := bx.keep tf id
    have h2 := (h.keep tw id).keep tf id
    have hg := h.lt
    have tt := tw.trans tf
    have hsz : ((w.alloc (.cells #[.int .i64 x] 3)).alloc (.cells #[.nilFunc] 62)).heap.size = w.heap.size + 2 := by simp
    clear HI HI1 q0 h tw tf bx
    go_wp2_with (refine wpList_store_cell rfl _ _ _ rfl (w.heap.size + 1) 0 (.func (.func 20) #[.pointer (some ⟨g, 0, none⟩)] #[]) (by rfl) (by rfl) rfl (by rfl) bf (by simp) ?_; refine Hid.out ?_)
    refine Lib.hid ?_
    intro w3 b3 ts
    (try simp only [List.setIfInBounds_toArray, List.set_cons_succ, List.set_cons_zero] at b3)
    have hb3 := h2.keep ts (by omega)
    have x3 := bx2.keep ts (by omega)
    have t3 := tt.trans' (F' := fun g => g = w.heap.size + 1) ts (fun i hi => .inr (by have hi : i = w.heap.size + 1 := hi; omega))
    have HT := Lib.hid (fthose_any hb3 h40 (show w3.cell? ⟨w.heap.size + 1, 0, none⟩ = some (.func (.func 20) #[.pointer (some ⟨g, 0, none⟩)] #[]) from b3.cell 0) (show w3.cell? ⟨w.heap.size, 0, none⟩ = some (.int .i64 x) from x3.cell 0))
    have T3 := Lib.hid t3
    clear bf bx2 h2 ts b3 hb3 x3 tt hsz t3
    go_wp2_with fail
    refine HT.out.mono ?_
    rintro _ w4 ⟨u, rfl, hO⟩
    obtain ⟨O, co, rfl, _, _⟩ := hO.form
    go_wp2
    go_ret
    exact ⟨_, rfl, hO.base T3.out⟩
  · have HI1 := Lib.hid (HI.out x)
    rw [decide_eq_false hin] at HI1
    rw [if_neg hin]
    have q0 : (w.alloc (.cells #[.int .i64 x] 3)).cell? ⟨w.heap.size, 0, none⟩ = some (.int .i64 x) := bx.cell 0
    go_enter Tryz.func22, Tryz.ntmps22
    go_wp2_with fail
    refine HI1.out.mono ?_
    rintro _ _ ⟨rfl, rfl⟩
    go_wp2
    go_ret
    exact ⟨_, rfl, Outs.start _ _ _ tw⟩
end
end Go.Proofs.YtnmogbhmelpbnaaGreat

/-
  Children, leaves, leaves that are split: the document's, the program's.
-/
namespace Go.Gk
theorem leaves_are {l : List Acc} {x : Int} (h : x ∈ accLeaves l) : accLeaf l x = true := by
  unfold accLeaves at h
  exact (List.mem_filter.1 h).2
theorem split_is {b : Bks} {x : Int} {k : Nat} {hk : k < b.accs.length} (h : b.accs[(x - 1).toNat]? = some b.accs[k]) : accSplit b x = b.accs[k].2.2.1 := by
  unfold accSplit
  rw [h]
  rfl
theorem take_filter {α : Type} (F : α → Bool) {l : List α} {j : Nat} (h : j < l.length) : (l.take (j + 1)).filter F = (l.take j).filter F ++ (if F l[j] then [l[j]] else []) := by
  rw [List.take_succ_eq_append_getElem h, filter_snoc]
end Go.Gk
namespace Go.Proofs.YtnmogbhmelpbnaaGreat
open Go.RowKit Go.Gk

set_option maxRecDepth 100000 in
set_option maxHeartbeats 800000 in
theorem refparent19_any {w : World} {v : Value} {l : List Stk4} (hl : RowsOf int4 4 (fun _ => True) w v l) (hn : l.length ≤ 400) (n p x : Int) :
    Calls Tryz.prog 104 #[.agg #[v, .int .i64 n, .int .i64 p], .int .i64 x] w fun e w' => e = .returned (.int .i64 (if 1 ≤ x ∧ x ≤ n then stkUp l x p else 0)) ∧ Tch (fun _ => False) w w' := by
  have tw := Tch.alloc (fun _ => False) w (.cells #[v, .int .i64 n, .int .i64 p] 104)
  have bF := Blk.new w 104 #[v, .int .i64 n, .int .i64 p]
  have HS := Lib.hid (fun w' (t : Tch (fun _ => False) w w') => refstkat_any (hl.keep t) (by omega) x p)
  obtain ⟨A, c, rfl, hc1, hc2⟩ := hl.form
  have HI := Lib.hid (refis19_any (.slice A l.length c) n p x (w.alloc (.cells #[.slice A l.length c, .int .i64 n, .int .i64 p] 104)))
  obtain ⟨R, hR⟩ : ∃ R, (if 1 ≤ x ∧ x ≤ n then stkUp l x p else 0) = R := ⟨_, rfl⟩
  rw [hR]
  have HR := Lib.hid hR
  clear hR hl
  by_cases hin : 1 ≤ x ∧ x ≤ n
  · rw [decide_eq_true hin] at HI
    rw [if_pos hin] at HR
    go_enter Tryz.func104, Tryz.ntmps104
    go_wp2_with fail
    generalize w.alloc _ = W at *
    generalize w.heap.size = z at *
    refine HI.out.mono ?_
    rintro _ w1 ⟨rfl, t1⟩
    have b1 := bF.keep t1 id
    have k0 : w1.cell? ⟨z, 0, none⟩ = some (.slice A l.length c) := b1.cell 0
    have k2 : w1.cell? ⟨z, 2, none⟩ = some (.int .i64 p) := b1.cell 2
    clear HI bF b1
    go_wp2_with fail
    refine (HS.out w1 (tw.trans t1)).mono ?_
    rintro _ w2 ⟨rfl, t2⟩
    rw [HR.out]
    go_wp2
    go_ret
    exact ⟨rfl, (tw.trans t1).trans t2⟩
  · rw [decide_eq_false hin] at HI
    rw [if_neg hin] at HR
    obtain rfl : (0 : Int) = R := HR.out
    clear HR HS
    go_enter Tryz.func104, Tryz.ntmps104
    go_wp2_with fail
    refine HI.out.mono ?_
    rintro _ w1 ⟨rfl, t1⟩
    go_wp2
    go_ret
    exact ⟨rfl, tw.trans t1⟩

set_option maxRecDepth 100000 in
set_option maxHeartbeats 1600000 in
theorem refkids19_any {w : World} {v : Value} {l : List Stk4} (hl : RowsOf int4 4 (fun _ => True) w v l) (hn : l.length ≤ 400) (n : Nat) (h40 : n ≤ 40) (p x : Int) :
    Calls Tryz.prog 46 #[.agg #[v, .int .i64 n, .int .i64 p], .int .i64 x] w fun e w' => ∃ u, e = .returned u ∧ OutI w w' u (if 1 ≤ x ∧ x ≤ n then (accIds n).filter (fun i => stkUp l i p == x) else []) := by
  have tw := Tch.alloc (fun _ => False) w (.cells #[v, .int .i64 n, .int .i64 p] 104)
  have bF := Blk.new w 104 #[v, .int .i64 n, .int .i64 p]
  obtain ⟨F, hF⟩ : ∃ F : Int → Bool, (fun i => stkUp l i p == x) = F := ⟨_, rfl⟩
  rw [hF]
  have HFE := Lib.hid (fun i => show (stkUp l i p == x) = F i by rw [← hF])
  have HP := Lib.hid (fun w' (t : Tch (fun _ => False) w w') i => refparent19_any (hl.keep t) hn (n : Int) p i)
  obtain ⟨A, c, rfl, hc1, hc2⟩ := hl.form
  have HI := Lib.hid (fun w' => refis19_any (.slice A l.length c) n p x w')
  obtain ⟨b, hb⟩ : ∃ b, decide (1 ≤ x ∧ x ≤ (n : Int)) = b := ⟨_, rfl⟩
  rw [hb] at HI
  obtain ⟨ys, hys⟩ : ∃ ys, (if b then (accIds n).filter F else []) = ys := ⟨_, rfl⟩
  have HY := Lib.hid hys
  have hy2 : (if 1 ≤ x ∧ x ≤ (n : Int) then (accIds n).filter F else []) = ys := by
    rw [← hys, ← hb]
    by_cases h : 1 ≤ x ∧ x ≤ (n : Int) <;> simp [h]
  rw [hy2]
  clear hl hF hys hy2 hb
  go_enter Tryz.func46, Tryz.ntmps46
  go_wp2_with fail
  generalize w.alloc _ = W at *
  generalize hzw : w.heap.size = z at *
  have HZW := Lib.hid hzw
  clear hzw
  go_loopw [5, 6] (fun out i wr => ∃ (j : Nat) (xs : List Int), j ≤ n ∧ i = .int .i64 ((j : Int) + 1) ∧ (if b then (accIds j).filter F else []) = xs ∧ OutI W wr out xs) (fun _ i _ => n + 1 - (intOf i).toNat)
  case atStart => exact ⟨0, [], Nat.zero_le _, rfl, by cases b <;> rfl, Outs.start _ _ _ (Tch.refl _ _)⟩
  case round =>
    obtain ⟨j, xs, hj, rfl, hx, hO⟩ := hrel
    obtain ⟨O, co, rfl, ho1, ho2⟩ := hO.form
    have hxl : xs.length ≤ j := by
      rw [← hx]
      split
      · exact Nat.le_trans (List.length_filter_le _ _) (by rw [accIds_len]; omega)
      · simp
    have HX := Lib.hid hx
    have hj0 : (0 : Int) ≤ (j : Int) := Int.natCast_nonneg _
    clear hx
    have bw := bF.keep hO.tch id
    have k0 : wr.cell? ⟨z, 0, none⟩ = some (.slice A l.length c) := bw.cell 0
    have k1 : wr.cell? ⟨z, 1, none⟩ = some (.int .i64 n) := bw.cell 1
    have k2 : wr.cell? ⟨z, 2, none⟩ = some (.int .i64 p) := bw.cell 2
    by_cases hlt : j < n
    · have hlt' : (j : Int) < (n : Int) := by omega
      have hji : 1 ≤ (j : Int) + 1 ∧ (j : Int) + 1 ≤ n := by omega
      have HS := Lib.hid (show (if b then (accIds (j + 1)).filter F else []) = xs ++ (if b && F ((j : Int) + 1) then [(j : Int) + 1] else []) by
        rw [accIds_succ, filter_snoc, ← HX.out]
        cases b <;> simp)
      have HF1 := Lib.hid (HFE.out ((j : Int) + 1))
      go_wp2_with fail
      refine (HI.out wr).mono ?_
      rintro _ w1 ⟨rfl, t1⟩
      have hO := hO.keep t1
      have bw := bw.keep t1 id
      clear k0 k1 k2
      cases b
      · have HS := Lib.hid (show (if false = true then (accIds (j + 1)).filter F else []) = xs by rw [HS.out]; simp)
        go_wp2
        go_roundw
        case rel => exact ⟨j + 1, xs, by omega, by go_num, HS.out, hO⟩
        case measure => simp [intOf]; omega
      · have k0 : w1.cell? ⟨z, 0, none⟩ = some (.slice A l.length c) := bw.cell 0
        have k1 : w1.cell? ⟨z, 1, none⟩ = some (.int .i64 n) := bw.cell 1
        have k2 : w1.cell? ⟨z, 2, none⟩ = some (.int .i64 p) := bw.cell 2
        have HP1 := Lib.hid (HP.out w1 (tw.trans hO.tch) ((j : Int) + 1))
        rw [if_pos hji] at HP1
        generalize stkUp l ((j : Int) + 1) p = u at *
        go_wp2_with fail
        refine HP1.out.mono ?_
        rintro _ w2 ⟨rfl, t2⟩
        have hO := hO.keep t2
        clear k0 k1 k2 HP1
        by_cases hu : u = x
        · have HS := Lib.hid (show (if true = true then (accIds (j + 1)).filter F else []) = xs ++ [(j : Int) + 1] by have h9 := HS.out; rw [← HF1.out] at h9; simpa [hu] using h9)
          have hu2 : (u == x) = true := by simpa using hu
          clear HF1 hu
          go_wp2_with ((at_builtin; refine wpList_append _ rfl _ _ 22 rfl rowInts (own_base (hO.own.alloc _)) (by rfl) (Go.Gk.Src.one (news := [.int .i64 ((j : Int) + 1)]) rfl (fun m9 u9 hu9 => by rw [(Blk.new (w2) 3 #[.int .i64 ((j : Int) + 1)]).cell m9]; simpa using hu9)) (by rfl) (by simp; rfl) (by unfold maxLen; omega) (by omega) ?_; intro v2 w2 ho2 hg2 hl2; have hO2 := hO.step (x := (j : Int) + 1) (Tch.alloc _ _ _) ho2 hg2 hl2; obtain ⟨O2, co2, rfl, _, _⟩ := own_form ho2))
          go_roundw
          case rel => exact ⟨j + 1, _, by omega, by go_num, HS.out, hO2⟩
          case measure => simp [intOf]; omega
        · have HS := Lib.hid (show (if true = true then (accIds (j + 1)).filter F else []) = xs by have h9 := HS.out; rw [← HF1.out] at h9; simpa [hu] using h9)
          have hu2 : (u == x) = false := by simpa using hu
          clear HF1 hu
          go_wp2
          go_roundw
          case rel => exact ⟨j + 1, xs, by omega, by go_num, HS.out, hO⟩
          case measure => simp [intOf]; omega
    · obtain rfl : n = j := by omega
      rw [HY.out] at HX
      have e := HX.out
      subst e
      go_wp2
      go_ret
      exact ⟨_, rfl, hO.base tw⟩

set_option maxRecDepth 100000 in
set_option maxHeartbeats 1600000 in
theorem refleaves20_any {w : World} {v : Value} {l : List Acc} (hl : RowsOf acc4 4 (fun _ => True) w v l) (hn : l.length ≤ 100000) :
    Calls Tryz.prog 106 #[v] w fun e w' => ∃ u, e = .returned u ∧ OutI w w' u (accLeaves l) := by
  unfold accLeaves
  have HL := Lib.hid (fun w' (t : Tch (fun _ => False) w w') i => refleaf_any (hl.keep t) hn i)
  obtain ⟨A, c, rfl, hc1, hc2⟩ := hl.form
  obtain ⟨F, hF⟩ : ∃ F : Int → Bool, accLeaf l = F := ⟨_, rfl⟩
  rw [hF] at HL ⊢
  clear hF hl
  go_enter Tryz.func106, Tryz.ntmps106
  go_wp2_with fail
  go_loopw [3, 4] (fun out i wr => ∃ (j : Nat) (xs : List Int), j ≤ l.length ∧ i = .int .i64 ((j : Int) + 1) ∧ (accIds j).filter F = xs ∧ OutI w wr out xs) (fun _ i _ => l.length + 1 - (intOf i).toNat)
  case atStart => exact ⟨0, [], Nat.zero_le _, rfl, rfl, Outs.start _ _ _ (Tch.refl _ _)⟩
  case round =>
    obtain ⟨j, xs, hj, rfl, hx, hO⟩ := hrel
    obtain ⟨O, co, rfl, ho1, ho2⟩ := hO.form
    have hxl : xs.length ≤ j := by
      rw [← hx]
      exact Nat.le_trans (List.length_filter_le _ _) (by rw [accIds_len]; omega)
    have HX := Lib.hid hx
    have hj0 : (0 : Int) ≤ (j : Int) := Int.natCast_nonneg _
    clear hx
    by_cases hlt : j < l.length
    · have hlt' : (j : Int) < (l.length : Int) := by omega
      have HS := Lib.hid (show (accIds (j + 1)).filter F = xs ++ (if F ((j : Int) + 1) then [(j : Int) + 1] else []) by rw [accIds_succ, filter_snoc, HX.out])
      have HL1 := Lib.hid (HL.out wr hO.tch ((j : Int) + 1))
      generalize F ((j : Int) + 1) = f at *
      go_wp2_with fail
      refine HL1.out.mono ?_
      rintro _ w1 ⟨rfl, t1⟩
      clear HL1
      have hO := hO.keep t1
      cases f
      · have HS := Lib.hid (show (accIds (j + 1)).filter F = xs by rw [HS.out]; simp)
        go_wp2
        go_roundw
        case rel => exact ⟨j + 1, xs, by omega, by go_num, HS.out, hO⟩
        case measure => simp [intOf]; omega
      · go_wp2_with ((at_builtin; refine wpList_append _ rfl _ _ 22 rfl rowInts (own_base (hO.own.alloc _)) (by rfl) (Go.Gk.Src.one (news := [.int .i64 ((j : Int) + 1)]) rfl (fun m9 u9 hu9 => by rw [(Blk.new (w1) 3 #[.int .i64 ((j : Int) + 1)]).cell m9]; simpa using hu9)) (by rfl) (by simp; rfl) (by unfold maxLen; omega) (by omega) ?_; intro v2 w2 ho2 hg2 hl2; have hO2 := hO.step (x := (j : Int) + 1) (Tch.alloc _ _ _) ho2 hg2 hl2; obtain ⟨O2, co2, rfl, _, _⟩ := own_form ho2))
        go_roundw
        case rel => exact ⟨j + 1, _, by omega, by go_num, HS.out, hO2⟩
        case measure => simp [intOf]; omega
    · obtain rfl : l.length = j := by omega
      have e := HX.out
      subst e
      go_wp2
      go_ret
      exact ⟨_, rfl, hO⟩

set_option maxRecDepth 100000 in
set_option maxHeartbeats 800000 in
theorem refleaves30_any {w : World} {e a s r l n : Value} {b : Bks} {us : List (Ent × Value)} (h : BksAt w e a s r l n b us) (hn : b.accs.length ≤ 100000) :
    Calls Tryz.prog 50 #[.agg #[e, a, s, r, l, n]] w fun y w' => ∃ u, y = .returned u ∧ OutI w w' u (accLeaves b.accs) := by
  have tw := Tch.alloc (fun _ => False) w (.cells #[e, a, s, r, l, n] 29)
  have HC := Lib.hid (refleaves20_any (h.keep tw).accs hn)
  generalize accLeaves b.accs = L at *
  obtain ⟨Ae, ce, rfl, _, _⟩ := h.ents.form
  obtain ⟨Aa, ca, rfl, _, _⟩ := h.accs.form
  obtain ⟨As, cs, rfl, _, _⟩ := h.stakes.form
  obtain ⟨Ar, cr, rfl, _, _⟩ := h.rates.form
  obtain ⟨Al, cl, rfl, _, _⟩ := h.locks.form
  obtain ⟨An, cn, rfl, _, _⟩ := h.ent.row.form
  clear h
  go_enter Tryz.func50, Tryz.ntmps50
  go_wp2_with fail
  refine HC.out.mono ?_
  rintro _ w2 ⟨u, rfl, hO⟩
  obtain ⟨O, co, rfl, _, _⟩ := hO.form
  go_wp2
  go_ret
  exact ⟨_, rfl, hO.base tw⟩

set_option maxRecDepth 100000 in
set_option maxHeartbeats 1600000 in
theorem refsplit36_any {w : World} {e a s r l n : Value} {b : Bks} {us : List (Ent × Value)} (h : BksAt w e a s r l n b us) (hn : b.accs.length ≤ 100000) :
    Calls Tryz.prog 17 #[.agg #[e, a, s, r, l, n]] w fun y w' => ∃ u, y = .returned u ∧ OutI w w' u (splitsOf b) := by
  have tw := Tch.alloc (fun _ => False) w (.cells #[e, a, s, r, l, n] 29)
  have bB := Blk.new w 29 #[e, a, s, r, l, n]
  have HC := Lib.hid (refleaves30_any (h.keep tw) hn)
  unfold splitsOf
  have HLF := Lib.hid (fun x (hx : x ∈ accLeaves b.accs) => accIs_at (leaves_are hx))
  have hLn : (accLeaves b.accs).length ≤ b.accs.length := by
    unfold accLeaves
    exact Nat.le_trans (List.length_filter_le _ _) (by rw [accIds_len]; omega)
  generalize accLeaves b.accs = L at *
  have hacc := (h.keep tw).accs
  obtain ⟨Ae, ce, rfl, _, _⟩ := h.ents.form
  obtain ⟨Aa, ca, rfl, _, _⟩ := h.accs.form
  obtain ⟨As, cs, rfl, _, _⟩ := h.stakes.form
  obtain ⟨Ar, cr, rfl, _, _⟩ := h.rates.form
  obtain ⟨Al, cl, rfl, _, _⟩ := h.locks.form
  obtain ⟨An, cn, rfl, _, _⟩ := h.ent.row.form
  obtain ⟨F, hF⟩ : ∃ F : Int → Bool, accSplit b = F := ⟨_, rfl⟩
  rw [hF]
  have HFE := Lib.hid hF
  clear h hF
  go_enter Tryz.func17, Tryz.ntmps17
  go_wp2_with fail
  generalize w.alloc _ = W at *
  generalize hzw : w.heap.size = z at *
  have HZW := Lib.hid hzw
  clear hzw
  refine HC.out.mono ?_
  rintro _ w1 ⟨u, rfl, hL⟩
  obtain ⟨U, cu, rfl, hu1, hu2⟩ := hL.form
  have hrow := hL.row
  have t1 := hL.tch
  have HA := Lib.hid (fun w' (t : Tch (fun _ => False) w1 w') => (hacc.keep t1).keep t)
  have b1 := bB.keep t1 id
  have tt := tw.trans t1
  clear HC hL hacc bB tw
  go_wp2_with fail
  go_loopw [4, 5] (fun out i wr => ∃ (j : Nat) (xs : List Int), j ≤ L.length ∧ i = .int .i64 j ∧ (L.take j).filter F = xs ∧ OutI w1 wr out xs) (fun _ i _ => L.length - (intOf i).toNat)
  case atStart => exact ⟨0, [], Nat.zero_le _, rfl, rfl, Outs.start _ _ _ (Tch.refl _ _)⟩
  case round =>
    obtain ⟨j, xs, hj, rfl, hx, hO⟩ := hrel
    obtain ⟨O, co, rfl, ho1, ho2⟩ := hO.form
    have hxl : xs.length ≤ j := by
      rw [← hx]
      exact Nat.le_trans (List.length_filter_le _ _) (by rw [List.length_take]; omega)
    have HX := Lib.hid hx
    have hj0 : (0 : Int) ≤ (j : Int) := Int.natCast_nonneg _
    clear hx
    by_cases hlt : j < L.length
    · have hlt' : (j : Int) < (L.length : Int) := by omega
      obtain ⟨g, o, rfl⟩ := hrow.head (by omega)
      have HR := Lib.hid (fun w' (t : Tch (fun _ => False) w1 w') => Row.one (hrow.keep t) int1_len hlt rfl)
      obtain ⟨k, hk, hxk, hat⟩ := HLF.out L[j] (List.getElem_mem _)
      have HS := Lib.hid (show (L.take (j + 1)).filter F = xs ++ (if b.accs[k].2.2.1 then [L[j]] else []) by rw [take_filter F hlt, HX.out, ← HFE.out, split_is hat])
      obtain ⟨g2, o2, rfl⟩ := (HA.out w1 (Tch.refl _ _)).head (by omega)
      have HQ := Lib.hid (fun w' (t : Tch (fun _ => False) w1 w') => Row.four (HA.out w' t) acc4_len hk rfl)
      have hk' : (k : Int) < (b.accs.length : Int) := by omega
      have hk0 : (0 : Int) ≤ (k : Int) := Int.natCast_nonneg _
      generalize L[j] = x at *
      generalize b.accs[k] = y at *
      obtain ⟨y1, y2, y3, y4⟩ := y
      simp only at HQ HS
      subst hxk
      have Y1 := within_cell (F := fun _ => False) (show wr.cell? ⟨z, 1, none⟩ = some (.slice (some ⟨g2, o2, none⟩) b.accs.length ca) from (b1.keep hO.tch id).cell 1) id
      have Y2 := within_cell (F := fun _ => False) (HR.out wr hO.tch) id
      go_wp2_with fail
      refine wp_region_touch (fun _ => False) [] 7 [] [] (by kernel_rfl) rfl (by kernel_rfl) rfl (fun d _ _ _ _ h => by cases d <;> exact h) ?_ ?_
      · exact trivial
      (intro bef ops hbef hops; clear hbef; subst hops; simp only [List.take_succ_cons, List.take_zero, List.drop_succ_cons, List.drop_zero])
      iterate 7 (refine t_det (by rfl) (by rfl) (by rfl) (by rfl) (fun K hK => ?_); go_big_quiet_op; (first | refine hK _ ?_ | refine ⟨_, fun _ => rfl, hK _ ?_⟩); clear hK K; (try simp only [Act.put, List.setIfInBounds_toArray, List.set_cons_succ, List.set_cons_zero]))
      refine t_nil ?_
      intro w2 hr hp1 hap
      have t2 := (Tch.drew (fun _ => False) wr).trans hr
      have hO := hO.keep t2
      obtain ⟨q0, q1, q2, q3⟩ := HQ.out w2 hO.tch
      have q4 := HR.out w2 hO.tch
      clear hap hp1 hr Y1 Y2 HQ HR
      cases y3
      · have HS := Lib.hid (show (L.take (j + 1)).filter F = xs by rw [HS.out]; simp)
        go_wp2
        go_roundw
        case rel => exact ⟨j + 1, xs, by omega, by go_num, HS.out, hO⟩
        case measure => simp [intOf]; omega
      · go_wp2_with ((at_builtin; refine wpList_append _ rfl _ _ 22 rfl rowInts (own_base (hO.own.alloc _)) (by rfl) (Go.Gk.Src.one (news := [.int .i64 ((k : Int) + 1)]) rfl (fun m9 u9 hu9 => by rw [(Blk.new (w2) 3 #[.int .i64 ((k : Int) + 1)]).cell m9]; simpa using hu9)) (by rfl) (by simp; rfl) (by unfold maxLen; omega) (by omega) ?_; intro v2 w2 ho2 hg2 hl2; have hO2 := hO.step (x := (k : Int) + 1) (Tch.alloc _ _ _) ho2 hg2 hl2; obtain ⟨O2, co2, rfl, _, _⟩ := own_form ho2))
        go_roundw
        case rel => exact ⟨j + 1, _, by omega, by go_num, HS.out, hO2⟩
        case measure => simp [intOf]; omega
    · obtain rfl : L.length = j := by omega
      rw [List.take_length] at HX
      have e := HX.out
      subst e
      go_wp2
      go_ret
      exact ⟨_, rfl, hO.base tt⟩

set_option maxRecDepth 100000 in
set_option maxHeartbeats 800000 in
theorem vwleaves_any {w : World} {bv bi B t mr mp : Nat} {e a s r l n lv : Value} {fs : List Value} {b : Bks} {us : List (Ent × Value)} (h : Vw w bv bi B t mr mp e a s r l n lv fs b us) (hn : (accLeaves b.accs).length ≤ 1000) :
    Calls Tryz.prog 49 #[.pointer (some ⟨bv, 0, none⟩)] w fun x w' => ∃ u, x = .returned u ∧ OutI w w' u (accLeaves b.accs) := by
  have hM := vwmade_any h
  have HC := Lib.hid (cloneints_any h.leaves (by omega))
  obtain ⟨A, c, rfl, _, _⟩ := h.leaves.form
  have v0 : w.cell? ⟨bv, 0, none⟩ = some _ := h.view.cell 0
  have v7 : w.cell? ⟨bi, 7, none⟩ = some (.slice A (accLeaves b.accs).length c) := h.seen.cell 7
  generalize accLeaves b.accs = L at *
  go_enter Tryz.func49, Tryz.ntmps49
  go_wp2_with fail
  refine hM.mono ?_
  rintro _ _ ⟨rfl, rfl⟩
  clear hM
  go_wp2_with fail
  refine HC.out.mono ?_
  rintro _ w1 ⟨u, rfl, hO⟩
  obtain ⟨O, co, rfl, _, _⟩ := hO.form
  go_wp2
  go_ret
  exact ⟨_, rfl, hO⟩

set_option maxRecDepth 100000 in
set_option maxHeartbeats 800000 in
theorem vwleaves_nil (w : World) :
    Calls Tryz.prog 49 #[.pointer none] w fun x w' => x = .returned (.slice none 0 0) ∧ w = w' := by
  go_enter Tryz.func49, Tryz.ntmps49
  go_wp2_with fail
  refine (vwmade_nil w).mono ?_
  rintro _ _ ⟨rfl, rfl⟩
  go_wp2
  go_ret
  exact ⟨rfl, rfl⟩

set_option maxRecDepth 100000 in
set_option maxHeartbeats 1600000 in
theorem conssplit_any {w : World} {bv bi B t mr mp : Nat} {e a s r l n lv : Value} {fs : List Value} {b : Bks} {us : List (Ent × Value)} (h : Vw w bv bi B t mr mp e a s r l n lv fs b us) (hn : (accLeaves b.accs).length ≤ 1000) :
    Calls Tryz.prog 16 #[.pointer (some ⟨bv, 0, none⟩)] w fun x w' => ∃ u, x = .returned u ∧ OutI w w' u (splitsOf b) := by
  have HC := Lib.hid (vwleaves_any h hn)
  unfold splitsOf
  have HLF := Lib.hid (fun x (hx : x ∈ accLeaves b.accs) => accIs_at (leaves_are hx))
  generalize accLeaves b.accs = L at *
  obtain ⟨F, hF⟩ : ∃ F : Int → Bool, accSplit b = F := ⟨_, rfl⟩
  rw [hF]
  have HFE := Lib.hid hF
  have HAC := Lib.hid (fun w' (t : Tch (fun _ => False) w w') k hk x hx => vwaccount_any (h.keep t) (k := k) hk x hx)
  clear h hF
  go_enter Tryz.func16, Tryz.ntmps16
  go_wp2_with fail
  refine HC.out.mono ?_
  rintro _ w1 ⟨u, rfl, hL⟩
  obtain ⟨U, cu, rfl, hu1, hu2⟩ := hL.form
  have hrow := hL.row
  have t1 := hL.tch
  clear HC hL
  go_wp2_with fail
  go_loopw [3, 11] (fun out i wr => ∃ (j : Nat) (xs : List Int), j ≤ L.length ∧ i = .int .i64 j ∧ (L.take j).filter F = xs ∧ OutI w1 wr out xs) (fun _ i _ => L.length - (intOf i).toNat)
  case atStart => exact ⟨0, [], Nat.zero_le _, rfl, rfl, Outs.start _ _ _ (Tch.refl _ _)⟩
  case round =>
    obtain ⟨j, xs, hj, rfl, hx, hO⟩ := hrel
    obtain ⟨O, co, rfl, ho1, ho2⟩ := hO.form
    have hxl : xs.length ≤ j := by
      rw [← hx]
      exact Nat.le_trans (List.length_filter_le _ _) (by rw [List.length_take]; omega)
    have HX := Lib.hid hx
    have hj0 : (0 : Int) ≤ (j : Int) := Int.natCast_nonneg _
    clear hx
    by_cases hlt : j < L.length
    · have hlt' : (j : Int) < (L.length : Int) := by omega
      obtain ⟨g, o, rfl⟩ := hrow.head (by omega)
      have q0 := Row.one (hrow.keep hO.tch) int1_len hlt rfl
      obtain ⟨k, hk, hxk, hat⟩ := HLF.out L[j] (List.getElem_mem _)
      have HS := Lib.hid (show (L.take (j + 1)).filter F = xs ++ (if b.accs[k].2.2.1 then [L[j]] else []) by rw [take_filter F hlt, HX.out, ← HFE.out, split_is hat])
      have HA1 := Lib.hid (HAC.out wr (t1.trans hO.tch) k hk L[j] hxk)
      generalize L[j] = x at *
      generalize b.accs[k] = y at *
      obtain ⟨y1, y2, y3, y4⟩ := y
      unfold acc4 at HA1
      simp only at HA1 HS
      clear hxk hat
      go_wp2_with fail
      refine HA1.out.mono ?_
      rintro _ w2 ⟨rfl, t2⟩
      have hO := (hO.keep t2).keep (Tch.alloc (fun _ => False) w2 (.cells #[.int .i64 y1, .int .i64 y2, .bool y3, .bool y4] 64))
      clear q0 HA1
      cases y3
      · have HS := Lib.hid (show (L.take (j + 1)).filter F = xs by rw [HS.out]; simp)
        go_wp2
        go_roundw
        case rel => exact ⟨j + 1, xs, by omega, by go_num, HS.out, hO⟩
        case measure => simp [intOf]; omega
      · go_wp2_with ((at_builtin; refine wpList_append _ rfl _ _ 22 rfl rowInts (own_base (hO.own.alloc _)) (by rfl) (Go.Gk.Src.one (news := [.int .i64 (x)]) rfl (fun m9 u9 hu9 => by rw [(Blk.new2 (w2) (.cells #[.int .i64 y1, .int .i64 y2, .bool true, .bool y4] 64) 3 #[.int .i64 (x)]).cell m9]; simpa using hu9)) (by rfl) (by simp; rfl) (by unfold maxLen; omega) (by omega) ?_; intro v2 w2 ho2 hg2 hl2; have hO2 := hO.step (x := x) (Tch.alloc _ _ _) ho2 hg2 hl2; obtain ⟨O2, co2, rfl, _, _⟩ := own_form ho2))
        go_roundw
        case rel => exact ⟨j + 1, _, by omega, by go_num, HS.out, hO2⟩
        case measure => simp [intOf]; omega
    · obtain rfl : L.length = j := by omega
      rw [List.take_length] at HX
      have e := HX.out
      subst e
      go_wp2
      go_ret
      exact ⟨_, rfl, hO.base t1⟩

set_option maxRecDepth 100000 in
set_option maxHeartbeats 800000 in
theorem conssplit_nil (w : World) :
    Calls Tryz.prog 16 #[.pointer none] w fun x w' => x = .returned (.slice none 0 0) ∧ Tch (fun _ => False) w w' := by
  go_enter Tryz.func16, Tryz.ntmps16
  go_wp2_with fail
  refine (vwleaves_nil w).mono ?_
  rintro _ _ ⟨rfl, rfl⟩
  go_wp2_with fail
  go_loopw [3, 11] (fun out i wr => out = .slice none 0 0 ∧ i = .int .i64 0 ∧ w = wr) (fun _ _ _ => 0)
  case atStart => exact ⟨rfl, rfl, rfl⟩
  case round =>
    obtain ⟨rfl, rfl, rfl⟩ := hrel
    go_wp2
    go_ret
    exact ⟨rfl, Tch.refl _ _⟩

set_option maxRecDepth 100000 in
set_option maxHeartbeats 800000 in
theorem sameints_any {w : World} {u v : Value} {l : List Int} (hu : RowsOf int1 1 (fun _ => True) w u l) (hv : RowsOf int1 1 (fun _ => True) w v l) :
    Calls Tryz.prog 15 #[u, v] w fun e w' => e = .returned (.bool true) ∧ Tch (fun _ => False) w w' := by
  obtain ⟨A, c, rfl, hc1, hc2⟩ := hu.form
  obtain ⟨A', c', rfl, hc3, hc4⟩ := hv.form
  have hmax : l.length ≤ maxLen := Nat.le_trans hc1 hc2
  unfold maxLen at hmax
  go_enter Tryz.func15, Tryz.ntmps15
  go_wp2_with fail
  go_loopw [5] (fun i wr => ∃ j : Nat, j ≤ l.length ∧ i = .int .i64 j ∧ Tch (fun _ => False) w wr) (fun i _ => l.length - (intOf i).toNat)
  case atStart => exact ⟨0, Nat.zero_le _, rfl, Tch.refl _ _⟩
  case round =>
    obtain ⟨j, hj, rfl, ht⟩ := hrel
    have hj0 : (0 : Int) ≤ (j : Int) := Int.natCast_nonneg _
    by_cases hlt : j < l.length
    · have hlt' : (j : Int) < (l.length : Int) := by omega
      obtain ⟨g, o, rfl⟩ := hu.head (by omega)
      obtain ⟨g', o', rfl⟩ := hv.head (by omega)
      have Y1 := within_cell (F := fun _ => False) (Row.one (hu.keep ht) int1_len hlt rfl) id
      have Y2 := within_cell (F := fun _ => False) (Row.one (hv.keep ht) int1_len hlt rfl) id
      generalize l[j] = x at *
      go_wp2_with fail
      refine wp_region_touch (fun _ => False) [] 8 [] [] (by kernel_rfl) rfl (by kernel_rfl) rfl (fun d _ _ _ _ h => by cases d <;> exact h) ?_ ?_
      · exact trivial
      (intro bef ops hbef hops; clear hbef; subst hops; simp only [List.take_succ_cons, List.take_zero, List.drop_succ_cons, List.drop_zero])
      iterate 8 (refine t_det (by rfl) (by rfl) (by rfl) (by rfl) (fun K hK => ?_); go_big_quiet_op; (first | refine hK _ ?_ | refine ⟨_, fun _ => rfl, hK _ ?_⟩); clear hK K; (try simp only [Act.put, List.setIfInBounds_toArray, List.set_cons_succ, List.set_cons_zero]))
      refine t_nil ?_
      intro w2 hr hp1 hap
      have t2 := ht.trans ((Tch.drew (fun _ => False) wr).trans hr)
      clear hap hp1 hr Y1 Y2
      go_wp2
      go_roundw
      case rel => exact ⟨j + 1, by omega, by go_num, t2⟩
      case measure => simp [intOf]; omega
    · obtain rfl : l.length = j := by omega
      go_wp2
      go_ret
      exact ⟨rfl, ht⟩
end Go.Proofs.YtnmogbhmelpbnaaGreat

/-
  copy: elements of some cells each laid into the midst of a row that is known whole.
-/
namespace Go.Gk
open Go.RowKit
section
variable {P : Program} {ops : Array Oper} {rest : List Oper} {o : Oper} {a : Act} {w : World} {Q : Exit → Act → World → Prop}
theorem run_copy_part (ty dT sT elem : TypeId) {size : Nat} (hu : P.underlying dT = some (.slice elem)) (hsz : (P.info? elem).map (·.size) = some size)
    (A : Option Addr) (dLen dCap : Nat) (S : Option Addr) (sLen sCap : Nat) (hle : sLen ≤ dLen) {cs : List Value} {P' : Nat → Prop} (hrow : Row P' w (.slice S sLen sCap) sLen size cs)
    (g : Nat) (pre mid suf : List Value) (hA : 0 < sLen → A = some ⟨g, pre.length, none⟩) {t : TypeId} (hb : Blk w g t (pre ++ mid ++ suf).toArray) (hm : mid.length = cs.length) (h1 : ∀ v ∈ cs, v.oneCell' = true) :
    ∃ W, (Builtin.copy_ #[dT, sT] ty #[.slice A dLen dCap, .slice S sLen sCap]).run P w = .ok (goInt sLen) W ∧ Blk W g t (pre ++ cs ++ suf).toArray ∧ Tch (fun k => k = g) w W := by
  have hmin : Nat.min sLen dLen = sLen := Nat.min_eq_left hle
  obtain ⟨S', c', e, _, _, hlen, _, hpos⟩ := hrow
  injection e with e1 e2 e3
  subst e1
  subst e3
  have hso := sizeOf_run hsz w
  by_cases h0 : sLen = 0
  · subst h0
    obtain rfl : cs = [] := List.eq_nil_of_length_eq_zero (by simpa using hlen)
    obtain rfl : mid = [] := List.eq_nil_of_length_eq_zero (by simpa using hm)
    refine ⟨w, ?_, hb, Tch.refl _ _⟩
    cases S with
    | none => cases A <;> simp [Builtin.copy_, run_underlying hu, Builtin.lenOf, Builtin.firstCells, hso, storeCells, Sem.run_bind, Result.andThen]
    | some s => cases A <;> simp [Builtin.copy_, run_underlying hu, Builtin.lenOf, Builtin.firstCells, hso, storeCells, loadCells, loadCellsFrom, Sem.run_bind, Result.andThen]
  · obtain ⟨gs, os, rfl, _, hcell⟩ := hpos (by omega)
    obtain rfl := hA (by omega)
    have hadd : ∀ j, (⟨gs, os, none⟩ : Addr).add j = ⟨gs, os + j, none⟩ := fun j => by unfold Addr.add; split <;> simp_all
    have hf := run_firstCells_some (P := P) w size sLen ⟨gs, os, none⟩ sLen sCap cs hlen (fun j v hj => by rw [hadd]; exact hcell j v hj)
    have hst := run_storeCells_at P g pre.length t cs 0 (pre ++ mid ++ suf).toArray w hb (by simp; omega) h1
    have e9 : ((pre ++ mid ++ suf).toArray.toList.take (pre.length + 0) ++ cs ++ (pre ++ mid ++ suf).toArray.toList.drop (pre.length + 0 + cs.length)) = pre ++ cs ++ suf := by
      simp only [Nat.add_zero, List.append_assoc]
      rw [List.take_left, ← hm]
      congr 2
      rw [← List.append_assoc, ← List.length_append]
      exact List.drop_left
    rw [e9] at hst
    have h9 := setRow_heap w g _ ((pre ++ cs ++ suf).toArray) t (0, 0) hb
    refine ⟨w.setRow g (pre ++ cs ++ suf).toArray, ?_, h9, ⟨rfl, rfl, rfl, by simp [World.setRow], fun k _ hk => setRow_other w g k _ hk⟩⟩
    unfold Builtin.copy_
    simp [run_underlying hu, Builtin.lenOf, hmin, hso, hf, hst]
theorem wpList_copy_part (hgd : o.guard = none) (d s : Operand) (dT sT : TypeId) (ho : o.op = .call { callee := .builtin .copy, args := #[d, s], argTypes := #[dT, sT] }) (elem : TypeId) {size : Nat} (hu : P.underlying dT = some (.slice elem)) (hsz : (P.info? elem).map (·.size) = some size)
    (A : Option Addr) (dLen dCap : Nat) (S : Option Addr) (sLen sCap : Nat) (hd : a.eval d = .slice A dLen dCap) (hs : a.eval s = .slice S sLen sCap) (hle : sLen ≤ dLen) {cs : List Value} {P' : Nat → Prop} (hrow : Row P' w (.slice S sLen sCap) sLen size cs)
    (g : Nat) (pre mid suf : List Value) (hA : 0 < sLen → A = some ⟨g, pre.length, none⟩) {t : TypeId} (hb : Blk w g t (pre ++ mid ++ suf).toArray) (hm : mid.length = cs.length) (h1 : ∀ v ∈ cs, v.oneCell' = true)
    (h : ∀ W, Blk W g t (pre ++ cs ++ suf).toArray → Tch (fun k => k = g) w W → wpList P ops Q rest (a.put o.dst (goInt sLen)) W) : wpList P ops Q (o :: rest) a w := by
  obtain ⟨W, hrun, hB, hT⟩ := run_copy_part (P := P) (w := w) o.type dT sT elem hu hsz A dLen dCap S sLen sCap hle hrow g pre mid suf hA hb hm h1
  refine wpList_plain hgd fun K hK => ?_
  unfold Oper.wp
  simp [execOp, ho, resolve, invoke, builtin, hd, hs, hrun, Result.andThen]
  exact hK _ _ (h W hB hT)
theorem wpList_cut (hgd : o.guard = none) (t : TypeId) (x lo : Operand) (ho : o.op = .slice t x (some lo) none none)
    {e : TypeId} {size : Nat} (hu : P.underlying t = some (.slice e)) (hs : (P.info? e).map (·.size) = some size) {g n k : Nat} {K : Int} (hx : a.eval x = .slice (some ⟨g, 0, none⟩) n n) (hK : K = k) (hk : a.eval lo = .int .i64 K) (hkn : k < n)
    (h : wpList P ops Q rest (a.put o.dst (.slice (some ⟨g, k * size, none⟩) (n - k) (n - k))) w) : wpList P ops Q (o :: rest) a w := by
  subst hK
  refine wpList_cut_l hgd t x lo ho hu hs hx hk (Nat.le_of_lt hkn) ?_
  have e9 : sliced (some ⟨g, 0, none⟩) k n n size = .slice (some ⟨g, k * size, none⟩) (n - k) (n - k) := by
    have hadd : (⟨g, 0, none⟩ : Addr).add (k * size) = ⟨g, k * size, none⟩ := by unfold Addr.add; split <;> simp_all
    unfold sliced
    rw [if_neg (by omega)]
    simp [hadd]
  rw [e9]
  exact h
theorem wpList_make (hgd : o.guard = none) (t : TypeId) (x y : Operand) (ho : o.op = .makeSlice t x y) {e : TypeId} {z : Value} {size bytes : Nat} (hr : RowTy P t e z size bytes) {N : Int} {n : Nat} (hN : N = n) (hx : a.eval x = .int .i64 N) (hy : a.eval y = .int .i64 N) (hb : bytes * n ≤ 281474976710656) (h63 : n ≤ 9223372036854775807)
    (h : ∀ (cells : List Value) (W : World), cells.length = n * size → Blk W w.heap.size e cells.toArray → Tch (fun _ => False) w W → w.heap.size < W.heap.size → wpList P ops Q rest (a.put o.dst (.slice (some ⟨w.heap.size, 0, none⟩) n n)) W) : wpList P ops Q (o :: rest) a w := by
  subst hN
  obtain ⟨i, hi, hz, hsize, hby⟩ := info_parts hr.info
  have hb' : (i.bytes : Int) * (n : Int) ≤ 281474976710656 := by
    rw [hby]
    have h9 : ((bytes * n : Nat) : Int) ≤ 281474976710656 := by omega
    rwa [Int.natCast_mul] at h9
  have hrun := run_make (P := P) w t e i z hr.und hi hz .i64 .i64 n n (by omega) (Int.le_refl _) hb' (by omega)
  simp only [Int.toNat_natCast] at hrun
  refine wpList_plain hgd fun K hK => ?_
  unfold Oper.wp execOp
  simp only [ho, hx, hy, Sem.run_bind, Sem.run_pure, Result.andThen_ok, hrun]
  refine hK _ _ (h (madeCells z.cells (n * i.size)).toList _ ?_ ?_ (Tch.alloc _ _ _) (by simp))
  · rw [Array.length_toList, size_madeCells, hsize]
  · rw [Array.toArray_toList]
    exact Blk.new _ _ _
theorem wpList_store_at (hgd : o.guard = none) (ty : TypeId) (x y : Operand) (ho : o.op = .store ty x y) (b off : Nat) (pre mid vs suf : List Value) (hoff : off = pre.length) (hx : a.eval x = .pointer (some ⟨b, off, none⟩)) (hy : a.eval y = .agg vs.toArray) (h1 : vs.toArray.all (·.oneCell') = true) (hi : (P.info? ty).map (·.size) = some vs.length) (hm : mid.length = vs.length)
    {t : TypeId} (hb : Blk w b t (pre ++ mid ++ suf).toArray) (h : ∀ W, Blk W b t (pre ++ vs ++ suf).toArray → Tch (fun g => g = b) w W → wpList P ops Q rest (a.put o.dst undef) W) : wpList P ops Q (o :: rest) a w := by
  subst hoff
  exact wpList_store_part hgd ty x y ho b pre mid vs suf hx hy h1 hi hm hb h
/-- A list parted in four. -/
theorem four_parts {α : Type} (l : List α) {a b c d : Nat} (h : l.length = a + b + c + d) : ∃ A B C D : List α, l = A ++ (B ++ (C ++ D)) ∧ A.length = a ∧ B.length = b ∧ C.length = c ∧ D.length = d := by
  refine ⟨l.take a, (l.drop a).take b, ((l.drop a).drop b).take c, ((l.drop a).drop b).drop c, by rw [List.take_append_drop, List.take_append_drop, List.take_append_drop], ?_, ?_, ?_, ?_⟩ <;> simp <;> omega
end
end Go.Gk
