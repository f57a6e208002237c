/-
  The document's: the lines of the journal; totals.
-/
import Derived.Test.YtnmogbhmelpbnaaGreatZ19
import Derived.Test.YtnmogbhmelpbnaaGreatZ14
namespace Go.Gk
open Go.RowKit
theorem one_int7 (x : P7) : ∀ u ∈ int7 x, u.oneCell' = true := by
  intro u hu
  unfold int7 at hu
  simp only [List.mem_cons, List.not_mem_nil, or_false] at hu
  rcases hu with rfl | rfl | rfl | rfl | rfl | rfl | rfl <;> rfl
section
variable {B : Nat → Prop} {w : World} {α : Type} {f : α → List Value} {g o c i : Nat} {l : List α} {a b d e p q r : Value}
theorem Row.seven (h : Row B w (.slice (some ⟨g, o, none⟩) l.length c) l.length 7 (l.flatMap f)) (hf : ∀ a, (f a).length = 7) (hi : i < l.length) (he : f l[i] = [a, b, d, e, p, q, r]) : w.cell? ⟨g, o + i * 7, none⟩ = some a ∧ w.cell? ⟨g, o + i * 7 + 1, none⟩ = some b ∧ w.cell? ⟨g, o + i * 7 + 2, none⟩ = some d ∧ w.cell? ⟨g, o + i * 7 + 3, none⟩ = some e ∧ w.cell? ⟨g, o + i * 7 + 4, none⟩ = some p ∧ w.cell? ⟨g, o + i * 7 + 5, none⟩ = some q ∧ w.cell? ⟨g, o + i * 7 + 6, none⟩ = some r :=
  ⟨by have := Row.elem hf h hi (j := 0) (by decide) (u := a) (by rw [he]; rfl); simpa using this, Row.elem hf h hi (j := 1) (by decide) (by rw [he]; rfl), Row.elem hf h hi (j := 2) (by decide) (by rw [he]; rfl), Row.elem hf h hi (j := 3) (by decide) (by rw [he]; rfl), Row.elem hf h hi (j := 4) (by decide) (by rw [he]; rfl), Row.elem hf h hi (j := 5) (by decide) (by rw [he]; rfl), Row.elem hf h hi (j := 6) (by decide) (by rw [he]; rfl)⟩
end
/-- Is it one of the lines that are asked for? -/
def isLine (e a p q : Int) (x : P7) : Bool := decide (x.2.2.2.1 = e) && decide (x.2.2.2.2.1 = a) && decide (x.2.2.1 = p) && (q == 0 || x.2.2.2.2.2.1 == q)
theorem isLine_amts (l : List Ent) (e a p q : Int) : ((lines7 l).filter (isLine e a p q)).map (·.2.2.2.2.2.2) = amtsAt (posts l) (e, a, p) q := by
  unfold amtsAt
  rw [← lines7_posts, List.filter_map, List.map_map]
  have : isLine e a p q = ((fun x : Pst => decide (pstSpot x = (e, a, p)) && (q == 0 || x.2.2.2.1 == q)) ∘ fun x : P7 => x.2.2) := by
    funext x
    obtain ⟨i, n, pp, ee, aa, qq, m⟩ := x
    unfold isLine pstSpot
    simp only [Function.comp]
    congr 1
    rw [Bool.eq_iff_iff]
    simp only [Bool.and_eq_true, decide_eq_true_eq, Prod.mk.injEq]
    constructor
    · rintro ⟨⟨h1, h2⟩, h3⟩; exact ⟨h1, h2, h3⟩
    · rintro ⟨h1, h2, h3⟩; exact ⟨⟨h1, h2⟩, h3⟩
  rw [this]
  rfl
theorem lines7_max {us : List (Ent × Value)} (hul : us.length ≤ 1000) (hll : ∀ p ∈ us, p.1.lines.length ≤ 1000) : (lines7 (us.map (·.1))).length ≤ 1000000 := by
  have h1 : (lines7 (us.map (·.1))).length = (posts (us.map (·.1))).length := by rw [← lines7_posts, List.length_map]
  have h2 := posts_len (us.map (·.1)) 1000 (fun x hx => by obtain ⟨p, hp, rfl⟩ := List.mem_map.1 hx; exact hll p hp)
  rw [List.length_map] at h2
  have h3 : us.length * 1000 ≤ 1000 * 1000 := Nat.mul_le_mul_right _ hul
  omega
end Go.Gk
namespace Go.Proofs.YtnmogbhmelpbnaaGreat
open Go.RowKit Go.Gk

theorem rowPosted : RowTy Tryz.prog 125 130 (.agg #[.int .i64 0, .int .i64 0, .int .i64 0, .int .i64 0, .int .i64 0, .int .i64 0, .int .i64 0]) 7 56 := ⟨Tryz.underlying125, by kernel_rfl, rfl, by decide⟩

set_option maxRecDepth 100000 in
set_option maxHeartbeats 3200000 in
theorem reflines_any {w : World} {v : Value} {us : List (Ent × Value)} (hu : EntsIs w v us) (hul : us.length ≤ 1000) (hll : ∀ p ∈ us, p.1.lines.length ≤ 1000) :
    Calls Tryz.prog 114 #[v] w fun e w' => ∃ u, e = .returned u ∧ Outs int7 7 130 w w' u (lines7 (us.map (·.1))) := by
  obtain ⟨A, c, rfl, hc1, hc2⟩ := hu.row.form
  have hc00 : come us 0 0 = [] := by
    unfold come
    cases (us.map (·.1))[0]? <;> simp [eposts, epostsF, num7]
  have hmax : (lines7 (us.map (·.1))).length ≤ 1000000 := by
    have h1 : (lines7 (us.map (·.1))).length = (posts (us.map (·.1))).length := by rw [← lines7_posts, List.length_map]
    have h2 := posts_len (us.map (·.1)) 1000 (fun x hx => by obtain ⟨p, hp, rfl⟩ := List.mem_map.1 hx; exact hll p hp)
    rw [List.length_map] at h2
    have h3 : us.length * 1000 ≤ 1000 * 1000 := Nat.mul_le_mul_right _ hul
    omega
  go_enter Tryz.func114, Tryz.ntmps114
  go_wp2_with fail
  go_loopw [3, 4] (fun out i wr => ∃ (j : Nat) (xs : List P7), j ≤ us.length ∧ i = .int .i64 j ∧ come us j 0 = xs ∧ Outs int7 7 130 w wr out xs) (fun _ i _ => us.length - (intOf i).toNat)
  case atStart => exact ⟨0, [], Nat.zero_le _, rfl, hc00, Outs.start _ _ _ (Tch.refl _ _)⟩
  case round =>
    obtain ⟨j, xs, hj, rfl, hx, hO⟩ := hrel
    obtain ⟨O, co, rfl, ho1, ho2⟩ := hO.form
    have HX := Lib.hid hx
    clear hx
    by_cases hlt : j < us.length
    · have hlt' : (j : Int) < (us.length : Int) := by omega
      have hj0 : (0 : Int) ≤ (j : Int) := Int.natCast_nonneg _
      have HLT := Lib.hid (fun k => come_lt (us := us) (k := k) hlt)
      have HNX := Lib.hid (fun k => come_next (us := us) (k := k) hlt)
      have HOV := Lib.hid (come_over hlt)
      obtain ⟨g, o, rfl⟩ := hu.row.head (by omega)
      have HQ := Lib.hid (fun wq (t : Tch (fun _ => False) w wq) => Row.three (hu.row.keep t) entC_len hlt rfl)
      have hL := hu.lines us[j] (List.getElem_mem _)
      have hlen := hll us[j] (List.getElem_mem _)
      generalize us[j] = x at *
      obtain ⟨⟨yp, yr, yl⟩, yv⟩ := x
      simp only at HLT HNX HOV HQ hL hlen
      obtain ⟨A', c', rfl, _, _⟩ := hL.form
      go_wp2_with fail
      go_loopw [3, 5] (fun out k wr => ∃ (m : Nat) (xs : List P7), m ≤ yl.length ∧ k = .int .i64 m ∧ come us j m = xs ∧ Outs int7 7 130 w wr out xs) (fun _ k _ => yl.length - (intOf k).toNat)
      case atStart => exact ⟨0, xs, Nat.zero_le _, rfl, HX.out, hO⟩
      case round =>
        clear hO HX ho1 ho2
        obtain ⟨m, xs, hm, rfl, hx, hO⟩ := hrel
        obtain ⟨O, co, rfl, ho1, ho2⟩ := hO.form
        have HX := Lib.hid hx
        clear hx
        obtain ⟨q0, q1, q2⟩ := HQ.out wr hO.tch
        by_cases hml : m < yl.length
        · have hml' : (m : Int) < (yl.length : Int) := by omega
          have hm0 : (0 : Int) ≤ (m : Int) := Int.natCast_nonneg _
          obtain ⟨g2, o2, rfl⟩ := hL.head (by omega)
          obtain ⟨p0, p1, p2, p3⟩ := Row.four (hL.keep hO.tch) int4_len hml rfl
          have hcl : xs.length < 1000000 := by have := HLT.out m hml; rw [HX.out] at this; omega
          have HS := Lib.hid (show come us j (m + 1) = xs ++ [((xs.length : Int) + 1, (j : Int) + 1, yp, yl[m])] by rw [HNX.out m hml, HX.out])
          generalize yl[m] = x at *
          obtain ⟨x1, x2, x3, x4⟩ := x
          simp only at p0 p1 p2 p3
          have y0 := within_cell (F := fun _ => False) q0 id
          have y2 := within_cell (F := fun _ => False) q2 id
          have z0 := within_cell (F := fun _ => False) p0 id
          have z1 := within_cell (F := fun _ => False) p1 id
          have z2 := within_cell (F := fun _ => False) p2 id
          have z3 := within_cell (F := fun _ => False) p3 id
          go_wp2_with fail
          refine wp_region_touch (fun _ => False) [0] 19 [] [] (by kernel_rfl) rfl (by kernel_rfl) rfl (fun d _ _ _ _ h => by cases d <;> exact h) ?_ ?_
          · exact trivial
          (intro bef ops hbef hops; clear hbef; subst hops; simp only [List.take_succ_cons, List.take_zero, List.drop_succ_cons, List.drop_zero])
          iterate 19 (refine t_det (by rfl) (by rfl) (by rfl) (by rfl) (fun K hK => ?_); go_big_quiet_op; (first | refine hK _ ?_ | refine ⟨_, fun _ => rfl, hK _ ?_⟩); clear hK K; (try simp only [Act.put, List.setIfInBounds_toArray, List.set_cons_succ, List.set_cons_zero]))
          refine t_nil ?_
          intro w1 hr hp1 hap
          have t1 := (Tch.drew _ wr).trans hr
          clear hap hp1 hr y0 y2 z0 z1 z2 z3 p0 p1 p2 p3 q0 q1 q2
          have hO := hO.keep t1
          have hO := hO.keep (Tch.alloc _ w1 (.cells #[.int .i64 ((xs.length : Int) + 1), .int .i64 ((j : Int) + 1), .int .i64 yp, .int .i64 x1, .int .i64 x2, .int .i64 x3, .int .i64 x4] 130))
          go_wp2_with (at_builtin; refine wpList_append _ rfl _ _ 125 rfl rowPosted (own_base hO.own) (by rfl) (Go.Gk.Src.one (news := int7 ((xs.length : Int) + 1, (j : Int) + 1, yp, x1, x2, x3, x4)) rfl (fun m9 u9 hu9 => by rw [(Blk.new w1 130 #[.int .i64 ((xs.length : Int) + 1), .int .i64 ((j : Int) + 1), .int .i64 yp, .int .i64 x1, .int .i64 x2, .int .i64 x3, .int .i64 x4]).cell m9]; simpa [int7] using hu9)) (by rfl) (one_int7 _) (by unfold maxLen; omega) (by omega) ?_; intro v2 w2 ho2 hg2 hl2; have hO2 := hO.step (x := ((xs.length : Int) + 1, (j : Int) + 1, yp, x1, x2, x3, x4)) (Tch.refl _ _) ho2 hg2 hl2; obtain ⟨O2, co2, rfl, _, _⟩ := own_form ho2)
          go_roundw
          case rel => exact ⟨m + 1, _, by omega, by go_num, HS.out, hO2⟩
          case measure => simp [intOf]; omega
        · obtain rfl : m = yl.length := by omega
          have HX := Lib.hid (HOV.out.symm.trans HX.out)
          go_wp2
          go_roundw
          case rel => exact ⟨j + 1, xs, by omega, by go_num, HX.out, hO⟩
          case measure => simp [intOf]; omega
    · obtain rfl : us.length = j := by omega
      rw [come_all] at HX
      have e := HX.out
      subst e
      go_wp2
      go_ret
      exact ⟨_, rfl, hO⟩

set_option maxRecDepth 100000 in
set_option maxHeartbeats 3200000 in
theorem refthose_any {w : World} {v : Value} {us : List (Ent × Value)} (hu : EntsIs w v us) (hul : us.length ≤ 1000) (hll : ∀ p ∈ us, p.1.lines.length ≤ 1000) (e a p q : Int) :
    Calls Tryz.prog 65 #[v, .int .i64 e, .int .i64 a, .int .i64 p, .int .i64 q] w fun x w' => ∃ u, x = .returned u ∧ Outs int7 7 130 w w' u ((lines7 (us.map (·.1))).filter (isLine e a p q)) := by
  obtain ⟨A, c, rfl, hc1, hc2⟩ := hu.row.form
  have HL := Lib.hid (reflines_any hu hul hll)
  have hn := lines7_max hul hll
  generalize lines7 (us.map (·.1)) = l at *
  obtain ⟨F, hF⟩ : ∃ F, isLine e a p q = F := ⟨_, rfl⟩
  rw [hF]
  have HF := Lib.hid (show ∀ x1 x2 x3 x4 x5 x6 x7, F (x1, x2, x3, x4, x5, x6, x7) = (decide (x4 = e) && decide (x5 = a) && decide (x3 = p) && (q == 0 || x6 == q)) from fun x1 x2 x3 x4 x5 x6 x7 => by rw [← hF]; rfl)
  clear hF hu hll hul
  go_enter Tryz.func65, Tryz.ntmps65
  go_wp2_with fail
  refine HL.out.mono ?_
  rintro _ w1 ⟨u, rfl, hU⟩
  clear HL
  obtain ⟨U, cu, rfl, hu1, hu2⟩ := hU.form
  have hrow := hU.row
  have tt := hU.tch
  clear hU
  go_wp2_with fail
  go_loopw [12, 13] (fun out i wr => ∃ (j : Nat) (xs : List P7), j ≤ l.length ∧ i = .int .i64 j ∧ (l.take j).filter F = xs ∧ Outs int7 7 130 w1 wr out xs) (fun _ i _ => l.length - (intOf i).toNat)
  case atStart => exact ⟨0, [], Nat.zero_le _, rfl, rfl, Outs.start _ _ _ (Tch.refl _ _)⟩
  case round =>
    obtain ⟨j, xs, hj, rfl, hx, hO⟩ := hrel
    obtain ⟨O, co, rfl, ho1, ho2⟩ := hO.form
    have hxl : xs.length ≤ j := by rw [← hx]; exact Nat.le_trans (List.length_filter_le _ _) (by rw [List.length_take]; omega)
    have HX := Lib.hid hx
    clear hx
    by_cases hlt : j < l.length
    · have hlt' : (j : Int) < (l.length : Int) := by omega
      have hj0 : (0 : Int) ≤ (j : Int) := Int.natCast_nonneg _
      obtain ⟨g, o, rfl⟩ := hrow.head (by omega)
      obtain ⟨q0, q1, q2, q3, q4, q5, q6⟩ := Row.seven (hrow.keep hO.tch) int7_len hlt rfl
      have HR := Lib.hid (fun ob => Row.seven (hrow.keep (hO.tch.trans (Tch.alloc (fun _ => False) wr ob))) int7_len hlt rfl)
      have HS := Lib.hid (show (l.take (j + 1)).filter F = xs ++ (if F l[j] then [l[j]] else []) by
        rw [List.take_succ_eq_append_getElem hlt, List.filter_append, HX.out]
        congr 1
        by_cases hh : F l[j] = true <;> simp [hh])
      generalize l[j] = s at *
      obtain ⟨x1, x2, x3, x4, x5, x6, x7⟩ := s
      simp only at q0 q1 q2 q3 q4 q5 q6 HS HR
      obtain ⟨r0, r1, r2, r3, r4, r5, r6⟩ := HR.out (.cells #[.int .i64 x4, .int .i64 x5, .int .i64 x6, .int .i64 x7] 128)
      have hO := hO.keep (Tch.alloc _ wr (.cells #[.int .i64 x4, .int .i64 x5, .int .i64 x6, .int .i64 x7] 128))
      by_cases h4 : x4 = e
      rotate_left
      · have HS := Lib.hid (show (l.take (j + 1)).filter F = xs by rw [HS.out, HF.out]; simp [h4])
        clear HF
        go_wp2
        go_roundw
        case rel => exact ⟨j + 1, xs, by omega, by go_num, HS.out, hO⟩
        case measure => simp [intOf]; omega
      subst h4
      by_cases h5 : x5 = a
      rotate_left
      · have HS := Lib.hid (show (l.take (j + 1)).filter F = xs by rw [HS.out, HF.out]; simp [h5])
        clear HF
        go_wp2
        go_roundw
        case rel => exact ⟨j + 1, xs, by omega, by go_num, HS.out, hO⟩
        case measure => simp [intOf]; omega
      subst h5
      by_cases h3 : x3 = p
      rotate_left
      · have HS := Lib.hid (show (l.take (j + 1)).filter F = xs by rw [HS.out, HF.out]; simp [h3])
        clear HF
        go_wp2
        go_roundw
        case rel => exact ⟨j + 1, xs, by omega, by go_num, HS.out, hO⟩
        case measure => simp [intOf]; omega
      subst h3
      by_cases hq : q = 0
      · subst hq
        have HS := Lib.hid (show (l.take (j + 1)).filter F = xs ++ [(x1, x2, x3, x4, x5, x6, x7)] by rw [HS.out, HF.out]; simp)
        clear HF
        go_wp2_with (at_builtin; refine wpList_append _ rfl _ _ 125 rfl rowPosted (own_base (hO.own.alloc _)) (by rfl) (Go.Gk.Src.one (news := int7 (x1, x2, x3, x4, x5, x6, x7)) rfl (fun m9 u9 hu9 => by rw [(Blk.new2 wr (.cells #[.int .i64 x4, .int .i64 x5, .int .i64 x6, .int .i64 x7] 128) 130 #[.int .i64 x1, .int .i64 x2, .int .i64 x3, .int .i64 x4, .int .i64 x5, .int .i64 x6, .int .i64 x7]).cell m9]; simpa [int7] using hu9)) (by rfl) (one_int7 _) (by unfold maxLen; omega) (by omega) ?_; intro v2 w2 ho2 hg2 hl2; have hO2 := hO.step (x := (x1, x2, x3, x4, x5, x6, x7)) (Tch.alloc _ _ _) ho2 hg2 hl2; obtain ⟨O2, co2, rfl, _, _⟩ := own_form ho2)
        go_roundw
        case rel => exact ⟨j + 1, _, by omega, by go_num, HS.out, hO2⟩
        case measure => simp [intOf]; omega
      have b1 : (q == 0) = false := by simpa using hq
      by_cases h6 : x6 = q
      rotate_left
      · have HS := Lib.hid (show (l.take (j + 1)).filter F = xs by rw [HS.out, HF.out]; simp [hq, h6])
        have b2 : (x6 == q) = false := by simpa using h6
        clear HF
        go_wp2
        go_roundw
        case rel => exact ⟨j + 1, xs, by omega, by go_num, HS.out, hO⟩
        case measure => simp [intOf]; omega
      subst h6
      have HS := Lib.hid (show (l.take (j + 1)).filter F = xs ++ [(x1, x2, x3, x4, x5, x6, x7)] by rw [HS.out, HF.out]; simp)
      clear HF
      go_wp2_with (at_builtin; refine wpList_append _ rfl _ _ 125 rfl rowPosted (own_base (hO.own.alloc _)) (by rfl) (Go.Gk.Src.one (news := int7 (x1, x2, x3, x4, x5, x6, x7)) rfl (fun m9 u9 hu9 => by rw [(Blk.new2 wr (.cells #[.int .i64 x4, .int .i64 x5, .int .i64 x6, .int .i64 x7] 128) 130 #[.int .i64 x1, .int .i64 x2, .int .i64 x3, .int .i64 x4, .int .i64 x5, .int .i64 x6, .int .i64 x7]).cell m9]; simpa [int7] using hu9)) (by rfl) (one_int7 _) (by unfold maxLen; omega) (by omega) ?_; intro v2 w2 ho2 hg2 hl2; have hO2 := hO.step (x := (x1, x2, x3, x4, x5, x6, x7)) (Tch.alloc _ _ _) ho2 hg2 hl2; obtain ⟨O2, co2, rfl, _, _⟩ := own_form ho2)
      go_roundw
      case rel => exact ⟨j + 1, _, by omega, by go_num, HS.out, hO2⟩
      case measure => simp [intOf]; omega
    · obtain rfl : l.length = j := by omega
      rw [List.take_length] at HX
      have e := HX.out
      subst e
      go_wp2
      go_ret
      exact ⟨_, rfl, hO.base tt⟩

set_option maxRecDepth 100000 in
set_option maxHeartbeats 1600000 in
theorem reftotal_any {w : World} {v : Value} {us : List (Ent × Value)} (hu : EntsIs w v us) (hul : us.length ≤ 60) (hll : ∀ p ∈ us, p.1.lines.length ≤ 100) (h64 : ∀ p ∈ posts (us.map (·.1)), I64 p.2.2.2.2) (e a p q : Int) :
    Calls Tryz.prog 26 #[v, .int .i64 e, .int .i64 a, .int .i64 p, .int .i64 q] w fun x w' => x = .returned (.tuple #[.int .i64 (told2 (amtsAt (posts (us.map (·.1))) (e, a, p) q).sum).1, .int .i64 (told2 (amtsAt (posts (us.map (·.1))) (e, a, p) q).sum).2]) ∧ Tch (fun _ => False) w w' := by
  obtain ⟨A, c, rfl, hc1, hc2⟩ := hu.row.form
  have HT := Lib.hid (refthose_any hu (by omega) (fun p hp => by have := hll p hp; omega) e a p q)
  have HA := Lib.hid (isLine_amts (us.map (·.1)) e a p q)
  have HL := Lib.hid (show ((lines7 (us.map (·.1))).filter (isLine e a p q)).length ≤ 10000 by
    refine Nat.le_trans (List.length_filter_le _ _) ?_
    have h1 : (lines7 (us.map (·.1))).length = (posts (us.map (·.1))).length := by rw [← lines7_posts, List.length_map]
    have h2 := posts_len (us.map (·.1)) 100 (fun x hx => by obtain ⟨p, hp, rfl⟩ := List.mem_map.1 hx; exact hll p hp)
    rw [List.length_map] at h2
    have h3 : us.length * 100 ≤ 60 * 100 := Nat.mul_le_mul_right _ hul
    omega)
  have HI := Lib.hid (show I64s (amtsAt (posts (us.map (·.1))) (e, a, p) q) from fun x hx => by
    unfold amtsAt at hx
    obtain ⟨y, hy, rfl⟩ := List.mem_map.1 hx
    exact h64 y (List.mem_filter.1 hy).1)
  generalize (lines7 (us.map (·.1))).filter (isLine e a p q) = l at *
  have hl := HL.out
  rw [← told2_eq, ← HA.out]
  obtain ⟨n1, n2, eq⟩ := asTold_form (l.map (·.2.2.2.2.2.2)).sum
  rw [eq]
  have HEQ := Lib.hid eq
  clear eq hu h64 hll hul
  go_enter Tryz.func26, Tryz.ntmps26
  go_wp2_with fail
  refine HT.out.mono ?_
  rintro _ w1 ⟨u, rfl, hU⟩
  clear HT
  obtain ⟨U, cu, rfl, hu1, hu2⟩ := hU.form
  have hrow := hU.row
  have tt := hU.tch
  clear hU
  go_wp2_with fail
  go_loopw [13, 14] (fun out i wr => ∃ (j : Nat) (xs : List Int), j ≤ l.length ∧ i = .int .i64 j ∧ (l.take j).map (·.2.2.2.2.2.2) = xs ∧ Outs int1 1 3 w1 wr out xs) (fun _ i _ => l.length - (intOf i).toNat)
  case atStart => exact ⟨0, [], Nat.zero_le _, rfl, rfl, Outs.start _ _ _ (Tch.refl _ _)⟩
  case round =>
    obtain ⟨j, xs, hj, rfl, hx, hO⟩ := hrel
    obtain ⟨O, co, rfl, ho1, ho2⟩ := hO.form
    have hxl : xs.length ≤ j := by rw [← hx, List.length_map, List.length_take]; omega
    have HX := Lib.hid hx
    clear hx
    by_cases hlt : j < l.length
    · have hlt' : (j : Int) < (l.length : Int) := by omega
      have hj0 : (0 : Int) ≤ (j : Int) := Int.natCast_nonneg _
      obtain ⟨g, o, rfl⟩ := hrow.head (by omega)
      obtain ⟨q0, q1, q2, q3, q4, q5, q6⟩ := Row.seven (hrow.keep hO.tch) int7_len hlt rfl
      have HS := Lib.hid (show (l.take (j + 1)).map (·.2.2.2.2.2.2) = xs ++ [l[j].2.2.2.2.2.2] by
        rw [List.take_succ_eq_append_getElem hlt, List.map_append, HX.out]; rfl)
      generalize l[j] = s at *
      obtain ⟨x1, x2, x3, x4, x5, x6, x7⟩ := s
      simp only at q0 q1 q2 q3 q4 q5 q6 HS
      clear q0 q1 q2 q3 q4 q5
      go_wp2_with ((at_builtin; refine wpList_append _ rfl _ _ 22 rfl rowInts (own_base (hO.own.alloc _)) (by rfl) (Go.Gk.Src.one (news := [.int .i64 (x7)]) rfl (fun m9 u9 hu9 => by rw [(Blk.new (wr) 3 #[.int .i64 (x7)]).cell m9]; simpa using hu9)) (by rfl) (by simp; rfl) (by unfold maxLen; omega) (by omega) ?_; intro v2 w2 ho2 hg2 hl2; have hO2 := hO.step (x := x7) (Tch.alloc _ _ _) ho2 hg2 hl2; obtain ⟨O2, co2, rfl, _, _⟩ := own_form ho2))
      go_roundw
      case rel => exact ⟨j + 1, _, by omega, by go_num, HS.out, hO2⟩
      case measure => simp [intOf]; omega
    · obtain rfl : l.length = j := by omega
      rw [List.take_length] at HX
      have hxe : l.map (·.2.2.2.2.2.2) = xs := HX.out
      rw [HA.out] at hxe
      have HN := Lib.hid (net_any hO.row (show RowsOf int1 1 (fun _ => True) wr (.slice none 0 0) ([] : List Int) from Row.nil (fun _ => True) wr 1) (by rw [← hxe]; exact HI.out) (fun x hx => absurd hx (by simp)) (by omega) (by simp))
      have HXE := Lib.hid hxe
      clear hxe
      go_wp2_with fail
      refine HN.out.mono ?_
      rintro _ w3 ⟨hr, t3⟩
      have hr' : (asTold (xs.sum - ([] : List Int).sum)) = .tuple #[.int .i64 n1, .int .i64 n2] := by
        rw [← HEQ.out, HA.out, HXE.out]; simp
      rw [hr'] at hr
      subst hr
      have t9 := (tt.trans hO.tch).trans t3
      clear hr' HN hO
      go_wp2
      go_ret2
      exact ⟨rfl, t9⟩
end Go.Proofs.YtnmogbhmelpbnaaGreat
