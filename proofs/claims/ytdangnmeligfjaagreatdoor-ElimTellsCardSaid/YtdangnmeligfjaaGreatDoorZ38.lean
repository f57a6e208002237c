/-
  The document's: the lines of the journal; totals.
-/
import Derived.Test.YtdangnmeligfjaaGreatDoorZ19
import Derived.Test.YtdangnmeligfjaaGreatDoorZ14
namespace Go.Gk
open Go.RowKit
theorem one_int7 (x : P7) : ∀ u ∈ int7 x, u.oneCell' = true := by
  intro u hu
  unfold int7 at hu
  simp only [List.mem_cons, List.not_mem_nil, or_false] at hu
  rcases hu with rfl | rfl | rfl | rfl | rfl | rfl | rfl <;> rfl
section
variable {B : Nat → Prop} {w : World} {α : Type} {f : α → List Value} {g o c i : Nat} {l : List α} {a b d e p q r : Value}
theorem Row.seven (h : Row B w (.slice (some ⟨g, o, none⟩) l.length c) l.length 7 (l.flatMap f)) (hf : ∀ a, (f a).length = 7) (hi : i < l.length) (he : f l[i] = [a, b, d, e, p, q, r]) : w.cell? ⟨g, o + i * 7, none⟩ = some a ∧ w.cell? ⟨g, o + i * 7 + 1, none⟩ = some b ∧ w.cell? ⟨g, o + i * 7 + 2, none⟩ = some d ∧ w.cell? ⟨g, o + i * 7 + 3, none⟩ = some e ∧ w.cell? ⟨g, o + i * 7 + 4, none⟩ = some p ∧ w.cell? ⟨g, o + i * 7 + 5, none⟩ = some q ∧ w.cell? ⟨g, o + i * 7 + 6, none⟩ = some r :=
  ⟨by have := Row.elem hf h hi (j := 0) (by decide) (u := a) (by rw [he]; rfl); simpa using this, Row.elem hf h hi (j := 1) (by decide) (by rw [he]; rfl), Row.elem hf h hi (j := 2) (by decide) (by rw [he]; rfl), Row.elem hf h hi (j := 3) (by decide) (by rw [he]; rfl), Row.elem hf h hi (j := 4) (by decide) (by rw [he]; rfl), Row.elem hf h hi (j := 5) (by decide) (by rw [he]; rfl), Row.elem hf h hi (j := 6) (by decide) (by rw [he]; rfl)⟩
end
end Go.Gk
namespace Go.Proofs.YtdangnmeligfjaaGreatDoor
open Go.RowKit Go.Gk

theorem rowPosted : RowTy Tryz.prog 257 259 (.agg #[.int .i64 0, .int .i64 0, .int .i64 0, .int .i64 0, .int .i64 0, .int .i64 0, .int .i64 0]) 7 56 := ⟨Tryz.underlying257, by kernel_rfl, rfl, by decide⟩

set_option maxRecDepth 100000 in
set_option maxHeartbeats 3200000 in
theorem reflines_any {w : World} {v : Value} {us : List (Ent × Value)} (hu : EntsIs w v us) (hul : us.length ≤ 1000) (hll : ∀ p ∈ us, p.1.lines.length ≤ 1000) :
    Calls Tryz.prog 196 #[v] w fun e w' => ∃ u, e = .returned u ∧ Outs int7 7 259 w w' u (lines7 (us.map (·.1))) := by
  obtain ⟨A, c, rfl, hc1, hc2⟩ := hu.row.form
  have hc00 : come us 0 0 = [] := by
    unfold come
    cases (us.map (·.1))[0]? <;> simp [eposts, epostsF, num7]
  have hmax : (lines7 (us.map (·.1))).length ≤ 1000000 := by
    have h1 : (lines7 (us.map (·.1))).length = (posts (us.map (·.1))).length := by rw [← lines7_posts, List.length_map]
    have h2 := posts_len (us.map (·.1)) 1000 (fun x hx => by obtain ⟨p, hp, rfl⟩ := List.mem_map.1 hx; exact hll p hp)
    rw [List.length_map] at h2
    have h3 : us.length * 1000 ≤ 1000 * 1000 := Nat.mul_le_mul_right _ hul
    omega
  go_enter Tryz.func196, Tryz.ntmps196
  go_wp2_with fail
  go_loopw [3, 4] (fun out i wr => ∃ (j : Nat) (xs : List P7), j ≤ us.length ∧ i = .int .i64 j ∧ come us j 0 = xs ∧ Outs int7 7 259 w wr out xs) (fun _ i _ => us.length - (intOf i).toNat)
  case atStart => exact ⟨0, [], Nat.zero_le _, rfl, hc00, Outs.start _ _ _ (Tch.refl _ _)⟩
  case round =>
    obtain ⟨j, xs, hj, rfl, hx, hO⟩ := hrel
    obtain ⟨O, co, rfl, ho1, ho2⟩ := hO.form
    have HX := Lib.hid hx
    clear hx
    by_cases hlt : j < us.length
    · have hlt' : (j : Int) < (us.length : Int) := by omega
      have hj0 : (0 : Int) ≤ (j : Int) := Int.natCast_nonneg _
      have HLT := Lib.hid (fun k => come_lt (us := us) (k := k) hlt)
      have HNX := Lib.hid (fun k => come_next (us := us) (k := k) hlt)
      have HOV := Lib.hid (come_over hlt)
      obtain ⟨g, o, rfl⟩ := hu.row.head (by omega)
      have HQ := Lib.hid (fun wq (t : Tch (fun _ => False) w wq) => Row.three (hu.row.keep t) entC_len hlt rfl)
      have hL := hu.lines us[j] (List.getElem_mem _)
      have hlen := hll us[j] (List.getElem_mem _)
      generalize us[j] = x at *
      obtain ⟨⟨yp, yr, yl⟩, yv⟩ := x
      simp only at HLT HNX HOV HQ hL hlen
      obtain ⟨A', c', rfl, _, _⟩ := hL.form
      go_wp2_with fail
      go_loopw [3, 5] (fun out k wr => ∃ (m : Nat) (xs : List P7), m ≤ yl.length ∧ k = .int .i64 m ∧ come us j m = xs ∧ Outs int7 7 259 w wr out xs) (fun _ k _ => yl.length - (intOf k).toNat)
      case atStart => exact ⟨0, xs, Nat.zero_le _, rfl, HX.out, hO⟩
      case round =>
        clear hO HX ho1 ho2
        obtain ⟨m, xs, hm, rfl, hx, hO⟩ := hrel
        obtain ⟨O, co, rfl, ho1, ho2⟩ := hO.form
        have HX := Lib.hid hx
        clear hx
        obtain ⟨q0, q1, q2⟩ := HQ.out wr hO.tch
        by_cases hml : m < yl.length
        · have hml' : (m : Int) < (yl.length : Int) := by omega
          have hm0 : (0 : Int) ≤ (m : Int) := Int.natCast_nonneg _
          obtain ⟨g2, o2, rfl⟩ := hL.head (by omega)
          obtain ⟨p0, p1, p2, p3⟩ := Row.four (hL.keep hO.tch) int4_len hml rfl
          have hcl : xs.length < 1000000 := by have := HLT.out m hml; rw [HX.out] at this; omega
          have HS := Lib.hid (show come us j (m + 1) = xs ++ [((xs.length : Int) + 1, (j : Int) + 1, yp, yl[m])] by rw [HNX.out m hml, HX.out])
          generalize yl[m] = x at *
          obtain ⟨x1, x2, x3, x4⟩ := x
          simp only at p0 p1 p2 p3
          have y0 := within_cell (F := fun _ => False) q0 id
          have y2 := within_cell (F := fun _ => False) q2 id
          have z0 := within_cell (F := fun _ => False) p0 id
          have z1 := within_cell (F := fun _ => False) p1 id
          have z2 := within_cell (F := fun _ => False) p2 id
          have z3 := within_cell (F := fun _ => False) p3 id
          go_wp2_with fail
          refine wp_region_touch (fun _ => False) [0] 19 [] [] (by kernel_rfl) rfl (by kernel_rfl) rfl (fun d _ _ _ _ h => by cases d <;> exact h) ?_ ?_
          · exact trivial
          (intro bef ops hbef hops; clear hbef; subst hops; simp only [List.take_succ_cons, List.take_zero, List.drop_succ_cons, List.drop_zero])
          iterate 19 (refine t_det (by rfl) (by rfl) (by rfl) (by rfl) (fun K hK => ?_); go_big_quiet_op; (first | refine hK _ ?_ | refine ⟨_, fun _ => rfl, hK _ ?_⟩); clear hK K; (try simp only [Act.put, List.setIfInBounds_toArray, List.set_cons_succ, List.set_cons_zero]))
          refine t_nil ?_
          intro w1 hr hp1 hap
          have t1 := (Tch.drew _ wr).trans hr
          clear hap hp1 hr y0 y2 z0 z1 z2 z3 p0 p1 p2 p3 q0 q1 q2
          have hO := hO.keep t1
          have hO := hO.keep (Tch.alloc _ w1 (.cells #[.int .i64 ((xs.length : Int) + 1), .int .i64 ((j : Int) + 1), .int .i64 yp, .int .i64 x1, .int .i64 x2, .int .i64 x3, .int .i64 x4] 259))
          go_wp2_with (at_builtin; refine wpList_append _ rfl _ _ 257 rfl rowPosted (own_base hO.own) (by rfl) (Go.Gk.Src.one (news := int7 ((xs.length : Int) + 1, (j : Int) + 1, yp, x1, x2, x3, x4)) rfl (fun m9 u9 hu9 => by rw [(Blk.new w1 259 #[.int .i64 ((xs.length : Int) + 1), .int .i64 ((j : Int) + 1), .int .i64 yp, .int .i64 x1, .int .i64 x2, .int .i64 x3, .int .i64 x4]).cell m9]; simpa [int7] using hu9)) (by rfl) (one_int7 _) (by unfold maxLen; omega) (by omega) ?_; intro v2 w2 ho2 hg2 hl2; have hO2 := hO.step (x := ((xs.length : Int) + 1, (j : Int) + 1, yp, x1, x2, x3, x4)) (Tch.refl _ _) ho2 hg2 hl2; obtain ⟨O2, co2, rfl, _, _⟩ := own_form ho2)
          go_roundw
          case rel => exact ⟨m + 1, _, by omega, by go_num, HS.out, hO2⟩
          case measure => simp [intOf]; omega
        · obtain rfl : m = yl.length := by omega
          have HX := Lib.hid (HOV.out.symm.trans HX.out)
          go_wp2
          go_roundw
          case rel => exact ⟨j + 1, xs, by omega, by go_num, HX.out, hO⟩
          case measure => simp [intOf]; omega
    · obtain rfl : us.length = j := by omega
      rw [come_all] at HX
      have e := HX.out
      subst e
      go_wp2
      go_ret
      exact ⟨_, rfl, hO⟩

end Go.Proofs.YtdangnmeligfjaaGreatDoor
