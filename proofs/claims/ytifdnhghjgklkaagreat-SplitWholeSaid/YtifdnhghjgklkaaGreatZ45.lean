/-
  An account, or none; what stands in parts of a whole.
-/
import Derived.Test.YtifdnhghjgklkaaGreatZ42
namespace Go.Gk
open Go.RowKit
theorem both_off {b : Bks} {c : Int × Int × Int × Int × Int} {x : Int} (h : ¬ mayOf b (4, c) 4 5 = 0) : bothOf b c x = ((0, 0), (0, 0), false) := by unfold bothOf; rw [if_neg h]
theorem both_on {b : Bks} {c : Int × Int × Int × Int × Int} {x : Int} (h : mayOf b (4, c) 4 5 = 0) : bothOf b c x = ((partOf (splitPart b (4, c)) x, 0), (x - partOf (splitPart b (4, c)) x, 0), true) := by unfold bothOf; rw [if_pos h]
theorem split_at {b : Bks} {x : Int} {k : Nat} {hk : k < b.accs.length} (h : b.accs[(x - 1).toNat]? = some b.accs[k]) : accSplit b x = b.accs[k].2.2.1 := by
  unfold accSplit
  rw [h]
  rfl
theorem part_all {x : Int} : partOf 10000 x = x := by unfold partOf; rw [if_pos rfl]
theorem part_nil {x : Int} : partOf 0 x = 0 := by unfold partOf; rw [if_neg (by decide), if_neg (by decide)]
end Go.Gk
namespace Go.Proofs.YtifdnhghjgklkaaGreat
open Go.RowKit Go.Gk

set_option maxRecDepth 100000 in
set_option maxHeartbeats 800000 in
theorem vwforest_some {w : World} {bv bi B t mr mp : Nat} {e a s r l n lv : Value} {fs : List Value} {b : Bks} {us : List (Ent × Value)} (h : Vw w bv bi B t mr mp e a s r l n lv fs b us) (x : Int) :
    Calls Tryz.prog 18 #[.pointer (some ⟨bv, 0, none⟩), .int .i64 x] w fun y w' => ∃ q, y = .returned (.pointer q) ∧ w = w' ∧ ∀ p g : Nat, x = (p : Int) → p < 24 → fs[p]? = some (.pointer (some ⟨g, 0, none⟩)) → q = some ⟨g, 0, none⟩ := by
  by_cases hx : 0 ≤ x ∧ x < 24
  · obtain ⟨p, rfl⟩ : ∃ p : Nat, x = (p : Int) := ⟨x.toNat, by omega⟩
    obtain ⟨g, hg, _⟩ := h.forests p (by omega)
    refine (vwforest_at h (by omega) hg).mono ?_
    rintro _ _ ⟨rfl, rfl⟩
    refine ⟨_, rfl, rfl, fun p' g' hp _ hg' => ?_⟩
    obtain rfl : p = p' := by omega
    rw [hg] at hg'
    injection hg' with e1
    injection e1
  · have hM := vwmade_any h
    have hx' : ¬ (0 ≤ x ∧ x < 24) := hx
    have HX := Lib.hid hx'
    rcases (by omega : x < 0 ∨ 24 ≤ x) with h1 | h1
    · clear h hx hx'
      go_enter Tryz.func18, Tryz.ntmps18
      go_wp2_with fail
      refine hM.mono ?_
      rintro _ _ ⟨rfl, rfl⟩
      clear hM
      go_wp2
      go_ret
      exact ⟨_, rfl, rfl, fun p g hp h2 _ => absurd HX.out (by omega)⟩
    · have h2 : ¬ x < 0 := by omega
      clear h hx hx'
      go_enter Tryz.func18, Tryz.ntmps18
      go_wp2_with fail
      refine hM.mono ?_
      rintro _ _ ⟨rfl, rfl⟩
      clear hM
      go_wp2
      go_ret
      exact ⟨_, rfl, rfl, fun p g hp h2 _ => absurd HX.out (by omega)⟩

section
variable {w : World} {bv bi B t mr mp : Nat} {e a s r l n lv : Value} {fs : List Value} {b : Bks} {us : List (Ent × Value)}

set_option maxRecDepth 100000 in
set_option maxHeartbeats 1600000 in
theorem vwaccount_no (h : Vw w bv bi B t mr mp e a s r l n lv fs b us) (x : Int) (hx : ¬ (1 ≤ x ∧ x ≤ (b.accs.length : Int))) :
    Calls Tryz.prog 21 #[.pointer (some ⟨bv, 0, none⟩), .int .i64 x] w fun y w' => y = .returned (.tuple #[.agg #[.int .i64 0, .int .i64 0, .bool false, .bool false], .bool false]) ∧ Tch (fun _ => False) w w' := by
  have tw := Tch.alloc (fun _ => False) w (.cells #[.int .i64 0, .int .i64 0, .bool false, .bool false] 64)
  have bA := Blk.new w 64 #[.int .i64 0, .int .i64 0, .bool false, .bool false]
  have h1 := h.keep tw
  have HA := Lib.hid (vwaccounts_any h1)
  have hz := bA.lt
  clear h h1
  by_cases h1 : x < 1
  · have HTW := Lib.hid tw
    have HBA := Lib.hid bA
    clear HA hz tw bA hx
    go_enter Tryz.func21, Tryz.ntmps21
    go_wp2_with fail
    (try simp only [Exit.inBlock, Exit.then])
    (try rw [Exit.noGoto_ret])
    refine bodyPost_ret (results_row_tmp (P := Tryz.prog) rfl _ _ w.heap.size 64 _ (0, 0) _ rfl HBA.out Tryz.underlying64 rfl (by kernel_rfl)) rfl ?_
    exact ⟨rfl, HTW.out⟩
  · have h2 : (b.accs.length : Int) < x := by omega
    clear hx
    go_enter Tryz.func21, Tryz.ntmps21
    go_wp2_with fail
    generalize w.alloc _ = W at *
    generalize hzw : w.heap.size = z at *
    have HZW := Lib.hid hzw
    clear hzw
    (try (refine HA.out.mono ?_; rintro _ _ ⟨rfl, rfl⟩))
    clear HA
    go_wp2_with (refine wpList_store_blk rfl _ _ _ rfl z #[.int .i64 0, .int .i64 0, .bool false, .bool false] (by rfl) (by rfl) bA (by kernel_rfl) rfl (by simp [Value.oneCell']) ?_; refine Hid.out ?_)
    refine Lib.hid ?_
    intro w9 hF tF
    have HBF := Lib.hid hF
    have HTF := Lib.hid tF
    clear hF tF bA
    go_wp2
    (try simp only [Exit.inBlock, Exit.then])
    (try rw [Exit.noGoto_ret])
    refine bodyPost_ret (results_row_tmp (P := Tryz.prog) rfl _ _ z 64 _ (0, 0) _ rfl HBF.out Tryz.underlying64 rfl (by kernel_rfl)) rfl ?_
    exact ⟨rfl, tw.trans' (F' := fun g => g = z) HTF.out (fun i hi => .inr (by have hi : i = z := hi; have := HZW.out; omega))⟩

/-- Of any number: an account, or none. -/
theorem vwaccount_some (h : Vw w bv bi B t mr mp e a s r l n lv fs b us) (x : Int) :
    Calls Tryz.prog 21 #[.pointer (some ⟨bv, 0, none⟩), .int .i64 x] w fun y w' => ∃ (i j : Int) (p q is : Bool), y = .returned (.tuple #[.agg #[.int .i64 i, .int .i64 j, .bool p, .bool q], .bool is]) ∧ Tch (fun _ => False) w w' ∧ (∀ k (hk : k < b.accs.length), x = (k : Int) + 1 → is = true ∧ b.accs[k] = (i, j, p, q)) := by
  by_cases hx : 1 ≤ x ∧ x ≤ (b.accs.length : Int)
  · have hk : (x - 1).toNat < b.accs.length := by omega
    refine (vwaccount_any h hk x (by omega)).mono ?_
    rintro _ w1 ⟨rfl, t1⟩
    generalize hy : b.accs[(x - 1).toNat] = y at *
    obtain ⟨i, j, p, q⟩ := y
    refine ⟨i, j, p, q, true, rfl, t1, fun k hk' hxk => ⟨rfl, ?_⟩⟩
    obtain rfl : (x - 1).toNat = k := by omega
    exact hy
  · refine (vwaccount_no h x hx).mono ?_
    rintro _ w1 ⟨rfl, t1⟩
    exact ⟨0, 0, false, false, false, rfl, t1, fun k hk hxk => absurd (show 1 ≤ x ∧ x ≤ (b.accs.length : Int) by omega) hx⟩
end
end Go.Proofs.YtifdnhghjgklkaaGreat
