/-
  An account of a view, or none.
-/
import Derived.Test.YtpgapicogdickaaGreatDoorZ28
namespace Go.Proofs.YtpgapicogdickaaGreatDoor
open Go.RowKit Go.Gk

section
variable {w : World} {bv bi B t mr mp : Nat} {e a s r l n lv : Value} {fs : List Value} {b : Bks} {us : List (Ent × Value)}

set_option maxRecDepth 100000 in
set_option maxHeartbeats 1600000 in
theorem vwaccount_no (h : Vw w bv bi B t mr mp e a s r l n lv fs b us) (x : Int) (hx : ¬ (1 ≤ x ∧ x ≤ (b.accs.length : Int))) :
    Calls Tryz.prog 15 #[.pointer (some ⟨bv, 0, none⟩), .int .i64 x] w fun y w' => y = .returned (.tuple #[.agg #[.int .i64 0, .int .i64 0, .bool false, .bool false], .bool false]) ∧ Tch (fun _ => False) w w' := by
  have tw := Tch.alloc (fun _ => False) w (.cells #[.int .i64 0, .int .i64 0, .bool false, .bool false] 58)
  have bA := Blk.new w 58 #[.int .i64 0, .int .i64 0, .bool false, .bool false]
  have h1 := h.keep tw
  have HA := Lib.hid (vwaccounts_any h1)
  have hz := bA.lt
  clear h h1
  by_cases h1 : x < 1
  · have HTW := Lib.hid tw
    have HBA := Lib.hid bA
    clear HA hz tw bA hx
    go_enter Tryz.func15, Tryz.ntmps15
    go_wp2_with fail
    (try simp only [Exit.inBlock, Exit.then])
    (try rw [Exit.noGoto_ret])
    refine bodyPost_ret (results_row_tmp (P := Tryz.prog) rfl _ _ w.heap.size 58 _ (0, 0) _ rfl HBA.out Tryz.underlying58 rfl (by kernel_rfl)) rfl ?_
    exact ⟨rfl, HTW.out⟩
  · have h2 : (b.accs.length : Int) < x := by omega
    clear hx
    go_enter Tryz.func15, Tryz.ntmps15
    go_wp2_with fail
    generalize w.alloc _ = W at *
    generalize hzw : w.heap.size = z at *
    have HZW := Lib.hid hzw
    clear hzw
    (try (refine HA.out.mono ?_; rintro _ _ ⟨rfl, rfl⟩))
    clear HA
    go_wp2_with (refine wpList_store_blk rfl _ _ _ rfl z #[.int .i64 0, .int .i64 0, .bool false, .bool false] (by rfl) (by rfl) bA (by kernel_rfl) rfl (by simp [Value.oneCell']) ?_; refine Hid.out ?_)
    refine Lib.hid ?_
    intro w9 hF tF
    have HBF := Lib.hid hF
    have HTF := Lib.hid tF
    clear hF tF bA
    go_wp2
    (try simp only [Exit.inBlock, Exit.then])
    (try rw [Exit.noGoto_ret])
    refine bodyPost_ret (results_row_tmp (P := Tryz.prog) rfl _ _ z 58 _ (0, 0) _ rfl HBF.out Tryz.underlying58 rfl (by kernel_rfl)) rfl ?_
    exact ⟨rfl, tw.trans' (F' := fun g => g = z) HTF.out (fun i hi => .inr (by have hi : i = z := hi; have := HZW.out; omega))⟩

/-- Of any number: an account, or none. -/
theorem vwaccount_some (h : Vw w bv bi B t mr mp e a s r l n lv fs b us) (x : Int) :
    Calls Tryz.prog 15 #[.pointer (some ⟨bv, 0, none⟩), .int .i64 x] w fun y w' => ∃ (i j : Int) (p q is : Bool), y = .returned (.tuple #[.agg #[.int .i64 i, .int .i64 j, .bool p, .bool q], .bool is]) ∧ Tch (fun _ => False) w w' ∧ (∀ k (hk : k < b.accs.length), x = (k : Int) + 1 → is = true ∧ b.accs[k] = (i, j, p, q)) := by
  by_cases hx : 1 ≤ x ∧ x ≤ (b.accs.length : Int)
  · have hk : (x - 1).toNat < b.accs.length := by omega
    refine (vwaccount_any h hk x (by omega)).mono ?_
    rintro _ w1 ⟨rfl, t1⟩
    generalize hy : b.accs[(x - 1).toNat] = y at *
    obtain ⟨i, j, p, q⟩ := y
    refine ⟨i, j, p, q, true, rfl, t1, fun k hk' hxk => ⟨rfl, ?_⟩⟩
    obtain rfl : (x - 1).toNat = k := by omega
    exact hy
  · refine (vwaccount_no h x hx).mono ?_
    rintro _ w1 ⟨rfl, t1⟩
    exact ⟨0, 0, false, false, false, rfl, t1, fun k hk hxk => absurd (show 1 ≤ x ∧ x ≤ (b.accs.length : Int) by omega) hx⟩
end
end Go.Proofs.YtpgapicogdickaaGreatDoor
