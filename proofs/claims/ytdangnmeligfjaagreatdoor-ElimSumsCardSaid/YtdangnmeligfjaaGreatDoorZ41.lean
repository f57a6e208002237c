/-
  Numbers of 128 bits, and quotients.
-/
import Derived.Test.YtdangnmeligfjaaGreatDoorShelf
import Derived.Test.YtdangnmeligfjaaGreatDoorZ2
import Derived.Laws.Bits64b
import Derived.Test.YtdangnmeligfjaaGreatDoorZ8
import Derived.Test.YtdangnmeligfjaaGreatDoorZ4
import Derived.Test.YtdangnmeligfjaaGreatDoorZ20
import Derived.Test.YtdangnmeligfjaaGreatDoorZ49
import Derived.ScopeJumps
import Derived.WalkMore
namespace Go.Proofs.YtdangnmeligfjaaGreatDoor
open Go.RowKit Go.Gk
def wwV (x : Int) : Value := .agg #[.int .i64 (x / 18446744073709551616), .int .u64 (x % 18446744073709551616)]
def nwV (n : Nat) : Value := .agg #[.int .u64 ((n / 18446744073709551616 : Nat) : Int), .int .u64 ((n % 18446744073709551616 : Nat) : Int)]
set_option maxRecDepth 100000 in
set_option maxHeartbeats 800000 in
theorem wsz_any (n : Int) (h : -9223372036854775808 ≤ n ∧ n ≤ 9223372036854775807) (w : World) :
 Calls Tryz.prog 236 #[.int .i64 n] w fun e w' => e = .returned (.int .u64 (n.natAbs : Int)) ∧ w = w' := by
 obtain ⟨h1, h2⟩ := h
 obtain ⟨m, hm⟩ : ∃ m : Nat, n.natAbs = m := ⟨_, rfl⟩
 rw [hm]
 by_cases hn : n < 0
 ·have e1 : IntKind.u64.wrap (-IntKind.u64.wrap n) = (m : Int) := by simp only [IntKind.wrap_u64]; omega
  clear hm
  go_enter Tryz.func236, Tryz.ntmps236
  go_wp2
  go_ret
  exact ⟨rfl, rfl⟩
 ·have e1 : IntKind.u64.wrap n = (m : Int) := by simp only [IntKind.wrap_u64]; omega
  have e2 : n = (m : Int) := by omega
  clear hm
  subst e2
  go_enter Tryz.func236, Tryz.ntmps236
  go_wp2
  go_ret
  exact ⟨rfl, rfl⟩
set_option maxRecDepth 100000 in
set_option maxHeartbeats 800000 in
theorem same_any (x y : Int) (w : World) :
 Calls Tryz.prog 237 #[.agg #[.int .i64 x, .int .u64 y]] w fun e w' => e = .returned (.agg #[.int .i64 x, .int .u64 y]) ∧ Tch (fun _ => False) w w' := by
 go_enter Tryz.func237, Tryz.ntmps237
 go_wp2
 refine bodyPost_ret (results_cell_row (P := Tryz.prog) rfl _ _ ((w.heap.size + 1)) 303 _ (0, 0) _ rfl (Blk.new2 w _ 303 _) Tryz.underlying303 rfl (by kernel_rfl)) rfl ?_
 exact ⟨rfl, (Tch.alloc _ _ _).trans (Tch.alloc _ _ _)⟩
set_option maxRecDepth 100000 in
set_option maxHeartbeats 800000 in
theorem ofw_any (n : Int) (h : -9223372036854775808 ≤ n ∧ n ≤ 9223372036854775807) (w : World) :
 Calls Tryz.prog 234 #[.int .i64 n] w fun e w' => e = .returned (wwV n) ∧ Tch (fun _ => False) w w' := by
 obtain ⟨h1, h2⟩ := h
 unfold wwV
 have e1 : n / 9223372036854775808 = n / 18446744073709551616 := by omega
 have e2 : IntKind.u64.wrap n = n % 18446744073709551616 := by simp only [IntKind.wrap_u64]
 generalize n / 18446744073709551616 = a at *
 generalize n % 18446744073709551616 = b at *
 go_enter Tryz.func234, Tryz.ntmps234
 go_wp2
 refine bodyPost_ret (results_cell_row (P := Tryz.prog) rfl _ _ (w.heap.size) 287 _ (0, 0) _ rfl (Blk.new w 287 _) Tryz.underlying287 rfl (by kernel_rfl)) rfl ?_
 exact ⟨rfl, Tch.alloc _ _ _⟩
theorem neg_words (x one : Int) (h1 : 0 ≤ one) (h2 : one ≤ 1) : ∃ L B H C : Int, (∀ w, (callFunc 205 #[.int .u64 0, .int .u64 (x % 18446744073709551616), .int .u64 one]).run Tryz.prog w = .ok (.value (.tuple #[.int .u64 L, .int .u64 B])) w) ∧
 (∀ w, (callFunc 205 #[.int .u64 0, .int .u64 (x / 18446744073709551616 % 18446744073709551616), .int .u64 B]).run Tryz.prog w = .ok (.value (.tuple #[.int .u64 H, .int .u64 C])) w) ∧
 L = (-x - one) % 18446744073709551616 ∧ H = (-x - one) / 18446744073709551616 % 18446744073709551616 := by
 refine ⟨_, _, _, _, fun w => sub64 0 (x % 18446744073709551616) one (by decide) (by omega) (by omega) h1 h2 w, fun w => sub64 0 (x / 18446744073709551616 % 18446744073709551616) _ (by decide) (by omega) (by omega) (by unfold bor; split <;> decide) (by unfold bor; split <;> decide) w, by omega, ?_⟩
 unfold bor
 split <;> omega
set_option maxRecDepth 100000 in
set_option maxHeartbeats 1600000 in
theorem flipw_any (x : Int) (h1 : -85070591730234615865843651857942052864 ≤ x) (h2 : x ≤ 85070591730234615865843651857942052864) (w : World) :
 Calls Tryz.prog 238 #[wwV x] w fun e w' => e = .returned (wwV (-x)) ∧ Tch (fun _ => False) w w' := by
 obtain ⟨L, B, H, C, s1, s2, hL, hH⟩ := neg_words x 0 (by decide) (by decide)
 have ea : IntKind.u64.wrap (x / 18446744073709551616) = x / 18446744073709551616 % 18446744073709551616 := by simp only [IntKind.wrap_u64]
 have eh : IntKind.i64.wrap H = -x / 18446744073709551616 := by rw [hH]; simp only [IntKind.wrap_i64]; omega
 have el : L = -x % 18446744073709551616 := by rw [hL]; simp
 unfold wwV
 rw [← el, ← eh]
 have EH := Lib.hid eh
 clear hL hH el eh
 generalize -x / 18446744073709551616 = nh at *
 generalize x / 18446744073709551616 % 18446744073709551616 = a' at *
 generalize x / 18446744073709551616 = a at *
 generalize x % 18446744073709551616 = b at *
 obtain ⟨hh, hhe⟩ : ∃ hh, IntKind.i64.wrap H = hh := ⟨_, rfl⟩
 rw [hhe]
 go_enter Tryz.func238, Tryz.ntmps238
 go_wp2_with (first | simp only [s1] | simp only [s2])
 refine bodyPost_ret (results_cell_row (P := Tryz.prog) rfl _ _ ((w.heap.size + 1)) 303 _ (0, 0) _ rfl (Blk.new2 w _ 303 _) Tryz.underlying303 rfl (by kernel_rfl)) rfl ?_
 exact ⟨rfl, (Tch.alloc _ _ _).trans (Tch.alloc _ _ _)⟩
set_option maxRecDepth 100000 in
set_option maxHeartbeats 1600000 in
theorem sszw_any (x : Int) (h1 : -85070591730234615865843651857942052864 ≤ x) (h2 : x ≤ 85070591730234615865843651857942052864) (w : World) :
 Calls Tryz.prog 245 #[wwV x] w fun e w' => e = .returned (nwV x.natAbs) ∧ Tch (fun _ => False) w w' := by
 obtain ⟨m, hm⟩ : ∃ m : Nat, x.natAbs = m := ⟨_, rfl⟩
 rw [hm]
 unfold wwV nwV
 by_cases hx : 0 ≤ x
 ·have e1 : IntKind.u64.wrap (x / 18446744073709551616) = ((m / 18446744073709551616 : Nat) : Int) := by simp only [IntKind.wrap_u64]; omega
  have e2 : x % 18446744073709551616 = ((m % 18446744073709551616 : Nat) : Int) := by omega
  have e3 : 0 ≤ x / 18446744073709551616 := by omega
  rw [e2]
  generalize m / 18446744073709551616 = c at *
  generalize m % 18446744073709551616 = d at *
  generalize x / 18446744073709551616 = a at *
  clear e2 hm hx h1 h2
  go_enter Tryz.func245, Tryz.ntmps245
  go_wp2
  refine bodyPost_ret (results_cell_row (P := Tryz.prog) rfl _ _ ((w.heap.size + 1)) 240 _ (0, 0) _ rfl (Blk.new2 w _ 240 _) Tryz.underlying240 rfl (by kernel_rfl)) rfl ?_
  exact ⟨rfl, (Tch.alloc _ _ _).trans (Tch.alloc _ _ _)⟩
 ·obtain ⟨L, B, H, C, s1, s2, hL, hH⟩ := neg_words x 0 (by decide) (by decide)
  have ea : IntKind.u64.wrap (x / 18446744073709551616) = x / 18446744073709551616 % 18446744073709551616 := by simp only [IntKind.wrap_u64]
  have e1 : H = ((m / 18446744073709551616 : Nat) : Int) := by rw [hH]; omega
  have e2 : L = ((m % 18446744073709551616 : Nat) : Int) := by rw [hL]; omega
  have e3 : ¬ 0 ≤ x / 18446744073709551616 := by omega
  rw [← e1, ← e2]
  clear e1 e2 hL hH hm hx h1 h2
  generalize x / 18446744073709551616 % 18446744073709551616 = a' at *
  generalize x / 18446744073709551616 = a at *
  generalize x % 18446744073709551616 = b at *
  go_enter Tryz.func245, Tryz.ntmps245
  go_wp2_with (first | simp only [s1] | simp only [s2])
  refine bodyPost_ret (results_cell_row (P := Tryz.prog) rfl _ _ ((w.heap.size + 1)) 240 _ (0, 0) _ rfl (Blk.new2 w _ 240 _) Tryz.underlying240 rfl (by kernel_rfl)) rfl ?_
  exact ⟨rfl, (Tch.alloc _ _ _).trans (Tch.alloc _ _ _)⟩
set_option maxRecDepth 100000 in
set_option maxHeartbeats 1600000 in
theorem below_any (n : Nat) (left : Bool) (hn : n ≤ 85070591730234615865843651857942052864) (w : World) :
 Calls Tryz.prog 246 #[nwV n, .bool left] w fun e w' => e = .returned (wwV (-(n : Int) - (if left then 1 else 0))) ∧ Tch (fun _ => False) w w' := by
 obtain ⟨one, hone⟩ : ∃ one : Int, (if left then 1 else 0) = one := ⟨_, rfl⟩
 have h1 : 0 ≤ one := by rw [← hone]; split <;> decide
 have h2 : one ≤ 1 := by rw [← hone]; split <;> decide
 obtain ⟨L, B, H, C, s1, s2, hL, hH⟩ := neg_words (n : Int) one h1 h2
 rw [hone]
 have ea : ((n / 18446744073709551616 : Nat) : Int) = (n : Int) / 18446744073709551616 % 18446744073709551616 := by omega
 have eb : ((n % 18446744073709551616 : Nat) : Int) = (n : Int) % 18446744073709551616 := by omega
 have eh : IntKind.i64.wrap H = (-(n : Int) - one) / 18446744073709551616 := by rw [hH]; simp only [IntKind.wrap_i64]; omega
 unfold wwV nwV
 rw [← hL, ← eh, ea, eb]
 clear hL hH ea eb eh h1 h2 hn
 generalize (n : Int) / 18446744073709551616 % 18446744073709551616 = a' at *
 generalize (n : Int) % 18446744073709551616 = b at *
 obtain ⟨hh, hhe⟩ : ∃ hh, IntKind.i64.wrap H = hh := ⟨_, rfl⟩
 rw [hhe]
 cases left
 ·obtain rfl : one = 0 := by rw [← hone]; rfl
  clear hone
  go_enter Tryz.func246, Tryz.ntmps246
  go_wp2_with (first | simp only [s1] | simp only [s2])
  refine bodyPost_ret (results_cell_row (P := Tryz.prog) rfl _ _ ((w.heap.size + 1)) 287 _ (0, 0) _ rfl (Blk.new2 w _ 287 _) Tryz.underlying287 rfl (by kernel_rfl)) rfl ?_
  exact ⟨rfl, (Tch.alloc _ _ _).trans (Tch.alloc _ _ _)⟩
 ·obtain rfl : one = 1 := by rw [← hone]; rfl
  clear hone
  go_enter Tryz.func246, Tryz.ntmps246
  go_wp2_with (first | simp only [s1] | simp only [s2])
  refine bodyPost_ret (results_cell_row (P := Tryz.prog) rfl _ _ ((w.heap.size + 1)) 287 _ (0, 0) _ rfl (Blk.new2 w _ 287 _) Tryz.underlying287 rfl (by kernel_rfl)) rfl ?_
  exact ⟨rfl, (Tch.alloc _ _ _).trans (Tch.alloc _ _ _)⟩
open Go.RowKit Go.Gk
theorem wwV_nat {n : Nat} : wwV (n : Int) = .agg #[.int .i64 ((n / 18446744073709551616 : Nat) : Int), .int .u64 ((n % 18446744073709551616 : Nat) : Int)] := by
 unfold wwV
 rw [Int.natCast_ediv, Int.natCast_emod]
 rfl
set_option maxRecDepth 100000 in
set_option maxHeartbeats 3200000 in
theorem mulw_any (a b : Int) (ha : -9223372036854775808 ≤ a ∧ a ≤ 9223372036854775807) (hb : -9223372036854775808 ≤ b ∧ b ≤ 9223372036854775807) (w : World) :
 Calls Tryz.prog 223 #[.int .i64 a, .int .i64 b] w fun e w' => e = .returned (wwV (a * b)) ∧ Tch (fun _ => False) w w' := by
 have tA := Tch.alloc (fun _ => False) w (.cells #[.int .i64 0, .int .u64 0] 287)
 have bA := Blk.new w 287 #[.int .i64 0, .int .u64 0]
 have hm : (a * b).natAbs = a.natAbs * b.natAbs := Int.natAbs_mul a b
 have ha1 : a.natAbs ≤ 9223372036854775808 := by omega
 have hb1 : b.natAbs ≤ 9223372036854775808 := by omega
 have hP : a.natAbs * b.natAbs ≤ 85070591730234615865843651857942052864 := Nat.mul_le_mul ha1 hb1
 have hsg : a * b = if (decide (a < 0) != decide (b < 0)) then -((a.natAbs * b.natAbs : Nat) : Int) else ((a.natAbs * b.natAbs : Nat) : Int) := by
  rw [← hm]
  by_cases h1 : a < 0 <;> by_cases h2 : b < 0
  ·have h3 : 0 ≤ a * b := Int.mul_nonneg_of_nonpos_of_nonpos (Int.le_of_lt h1) (Int.le_of_lt h2)
   simp [h1, h2]; omega
  ·have h3 : a * b ≤ 0 := Int.mul_nonpos_of_nonpos_of_nonneg (Int.le_of_lt h1) (by omega)
   simp [h1, h2]; omega
  ·have h3 : a * b ≤ 0 := Int.mul_nonpos_of_nonneg_of_nonpos (by omega) (Int.le_of_lt h2)
   simp [h1, h2]; omega
  ·have h3 : 0 ≤ a * b := Int.mul_nonneg (by omega) (by omega)
   simp [h1, h2]; omega
 have HS1 := Lib.hid (fun w' => wsz_any a ha w')
 have HS2 := Lib.hid (fun w' => wsz_any b hb w')
 have HM := Lib.hid (fun w' => Tryz.bits_Mul64 a.natAbs b.natAbs (by omega) (by omega) w')
 generalize a.natAbs = am at *
 generalize b.natAbs = bm at *
 generalize am * bm = P at *
 have e1 : IntKind.i64.wrap ((P / 18446744073709551616 : Nat) : Int) = ((P / 18446744073709551616 : Nat) : Int) := by simp only [IntKind.wrap_i64]; omega
 have HWN := Lib.hid (wwV_nat (n := P))
 have HFL := Lib.hid (fun w' => flipw_any (P : Int) (by omega) (by omega) w')
 rw [HWN.out] at HFL
 generalize P / 18446744073709551616 = p1 at *
 generalize P % 18446744073709551616 = p0 at *
 have HSG := Lib.hid hsg
 clear hm ha1 hb1 hP hsg ha hb
 obtain ⟨R, hR⟩ : ∃ R, wwV (a * b) = R := ⟨_, rfl⟩
 rw [hR]
 have HR := Lib.hid hR
 clear hR
 go_enter Tryz.func223, Tryz.ntmps223
 go_wp2_with fail
 refine (HS1.out _).mono ?_
 rintro _ _ ⟨rfl, rfl⟩
 go_wp2_with fail
 refine (HS2.out _).mono ?_
 rintro _ _ ⟨rfl, rfl⟩
 go_wp2_with fail
 refine (HM.out _).mono ?_
 rintro _ w1 ⟨rfl, hw1⟩
 subst hw1
 clear HS1 HS2 HM
 by_cases h1 : a < 0
 ·have g1 : decide (a < 0) = true := decide_eq_true h1
  by_cases h2 : b < 0
  ·have g2 : decide (b < 0) = true := decide_eq_true h2
   have HX := Lib.hid (show R = .agg #[.int .i64 (p1 : Int), .int .u64 (p0 : Int)] by rw [← HR.out, HSG.out, ← HWN.out]; simp [h1, h2])
   clear h1 h2
   generalize w.alloc (.cells #[.int .i64 0, .int .u64 0] 287) = W at *
   generalize hz : w.heap.size = z at *
   have HZ := Lib.hid hz
   clear hz
   go_wp2_with fail
   refine (same_any _ _ _).mono ?_
   rintro _ w2 ⟨rfl, t2⟩
   have b2 := bA.keep t2 id
   have tt := Lib.hid (tA.trans t2)
   clear HFL bA t2 tA
   go_wp2_with (refine wpList_store_blk rfl _ _ _ rfl z #[.int .i64 (p1 : Int), .int .u64 (p0 : Int)] (by rfl) (by rfl) b2 (by kernel_rfl) rfl (by simp [Value.oneCell']) ?_; refine Hid.out ?_)
   refine Lib.hid ?_
   intro w9 hF tF
   have HBF := Lib.hid hF
   have HTF := Lib.hid tF
   clear hF tF b2
   go_wp2
   (try simp only [Exit.inBlock, Exit.then])
   (try rw [Exit.noGoto_ret])
   refine bodyPost_ret (results_cell_row (P := Tryz.prog) rfl _ _ z 287 _ (0, 0) _ rfl HBF.out Tryz.underlying287 rfl (by kernel_rfl)) rfl ?_
   exact ⟨by rw [HX.out], tt.out.trans' (F' := fun g => g = z) HTF.out (fun i hi => .inr (by have hi : i = z := hi; have := HZ.out; omega))⟩
  ·have g2 : decide (b < 0) = false := decide_eq_false h2
   have HX := Lib.hid (show R = wwV (-(P : Int)) by rw [← HR.out, HSG.out]; simp [h1, h2])
   clear h1 h2
   generalize w.alloc (.cells #[.int .i64 0, .int .u64 0] 287) = W at *
   generalize hz : w.heap.size = z at *
   have HZ := Lib.hid hz
   clear hz
   go_wp2_with fail
   refine (HFL.out _).mono ?_
   rintro _ w2 ⟨rfl, t2⟩
   have b2 := bA.keep t2 id
   have tt := Lib.hid (tA.trans t2)
   clear HFL bA t2 tA
   unfold wwV at HX ⊢
   go_wp2_with (refine wpList_store_blk rfl _ _ _ rfl z #[.int .i64 (-(P : Int) / 18446744073709551616), .int .u64 (-(P : Int) % 18446744073709551616)] (by rfl) (by rfl) b2 (by kernel_rfl) rfl (by simp [Value.oneCell']) ?_; refine Hid.out ?_)
   refine Lib.hid ?_
   intro w9 hF tF
   have HBF := Lib.hid hF
   have HTF := Lib.hid tF
   clear hF tF b2
   go_wp2
   (try simp only [Exit.inBlock, Exit.then])
   (try rw [Exit.noGoto_ret])
   refine bodyPost_ret (results_cell_row (P := Tryz.prog) rfl _ _ z 287 _ (0, 0) _ rfl HBF.out Tryz.underlying287 rfl (by kernel_rfl)) rfl ?_
   exact ⟨by rw [HX.out], tt.out.trans' (F' := fun g => g = z) HTF.out (fun i hi => .inr (by have hi : i = z := hi; have := HZ.out; omega))⟩
 ·have g1 : decide (a < 0) = false := decide_eq_false h1
  by_cases h2 : b < 0
  ·have g2 : decide (b < 0) = true := decide_eq_true h2
   have HX := Lib.hid (show R = wwV (-(P : Int)) by rw [← HR.out, HSG.out]; simp [h1, h2])
   clear h1 h2
   generalize w.alloc (.cells #[.int .i64 0, .int .u64 0] 287) = W at *
   generalize hz : w.heap.size = z at *
   have HZ := Lib.hid hz
   clear hz
   go_wp2_with fail
   refine (HFL.out _).mono ?_
   rintro _ w2 ⟨rfl, t2⟩
   have b2 := bA.keep t2 id
   have tt := Lib.hid (tA.trans t2)
   clear HFL bA t2 tA
   unfold wwV at HX ⊢
   go_wp2_with (refine wpList_store_blk rfl _ _ _ rfl z #[.int .i64 (-(P : Int) / 18446744073709551616), .int .u64 (-(P : Int) % 18446744073709551616)] (by rfl) (by rfl) b2 (by kernel_rfl) rfl (by simp [Value.oneCell']) ?_; refine Hid.out ?_)
   refine Lib.hid ?_
   intro w9 hF tF
   have HBF := Lib.hid hF
   have HTF := Lib.hid tF
   clear hF tF b2
   go_wp2
   (try simp only [Exit.inBlock, Exit.then])
   (try rw [Exit.noGoto_ret])
   refine bodyPost_ret (results_cell_row (P := Tryz.prog) rfl _ _ z 287 _ (0, 0) _ rfl HBF.out Tryz.underlying287 rfl (by kernel_rfl)) rfl ?_
   exact ⟨by rw [HX.out], tt.out.trans' (F' := fun g => g = z) HTF.out (fun i hi => .inr (by have hi : i = z := hi; have := HZ.out; omega))⟩
  ·have g2 : decide (b < 0) = false := decide_eq_false h2
   have HX := Lib.hid (show R = .agg #[.int .i64 (p1 : Int), .int .u64 (p0 : Int)] by rw [← HR.out, HSG.out, ← HWN.out]; simp [h1, h2])
   clear h1 h2
   generalize w.alloc (.cells #[.int .i64 0, .int .u64 0] 287) = W at *
   generalize hz : w.heap.size = z at *
   have HZ := Lib.hid hz
   clear hz
   go_wp2_with fail
   refine (same_any _ _ _).mono ?_
   rintro _ w2 ⟨rfl, t2⟩
   have b2 := bA.keep t2 id
   have tt := Lib.hid (tA.trans t2)
   clear HFL bA t2 tA
   go_wp2_with (refine wpList_store_blk rfl _ _ _ rfl z #[.int .i64 (p1 : Int), .int .u64 (p0 : Int)] (by rfl) (by rfl) b2 (by kernel_rfl) rfl (by simp [Value.oneCell']) ?_; refine Hid.out ?_)
   refine Lib.hid ?_
   intro w9 hF tF
   have HBF := Lib.hid hF
   have HTF := Lib.hid tF
   clear hF tF b2
   go_wp2
   (try simp only [Exit.inBlock, Exit.then])
   (try rw [Exit.noGoto_ret])
   refine bodyPost_ret (results_cell_row (P := Tryz.prog) rfl _ _ z 287 _ (0, 0) _ rfl HBF.out Tryz.underlying287 rfl (by kernel_rfl)) rfl ?_
   exact ⟨by rw [HX.out], tt.out.trans' (F' := fun g => g = z) HTF.out (fun i hi => .inr (by have hi : i = z := hi; have := HZ.out; omega))⟩
set_option maxRecDepth 100000 in
set_option maxHeartbeats 800000 in
theorem eqWide (a0 a1 b0 b1 : Int) (w : World) : (Op.equalIn 10000 287 (.agg #[.int .i64 a0, .int .u64 a1]) (.agg #[.int .i64 b0, .int .u64 b1])).run Tryz.prog w = .ok (a0 == b0 && a1 == b1) w := by
 have u_int := Tryz.underlying2
 have a_int := Tryz.isAgg2
 have z_int := Tryz.sizeOf2
 have u_u := Tryz.underlying239
 have a_u := Tryz.isAgg239
 have z_u := Tryz.sizeOf239
 have hS : Tryz.prog.underlying 287 = some (.struct (Tryz.prog.fieldsOf 287)) := by kernel_rfl
 have hp : Tryz.prog.stoodInHeld 287 = false := by kernel_rfl
 rw [show (10000 : Nat) = 9999 + 1 from rfl, run_equalIn_agg w 9999 287 _ _ hS hp]
 simp only [Program.fieldsOf, Tryz.underlying287]
 go_simp
 by_cases h0 : a0 = b0 <;> by_cases h1 : a1 = b1 <;> simp [h0, h1]
theorem run_eq_Wide (a0 a1 b0 b1 : Int) (w : World) : (binOp .eql 287 (.agg #[.int .i64 a0, .int .u64 a1]) (.agg #[.int .i64 b0, .int .u64 b1])).run Tryz.prog w = .ok (.bool (a0 == b0 && a1 == b1)) w := by
 rw [run_eql_struct, eqWide]; rfl
set_option maxRecDepth 100000 in
set_option maxHeartbeats 1600000 in
theorem intw_any (x : Int) (w : World) :
 Calls Tryz.prog 222 #[wwV x] w fun e w' => e = .returned (.tuple #[.int .i64 (told2 x).1, .int .i64 (told2 x).2]) ∧ Tch (fun _ => False) w w' := by
 obtain ⟨n, hn⟩ : ∃ n, IntKind.i64.wrap (x % 18446744073709551616) = n := ⟨_, rfl⟩
 have hn64 : -9223372036854775808 ≤ n ∧ n ≤ 9223372036854775807 := by rw [← hn, IntKind.wrap_i64]; omega
 have hnm : n % 18446744073709551616 = x % 18446744073709551616 := by rw [← hn, IntKind.wrap_i64]; omega
 have tw := Tch.alloc (fun _ => False) w (.cells #[.int .i64 (x / 18446744073709551616), .int .u64 (x % 18446744073709551616)] 287)
 have bb := Blk.new w 287 #[.int .i64 (x / 18446744073709551616), .int .u64 (x % 18446744073709551616)]
 have HO := Lib.hid (fun w' => ofw_any n hn64 w')
 have hcmp : ∀ w' : World, (binOp .eql 287 (wwV n) (.agg #[.int .i64 (x / 18446744073709551616), .int .u64 (x % 18446744073709551616)])).run Tryz.prog w' = .ok (.bool (decide (n = x))) w' := fun w' => by
  unfold wwV
  rw [run_eq_Wide]
  have e : (n / 18446744073709551616 == x / 18446744073709551616 && n % 18446744073709551616 == x % 18446744073709551616) = decide (n = x) := by
   rw [Bool.eq_iff_iff]
   simp only [Bool.and_eq_true, beq_iff_eq, decide_eq_true_eq]
   omega
  rw [e]
 have HT := Lib.hid (show told2 x = if n = x then (n, 0) else (0, 10) by
  unfold told2
  by_cases h : n = x
  ·rw [if_pos h, if_pos (h ▸ hn64), h]
  ·rw [if_neg h, if_neg (fun h9 => h (by rw [← hn, IntKind.wrap_i64]; omega))])
 unfold wwV at hcmp HO ⊢
 generalize n / 18446744073709551616 = na at *
 generalize n % 18446744073709551616 = nb at *
 generalize x / 18446744073709551616 = a at *
 generalize x % 18446744073709551616 = b at *
 rw [HT.out]
 clear hn64 hnm HT
 have y0 := within_cell (F := fun _ => False) (show (w.alloc (.cells #[.int .i64 a, .int .u64 b] 287)).cell? ⟨w.heap.size, 0, none⟩ = some (.int .i64 a) from bb.cell 0) id
 have y1 := within_cell (F := fun _ => False) (show (w.alloc (.cells #[.int .i64 a, .int .u64 b] 287)).cell? ⟨w.heap.size, 1, none⟩ = some (.int .u64 b) from bb.cell 1) id
 go_enter Tryz.func222, Tryz.ntmps222
 go_wp2_with fail
 refine wp_region_touch (fun _ => False) [] 3 [(1, .inl (.agg #[.int .i64 na, .int .u64 nb]))] [] (by kernel_rfl) rfl (by kernel_rfl) rfl (fun d _ _ _ _ h => by cases d <;> exact h) ?_ ?_
 ·exact trivial
 (intro bef ops hbef hops; clear hbef; subst hops; simp only [List.take_succ_cons, List.take_zero, List.drop_succ_cons, List.drop_zero])
 iterate 1 (refine t_det (by rfl) (by rfl) (by rfl) (by rfl) (fun K hK => ?_); go_big_quiet_op; (first | refine hK _ ?_ | refine ⟨_, fun _ => rfl, hK _ ?_⟩); clear hK K; (try simp only [Act.put, List.setIfInBounds_toArray, List.set_cons_succ, List.set_cons_zero]))
 refine t_fix (.agg #[.int .i64 na, .int .u64 nb]) (by rfl) (by rfl) (fun w2 hr hf => ?_) ?_
 ·refine yields_of_wp (d := 9) rfl (by simp) (fun K hK => ?_)
  go_step
  refine (HO.out w2).mono ?_
  rintro _ w3 ⟨rfl, t3⟩
  exact hK _ _ ⟨⟨rfl, t3⟩, newAt_no⟩
 simp only [Act.put, List.setIfInBounds_toArray, List.set_cons_succ, List.set_cons_zero]
 iterate 1 (refine t_det (by rfl) (by rfl) (by rfl) (by rfl) (fun K hK => ?_); go_big_quiet_op; (first | refine hK _ ?_ | refine ⟨_, fun _ => rfl, hK _ ?_⟩); clear hK K; (try simp only [Act.put, List.setIfInBounds_toArray, List.set_cons_succ, List.set_cons_zero]))
 refine t_nil ?_
 intro w2 hr hp9 hap
 have t2 := Lib.hid (tw.trans ((Tch.drew (fun _ => False) _).trans hr))
 clear hap hp9 hr y0 y1 bb tw HO
 by_cases h : n = x
 ·have HF := Lib.hid h
  have hcmp2 : ∀ w' : World, (binOp .eql 287 (.agg #[.int .i64 na, .int .u64 nb]) (.agg #[.int .i64 a, .int .u64 b])).run Tryz.prog w' = .ok (.bool true) w' := fun w' => by rw [hcmp w', decide_eq_true h]
  clear hcmp h
  go_wp2
  go_ret2
  exact ⟨rfl, t2.out⟩
 ·have HF := Lib.hid h
  have hcmp2 : ∀ w' : World, (binOp .eql 287 (.agg #[.int .i64 na, .int .u64 nb]) (.agg #[.int .i64 a, .int .u64 b])).run Tryz.prog w' = .ok (.bool false) w' := fun w' => by rw [hcmp w', decide_eq_false h]
  clear hcmp h
  go_wp2
  go_ret2
  exact ⟨rfl, t2.out⟩
end Go.Proofs.YtdangnmeligfjaaGreatDoor
