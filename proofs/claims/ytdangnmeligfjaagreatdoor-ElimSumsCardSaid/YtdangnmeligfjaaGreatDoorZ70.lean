/-
  Plain: values of translations, by the recipes: they do not hang on how deep, and their errors are two. No program in sight.
-/
import Derived.Test.YtdangnmeligfjaaGreatDoorZ55
import Derived.Test.YtdangnmeligfjaaGreatDoorZ46
namespace Go.Gk.V32
open Go.RowKit
theorem lookF_map (f : Rt6 → Vl) : ∀ {l : List Rt6} {k : Rt6}, l.Nodup → k ∈ l → lookF (l.zip (l.map f)) k = f k
 | [], k, _, h => by cases h
 | x :: r, k, hn, h => by
  have h2 := List.nodup_cons.1 hn
  rw [List.map_cons, List.zip_cons_cons]
  by_cases e : k = x
  ·subst e
   refine lookF_cons (k, f k) _ ?_
   rw [List.map_fst_zip (by simp)]
   exact h2.1
  ·rw [lookF_skip _ _ e]
   exact lookF_map f h2.2 ((List.mem_cons.1 h).resolve_left e)
theorem evalOf_map (r : Rcp) (f : Rt6 → Vl) : evalOf r ((readsOf r).map f) = netOf (r.base :: (r.plus.map f ++ (if r.rated then [scaleOf (f r.scaled) r.ratio r.has] else []))) (r.minus.map f) := by
 unfold evalOf
 rw [if_pos (by simp)]
 have hv : ∀ k ∈ rcpAll r, valsOf r ((readsOf r).map f) k = f k := fun k hk => lookF_map f (uniq_nodup _) ((uniq_mem _).2 hk)
 have hp : r.plus.map (valsOf r ((readsOf r).map f)) = r.plus.map f := List.map_congr_left fun k hk => hv k (by unfold rcpAll; simp [hk])
 have hm : r.minus.map (valsOf r ((readsOf r).map f)) = r.minus.map f := List.map_congr_left fun k hk => hv k (by unfold rcpAll; simp [hk])
 rw [hp, hm]
 cases hr : r.rated
 ·simp
 ·rw [hv r.scaled (by unfold rcpAll; simp [hr])]
def fine (v : Vl) : Prop := v.2 = 0 ∨ v.2 = 10 ∨ v.2 = 40
theorem told_fine (x : Int) : fine (told2 x) := by
 unfold told2 fine
 split <;> simp
theorem ferr_fine {l : List Vl} (h : ∀ v ∈ l, fine v) : ∀ f, (f = 0 ∨ f = 10 ∨ f = 40) → (ferr f l = 0 ∨ ferr f l = 10 ∨ ferr f l = 40) := by
 induction l with
 | nil => intro f hf; exact hf
 | cons v r ih =>
  intro f hf
  show ferr (if f = 0 then v.2 else f) r = 0 ∨ _
  refine ih (fun x hx => h x (List.mem_cons_of_mem _ hx)) _ ?_
  split
  ·exact h v (List.mem_cons_self ..)
  ·exact hf
theorem net_fine {p m : List Vl} (hp : ∀ v ∈ p, fine v) (hm : ∀ v ∈ m, fine v) : fine (netOf p m) := by
 unfold netOf
 split
 ·exact told_fine _
 ·exact ferr_fine (fun v hv => (List.mem_append.1 hv).elim (hp v) (hm v)) 0 (.inl rfl)
theorem scale_fine {v : Vl} (hv : fine v) {r : Int × Int} {has : Bool} (h : has = true → ratOK r = true) : fine (scaleOf v r has) := by
 unfold scaleOf
 split
 ·exact hv
 ·split
  ·exact .inl rfl
  ·split
   ·rename_i h1
    unfold applyOf
    rw [if_pos (h h1)]
    exact told_fine _
   ·exact .inr (.inr rfl)
theorem lastRat_mem {l : List Rt6} {k : Rk4} {r : Int × Int} (h : lastRat l k = some r) : ∃ x ∈ l, x.2.2.2.2 = r := by
 have : ∀ (l : List Rt6) (o : Option (Int × Int)), l.foldl (fun o r => if rkey r = k then some r.2.2.2.2 else o) o = some r → o = some r ∨ ∃ x ∈ l, x.2.2.2.2 = r := by
  intro l
  induction l with
  | nil => intro o h; exact .inl h
  | cons y t ih =>
   intro o h
   rw [List.foldl_cons] at h
   rcases ih _ h with h1 | ⟨x, hx, e⟩
   ·by_cases hy : rkey y = k
    ·rw [if_pos hy] at h1
     injection h1 with h1
     exact .inr ⟨y, List.mem_cons_self .., h1⟩
    ·rw [if_neg hy] at h1
     exact .inl h1
   ·exact .inr ⟨x, List.mem_cons_of_mem _ hx, e⟩
 rcases this l none h with h1 | h1
 ·cases h1
 ·exact h1
theorem find_ok {l : List Rt6} (hl : ratesOK l = true) {k : Rk4} (h : (findOf l k).2 = true) : ratOK (findOf l k).1 = true := by
 unfold findOf at h ⊢
 cases e : lastRat l k with
 | none => rw [e] at h; cases h
 | some r =>
  simp only
  obtain ⟨x, hx, rfl⟩ := lastRat_mem e
  unfold ratesOK at hl
  have h1 := List.all_eq_true.1 (Bool.and_eq_true_iff.1 hl).2 x hx
  unfold rateOK at h1
  exact (Bool.and_eq_true_iff.1 h1).2
theorem ratOK_turn {r : Int × Int} (h : ratOK r = true) : ratOK (r.2, r.1) = true := by
 have := ratOK_iff.1 h
 exact ratOK_iff.2 ⟨this.2.1, this.1, this.2.2.2, this.2.2.1⟩
theorem inv_ok {r : Int × Int} (h : (invOf r).2 = 0) : ratOK (invOf r).1 = true := by
 unfold invOf at h ⊢
 by_cases h1 : ratOK r = true
 ·rw [if_pos h1]; exact nrm_ok (ratOK_turn h1)
 ·rw [if_neg h1] at h; cases h
theorem times_ok {a b : Int × Int} (h : (timesOf a b).2 = 0) : ratOK (timesOf a b).1 = true := by
 unfold timesOf at h ⊢
 by_cases h1 : ratOK a = true ∧ ratOK b = true
 ·rw [if_pos h1] at h ⊢
  by_cases h2 : (crs a b).1 ≤ 1000000000000 ∧ (crs a b).2 ≤ 1000000000000
  ·rw [if_pos h2]
   have ka := nrm_ok h1.1
   have kb := nrm_ok h1.2
   have k1 := ratOK_iff.1 (nrm_ok (ratOK_mk ka kb))
   have k2 := ratOK_iff.1 (nrm_ok (ratOK_mk kb ka))
   refine ratOK_iff.2 ⟨?_, ?_, h2.1, h2.2⟩
   ·exact Int.mul_pos (show (0 : Int) < (nrm ((nrm a).1, (nrm b).2)).1 by omega) (show (0 : Int) < (nrm ((nrm b).1, (nrm a).2)).1 by omega)
   ·exact Int.mul_pos (show (0 : Int) < (nrm ((nrm a).1, (nrm b).2)).2 by omega) (show (0 : Int) < (nrm ((nrm b).1, (nrm a).2)).2 by omega)
  ·rw [if_neg h2] at h; cases h
 ·rw [if_neg h1] at h; cases h
theorem leg_ok {l : List Rt6} (hl : ratesOK l = true) {kd p f t : Int} (h : (legOf l kd p f t).2 = true) : ratOK (legOf l kd p f t).1 = true := by
 unfold legOf at h ⊢
 by_cases h1 : (findOf l (f, t, kd, p)).2 = true
 ·rw [if_pos h1]; exact find_ok hl h1
 ·rw [if_neg h1] at h ⊢
  simp only [Bool.and_eq_true, decide_eq_true_eq] at h
  exact inv_ok h.2
theorem third_ok {l : List Rt6} {kd p f t : Int} : ∀ {cs : List Int}, (thirdOf l kd p f t cs).2 = true → ratOK (thirdOf l kd p f t cs).1 = true
 | [], h => by cases h
 | c :: r, h => by
  unfold thirdOf at h ⊢
  split
  ·rename_i h1; exact times_ok h1.2.2
  ·rename_i h1
   rw [if_neg h1] at h
   exact third_ok h
theorem rate_ok {l : List Rt6} (hl : ratesOK l = true) {f t kd p : Int} (h : (rateOf l f t kd p).2 = true) : ratOK (rateOf l f t kd p).1 = true := by
 unfold rateOf at h ⊢
 by_cases h1 : f = t ∧ 1 ≤ f ∧ f ≤ 8
 ·rw [if_pos h1]; decide
 ·rw [if_neg h1] at h ⊢
  unfold crossOf at h ⊢
  by_cases h2 : (legOf l kd p f t).2 = true
  ·rw [if_pos h2]; exact leg_ok hl h2
  ·rw [if_neg h2] at h ⊢
   exact third_ok h
def rcpD (b : Bks) (c : Rt6) : Rcp × Int := if c.1 = 3 then transOf b c else localOf b c
def valD (b : Bks) : Nat → Rt6 → Vl
 | 0, _ => (0, 2)
 | d + 1, c => if (rcpD b c).2 = 0 then evalOf (rcpD b c).1 ((readsOf (rcpD b c).1).map (valD b d)) else (0, 2)
theorem val_64 (b : Bks) (d : Nat) (c : Rt6) : Vl64 (valD b d c) := by
 unfold valD
 cases d with
 | zero => simp [Vl64, I64]
 | succ d =>
  simp only
  split
  ·rw [evalOf_map]; exact net_64 _ _
  ·simp [Vl64, I64]
def Proper (b : Bks) (c : Rt6) : Prop := ((c.1 = 3 ∧ mayOf b c 3 3 = 0) ∨ ((c.1 = 1 ∨ c.1 = 2) ∧ mayOf b c 1 2 = 0)) ∧ 0 ≤ c.2.2.2.1 ∧ c.2.2.2.1 ≤ 5
def rankD (c : Rt6) : Nat := if c.1 = 1 then 0 else if c.1 = 2 then c.2.2.2.1.toNat + 1 else if c.2.2.1 = 1 then 13 else 7 + c.2.2.2.1.toNat
theorem Proper.ok {b : Bks} {c : Rt6} (h : Proper b c) : (rcpD b c).2 = 0 := by
 unfold rcpD
 rcases h.1 with ⟨h1, h2⟩ | ⟨h1, h2⟩
 ·rw [if_pos h1]
  unfold transOf
  rw [if_pos h2]
 ·rw [if_neg (by omega)]
  unfold localOf
  rw [if_pos h2]
theorem may_in {b : Bks} {c : Rt6} {lo hi : Int} (h : mayOf b c lo hi = 0) : cellOK c = true ∧ ¬ (b.ents.length : Int) < max c.2.1 c.2.2.2.2.2 ∧ ¬ (b.accs.length : Int) < c.2.2.1 ∧ (lo ≤ c.1 ∧ c.1 ≤ hi) ∧ accLeaf b.accs c.2.2.1 = true := by
 unfold mayOf at h
 by_cases h0 : cellIn c b.ents.length b.accs.length = 0
 ·rw [if_pos h0] at h
  by_cases h1 : c.1 < lo ∨ hi < c.1
  ·rw [if_pos h1] at h; cases h
  ·rw [if_neg h1] at h
   unfold cellIn at h0
   by_cases h2 : cellOK c = true
   ·rw [if_pos h2] at h0
    by_cases h3 : (b.ents.length : Int) < max c.2.1 c.2.2.2.2.2
    ·rw [if_pos h3] at h0; cases h0
    ·rw [if_neg h3] at h0
     by_cases h4 : (b.accs.length : Int) < c.2.2.1
     ·rw [if_pos h4] at h0; cases h0
     ·refine ⟨h2, h3, h4, by omega, ?_⟩
      by_cases h5 : accLeaf b.accs c.2.2.1 = true
      ·exact h5
      ·rw [if_neg h5] at h; cases h
   ·rw [if_neg h2] at h0; cases h0
 ·rw [if_neg h0] at h; exact absurd h h0
theorem may_of {b : Bks} {c : Rt6} {lo hi : Int} (h2 : cellOK c = true) (h3 : ¬ (b.ents.length : Int) < max c.2.1 c.2.2.2.2.2) (h4 : ¬ (b.accs.length : Int) < c.2.2.1) (h1 : lo ≤ c.1 ∧ c.1 ≤ hi) (h5 : accLeaf b.accs c.2.2.1 = true) : mayOf b c lo hi = 0 := by
 have h0 : cellIn c b.ents.length b.accs.length = 0 := by
  unfold cellIn
  rw [if_pos h2, if_neg h3, if_neg h4]
 unfold mayOf
 rw [if_pos h0, if_neg (by omega), if_pos h5]
theorem leaf_ids {l : List Acc} {a : Int} (h : accLeaf l a = true) : 1 ≤ a ∧ a ≤ l.length := by
 unfold accLeaf accIs at h
 simp only [Bool.and_eq_true, decide_eq_true_eq] at h
 omega
theorem may_trans {b : Bks} {e a p u q a' p' : Int} (h : cellOK (3, e, a, p, u, q) = true) (hn : ¬ (b.ents.length : Int) < max e q) (h60 : b.accs.length ≤ 60) (ha : accLeaf b.accs a' = true) (hp : 0 ≤ p' ∧ p' ≤ p) : mayOf b (3, e, a', p', u, q) 3 3 = 0 := by
 have := leaf_ids ha
 refine may_of ?_ hn (by simp only; omega) ⟨Int.le_refl _, Int.le_refl _⟩ ha
 unfold cellOK at h ⊢
 simp only [Bool.and_eq_true, wi, decide_eq_true_eq, Bool.not_eq_true'] at h ⊢
 simp only [show ¬ ((3 : Int) = 1 ∨ (3 : Int) = 2) by omega, if_false] at h ⊢
 exact ⟨⟨⟨⟨⟨⟨by omega, h.1.1.1.1.1.2⟩, by omega⟩, by omega⟩, h.1.1.2⟩, h.1.2⟩, h.2⟩
theorem may_local {b : Bks} {e a p u q a' p' r : Int} (h : cellOK (3, e, a, p, u, q) = true) (hn : ¬ (b.ents.length : Int) < max e q) (h60 : b.accs.length ≤ 60) (ha : accLeaf b.accs a' = true) (hp : 0 ≤ p' ∧ p' ≤ p) (hr : r = 1 ∨ r = 2) : mayOf b (r, e, a', p', 0, q) 1 2 = 0 := by
 have := leaf_ids ha
 refine may_of ?_ hn (by simp only; omega) (by simp only; omega) ha
 unfold cellOK at h ⊢
 simp only [Bool.and_eq_true, wi, decide_eq_true_eq, Bool.not_eq_true'] at h ⊢
 simp only [show ¬ ((3 : Int) = 1 ∨ (3 : Int) = 2) by omega, if_false] at h
 rw [if_pos hr, if_pos hr]
 rw [if_pos (show (3 : Int) ≤ 3 by omega)] at h
 rw [if_pos (show r ≤ 3 by omega)]
 exact ⟨⟨⟨⟨⟨⟨by omega, h.1.1.1.1.1.2⟩, by omega⟩, by omega⟩, by omega⟩, h.1.2⟩, h.2⟩
theorem reads_iff {r : Rcp} {x : Rt6} : x ∈ readsOf r ↔ x ∈ r.plus ∨ x ∈ r.minus ∨ (r.rated = true ∧ x = r.scaled) := by
 unfold readsOf rcpAll
 rw [uniq_mem, List.mem_append, List.mem_append]
 cases r.rated <;> simp [or_assoc]
theorem reads_down {b : Bks} (h60 : b.accs.length ≤ 60) {c : Rt6} (h : Proper b c) {x : Rt6} (hx : x ∈ readsOf (rcpD b c).1) : Proper b x ∧ rankD x < rankD c := by
 obtain ⟨r, e, a, p, u, q⟩ := c
 obtain ⟨hd, hp0, hp5⟩ := h
 simp only at hp0 hp5
 unfold rcpD at hx
 rcases hd with ⟨h1, h2⟩ | ⟨h1, h2⟩
 ·obtain rfl : r = 3 := h1
  rw [if_pos rfl] at hx
  unfold transOf at hx
  rw [if_pos h2] at hx
  obtain ⟨k1, k2, k3, k4, k5⟩ := may_in h2
  simp only at k2 k3 k5
  unfold transRcp at hx
  simp only at hx
  by_cases ha : a = 1
  ·subst ha
   rw [if_pos rfl] at hx
   by_cases hq : q = 0
   ·subst hq
    rw [if_neg (fun h => h rfl)] at hx
    rw [reads_iff] at hx
    simp only [Rcp.none, List.not_mem_nil, Bool.false_eq_true, false_and, or_false, false_or, List.mem_map, List.mem_filter, decide_eq_true_eq] at hx
    obtain ⟨a', ⟨hl, hne⟩, rfl⟩ := hx
    have hlf : accLeaf b.accs a' = true := by unfold accLeaves at hl; exact (List.mem_filter.1 hl).2
    refine ⟨⟨.inl ⟨rfl, may_trans k1 k2 h60 hlf ⟨hp0, Int.le_refl _⟩⟩, hp0, hp5⟩, ?_⟩
    unfold rankD
    simp only [show ¬ ((3 : Int) = 1) by omega, show ¬ ((3 : Int) = 2) by omega, if_false, if_neg hne, if_true]
    omega
   ·rw [if_pos hq] at hx
    rw [reads_iff] at hx
    simp [Rcp.none] at hx
  ·rw [if_neg ha] at hx
   by_cases hc : curOf b e = u
   ·rw [if_pos hc] at hx
    rw [reads_iff] at hx
    simp only [Rcp.none, List.not_mem_nil, Bool.false_eq_true, false_and, or_false, List.mem_singleton] at hx
    subst hx
    refine ⟨⟨.inr ⟨.inr rfl, may_local k1 k2 h60 k5 ⟨hp0, Int.le_refl _⟩ (.inr rfl)⟩, hp0, hp5⟩, ?_⟩
    unfold rankD
    simp only [show ¬ ((3 : Int) = 1) by omega, show ¬ ((3 : Int) = 2) by omega, show ¬ ((2 : Int) = 1) by omega, if_false, if_neg ha, if_true]
    omega
   ·rw [if_neg hc] at hx
    rw [reads_iff] at hx
    simp only [Rcp.none, List.not_mem_nil, false_or, true_and] at hx
    rcases hx with hx | hx
    ·by_cases hk : kindOf b a ≠ 1 ∧ 0 < p
     ·rw [if_pos hk, List.mem_singleton] at hx
      subst hx
      have hp1 : 0 ≤ p - 1 ∧ p - 1 ≤ p := by omega
      refine ⟨⟨.inl ⟨rfl, may_trans k1 k2 h60 k5 hp1⟩, hp1.1, (show p - 1 ≤ 5 by omega)⟩, ?_⟩
      unfold rankD
      simp only [show ¬ ((3 : Int) = 1) by omega, show ¬ ((3 : Int) = 2) by omega, if_false, if_neg ha]
      omega
     ·rw [if_neg hk] at hx; cases hx
    ·subst hx
     by_cases hk : kindOf b a = 1
     ·rw [if_pos hk]
      refine ⟨⟨.inr ⟨.inr rfl, may_local k1 k2 h60 k5 ⟨hp0, Int.le_refl _⟩ (.inr rfl)⟩, hp0, hp5⟩, ?_⟩
      unfold rankD
      simp only [show ¬ ((3 : Int) = 1) by omega, show ¬ ((3 : Int) = 2) by omega, show ¬ ((2 : Int) = 1) by omega, if_false, if_neg ha, if_true]
      omega
     ·rw [if_neg hk]
      refine ⟨⟨.inr ⟨.inl rfl, may_local k1 k2 h60 k5 ⟨hp0, Int.le_refl _⟩ (.inl rfl)⟩, hp0, hp5⟩, ?_⟩
      unfold rankD
      simp only [show ¬ ((3 : Int) = 1) by omega, show ¬ ((3 : Int) = 2) by omega, if_false, if_neg ha, if_true]
      omega
 ·have h3 : ¬ r = 3 := by simp only at h1; omega
  rw [if_neg h3] at hx
  have hc := (may_cur h2).2
  simp only at hc
  subst hc
  unfold localOf at hx
  rw [if_pos h2] at hx
  simp only at hx h1
  rcases h1 with rfl | rfl
  ·rw [if_pos rfl, reads_iff] at hx
   simp [Rcp.none] at hx
  ·rw [if_neg (by omega), reads_iff] at hx
   simp only [Rcp.none, List.not_mem_nil, Bool.false_eq_true, false_and, or_false] at hx
   unfold localPlus at hx
   simp only at hx
   rcases List.mem_append.1 hx with hx | hx
   ·by_cases hp : 0 < p
    ·rw [if_pos hp, List.mem_singleton] at hx
     subst hx
     have hp1 : 0 ≤ p - 1 ∧ p - 1 ≤ p := by omega
     refine ⟨⟨.inr ⟨.inr rfl, may_per h2 (.inr rfl) hp1⟩, hp1.1, (show p - 1 ≤ 5 by omega)⟩, ?_⟩
     unfold rankD
     simp only [show ¬ ((2 : Int) = 1) by omega, if_false, if_true]
     omega
    ·rw [if_neg hp] at hx; cases hx
   ·rw [List.mem_singleton] at hx
    subst hx
    refine ⟨⟨.inr ⟨.inl rfl, may_per h2 (.inl rfl) ⟨hp0, Int.le_refl _⟩⟩, hp0, hp5⟩, ?_⟩
    unfold rankD
    simp only [show ¬ ((2 : Int) = 1) by omega, if_false, if_true]
    omega
theorem val_stable {b : Bks} (h60 : b.accs.length ≤ 60) : ∀ (n : Nat) (c : Rt6), Proper b c → rankD c ≤ n → ∀ d d', n < d → n < d' → valD b d c = valD b d' c := by
 intro n
 induction n with
 | zero =>
  intro c hc hn d d' hd hd'
  obtain ⟨k, rfl⟩ : ∃ k, d = k + 1 := ⟨d - 1, by omega⟩
  obtain ⟨k', rfl⟩ : ∃ k, d' = k + 1 := ⟨d' - 1, by omega⟩
  unfold valD
  rw [if_pos hc.ok, if_pos hc.ok]
  congr 1
  refine List.map_congr_left fun x hx => ?_
  have := (reads_down h60 hc hx).2
  omega
 | succ n ih =>
  intro c hc hn d d' hd hd'
  obtain ⟨k, rfl⟩ : ∃ k, d = k + 1 := ⟨d - 1, by omega⟩
  obtain ⟨k', rfl⟩ : ∃ k, d' = k + 1 := ⟨d' - 1, by omega⟩
  unfold valD
  rw [if_pos hc.ok, if_pos hc.ok]
  congr 1
  refine List.map_congr_left fun x hx => ?_
  obtain ⟨h1, h2⟩ := reads_down h60 hc hx
  exact ih x h1 (by omega) k k' (by omega) (by omega)
theorem rank_le {b : Bks} {c : Rt6} (h : Proper b c) : rankD c ≤ 13 := by
 have := h.2
 unfold rankD
 split
 ·omega
 ·split
  ·omega
  ·split <;> omega
theorem val_is {b : Bks} (h60 : b.accs.length ≤ 60) {c : Rt6} (h : Proper b c) : valD b 20 c = netOf ((rcpD b c).1.base :: ((rcpD b c).1.plus.map (valD b 20) ++ (if (rcpD b c).1.rated then [scaleOf (valD b 20 (rcpD b c).1.scaled) (rcpD b c).1.ratio (rcpD b c).1.has] else []))) ((rcpD b c).1.minus.map (valD b 20)) := by
 rw [← evalOf_map]
 conv => lhs; unfold valD
 rw [if_pos h.ok]
 congr 1
 refine List.map_congr_left fun x hx => ?_
 obtain ⟨h1, h2⟩ := reads_down h60 h hx
 have := rank_le h
 exact val_stable h60 (rankD x) x h1 (Nat.le_refl _) 19 20 (by omega) (by omega)
theorem rcp_has {b : Bks} (hl : ratesOK b.rates = true) {c : Rt6} (hr : (rcpD b c).1.rated = true) : (rcpD b c).1.has = true → ratOK (rcpD b c).1.ratio = true := by
 unfold rcpD at hr ⊢
 by_cases h3 : c.1 = 3
 ·rw [if_pos h3] at hr ⊢
  unfold transOf at hr ⊢
  by_cases hm : mayOf b c 3 3 = 0
  ·rw [if_pos hm] at hr ⊢
   unfold transRcp at hr ⊢
   simp only at hr ⊢
   by_cases h1 : c.2.2.1 = 1
   ·rw [if_pos h1] at hr
    by_cases h2 : c.2.2.2.2.2 ≠ 0
    ·rw [if_pos h2] at hr; cases hr
    ·rw [if_neg h2] at hr; cases hr
   ·rw [if_neg h1] at hr ⊢
    by_cases h2 : curOf b c.2.1 = c.2.2.2.2.1
    ·rw [if_pos h2] at hr; cases hr
    ·rw [if_neg h2]
     exact fun h => rate_ok hl h
  ·rw [if_neg hm] at hr; cases hr
 ·rw [if_neg h3] at hr
  unfold localOf at hr
  by_cases hm : mayOf b c 1 2 = 0
  ·rw [if_pos hm] at hr
   by_cases h1 : c.1 = 1
   ·rw [if_pos h1] at hr; cases hr
   ·rw [if_neg h1] at hr; cases hr
  ·rw [if_neg hm] at hr; cases hr
theorem base_fine (b : Bks) (c : Rt6) : fine (rcpD b c).1.base := by
 unfold rcpD
 by_cases h3 : c.1 = 3
 ·rw [if_pos h3]
  unfold transOf
  split
  ·unfold transRcp
   simp only
   split
   ·split <;> exact .inl rfl
   ·split <;> exact .inl rfl
  ·exact .inl rfl
 ·rw [if_neg h3]
  unfold localOf
  split
  ·simp only
   split
   ·exact told_fine _
   ·exact .inl rfl
  ·exact .inl rfl
theorem val_fine {b : Bks} (h60 : b.accs.length ≤ 60) (hl : ratesOK b.rates = true) : ∀ (n : Nat) (c : Rt6), Proper b c → rankD c ≤ n → fine (valD b 20 c) := by
 intro n
 have step : ∀ c, Proper b c → (∀ x ∈ readsOf (rcpD b c).1, fine (valD b 20 x)) → fine (valD b 20 c) := by
  intro c hc hx
  rw [val_is h60 hc]
  refine net_fine (fun v hv => ?_) (fun v hv => ?_)
  ·rcases List.mem_cons.1 hv with rfl | hv
   ·exact base_fine b c
   ·rcases List.mem_append.1 hv with hv | hv
    ·obtain ⟨x, h1, rfl⟩ := List.mem_map.1 hv
     exact hx x (reads_iff.2 (.inl h1))
    ·cases hr : (rcpD b c).1.rated with
     | false => rw [hr] at hv; cases hv
     | true =>
      rw [hr] at hv
      obtain rfl := List.mem_singleton.1 hv
      exact scale_fine (hx _ (reads_iff.2 (.inr (.inr ⟨hr, rfl⟩)))) (rcp_has hl hr)
  ·obtain ⟨x, h1, rfl⟩ := List.mem_map.1 hv
   exact hx x (reads_iff.2 (.inr (.inl h1)))
 induction n with
 | zero => intro c hc hn; exact step c hc fun x hx => by have := (reads_down h60 hc hx).2; omega
 | succ n ih => intro c hc hn; exact step c hc fun x hx => by obtain ⟨h1, h2⟩ := reads_down h60 hc hx; exact ih x h1 (by omega)
theorem ids_nodup (n : Nat) : (accIds n).Nodup := by
 unfold accIds
 unfold List.Nodup
 rw [List.pairwise_map]
 exact List.nodup_range.imp fun h e => h (by omega)
theorem leaves_nodup (l : List Acc) : (accLeaves l).Nodup := (ids_nodup _).filter _
theorem leaves_iff {l : List Acc} {a : Int} : a ∈ accLeaves l ↔ accLeaf l a = true := by
 unfold accLeaves
 rw [List.mem_filter]
 refine ⟨fun h => h.2, fun h => ⟨?_, h⟩⟩
 obtain ⟨h1, h2⟩ := leaf_ids h
 unfold accIds
 rw [List.mem_map]
 exact ⟨(a - 1).toNat, by rw [List.mem_range]; omega, by omega⟩
theorem accs_60 {b : Bks} (h : booksOK b = true) : b.accs.length ≤ 60 ∧ 3 ≤ b.accs.length := by
 unfold booksOK at h
 simp only [Bool.and_eq_true] at h
 obtain ⟨⟨⟨⟨⟨_, h⟩, _⟩, _⟩, _⟩, _⟩ := h
 unfold accsOK at h
 simp only [Bool.and_eq_true, decide_eq_true_eq] at h
 omega
theorem books_rates {b : Bks} (h : booksOK b = true) : ratesOK b.rates = true := by
 unfold booksOK at h
 simp only [Bool.and_eq_true] at h
 exact h.1.1.2
open Go.RowKit
theorem sum_one (v : Int) {a : Int} : ∀ {l : List Int}, l.Nodup → a ∈ l → (l.map fun x => if a = x then v else 0).sum = v
 | [], _, h => by cases h
 | x :: r, hn, h => by
  have h2 := List.nodup_cons.1 hn
  by_cases e : a = x
  ·subst e
   have hz : ∀ l : List Int, a ∉ l → (l.map fun x => if a = x then v else 0).sum = 0 := by
    intro l
    induction l with
    | nil => intro _; rfl
    | cons y t ih =>
     intro hy
     simp only [List.mem_cons, not_or] at hy
     simp only [List.map_cons, List.sum_cons, if_neg hy.1, ih hy.2]
     rfl
   simp only [List.map_cons, List.sum_cons, if_true, hz r h2.1]
   omega
  ·have ih := sum_one v h2.2 ((List.mem_cons.1 h).resolve_left e)
   simp only [List.map_cons, List.sum_cons, if_neg e, ih]
   omega
theorem sum_add (f g : Int → Int) (l : List Int) : (l.map fun x => f x + g x).sum = (l.map f).sum + (l.map g).sum := by
 induction l with
 | nil => rfl
 | cons y t ih => simp only [List.map_cons, List.sum_cons, ih]; omega
end Go.Gk.V32
