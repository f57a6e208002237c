/-
  The document's: a number put into a rising row.
-/
import Derived.Deep.RegionHeld3
import Derived.Test.YtdangnmeligfjaaGreatDoorZ11
import Derived.Test.YtdangnmeligfjaaGreatDoorZ64
import Derived.Test.YtdangnmeligfjaaGreatDoorZ38
import Derived.Test.YtdangnmeligfjaaGreatDoorZ62
import Derived.Test.YtdangnmeligfjaaGreatDoorZ61
import Derived.Test.YtdangnmeligfjaaGreatDoorLv
namespace Go.Gk.V33
open Go.RowKit
/-- append at a step of a region that draws its order. -/
theorem step_appends {P : Program} (w : World) {ops : Array Oper} {o : Oper} {a : Act} {K : Act → World → Prop} {Q : Exit → Act → World → Prop} {E : Prop} (hgd : o.guard = none) (s x : Operand) (t : TypeId)
    (ho : o.op = .call { callee := .builtin .append, args := #[s, x], argTypes := #[t, t] })
    {e : TypeId} {z : Value} {size bytes : Nat} (T : RowTy P t e z size bytes) {v : Value} {n : Nat} {xs : List Value} (hown : w.ownsRow 0 e size v n xs) (hv : a.eval s = v)
    {ao : Option Addr} {m c : Nat} {news : List Value} (hs : Src w ao m c size news) (hx : a.eval x = .slice ao m c) (h1 : ∀ u ∈ news, u.oneCell' = true)
    (h63 : n + m ≤ maxLen) (hbytes : (n + m) * bytes ≤ 140737488355328)
    (h : ∀ v' w', w'.ownsRow 0 e size v' (n + m) (xs ++ news) → w.grownBy w' v.ownBlock → (∀ g, v'.ownBlock = some g → v.ownBlock = some g ∨ w.heap.size ≤ g) → K (a.put o.dst v') w') :
    if Region.wanted o (yielded ops a.tmps) = true then Oper.wp P o a w K Q else E := by
  have hw : Region.wanted o (yielded ops a.tmps) = true := by simp [Region.wanted, hgd]
  rw [if_pos hw]
  obtain ⟨v', w', hr, h2, h3, h4⟩ := run_append w T o.type hown hs h1 h63 hbytes
  unfold Oper.wp execOp
  simp only [ho, resolve, invoke, builtin, Sem.run_bind, Sem.run_pure, Result.andThen_ok, List.map_toArray, List.map_cons, List.map_nil, hv, hx, hr]
  exact h v' w' h2 h3 h4

def withD : List Int → Int → List Int
  | [], n => [n]
  | x :: r, n => if x < n then x :: withD r n else if x = n then x :: r else n :: x :: r
theorem with_mem {q n : Int} : ∀ xs : List Int, q ∈ withD xs n ↔ q ∈ xs ∨ q = n
  | [] => by simp [withD]
  | x :: r => by
    unfold withD
    by_cases h1 : x < n
    · rw [if_pos h1, List.mem_cons, List.mem_cons, with_mem r, or_assoc]
    · rw [if_neg h1]
      by_cases h2 : x = n
      · subst h2
        rw [if_pos rfl, List.mem_cons]
        constructor
        · exact .inl
        · rintro (h | h)
          · exact h
          · exact .inl h
      · rw [if_neg h2, List.mem_cons]
        exact or_comm
theorem with_len (xs : List Int) (n : Int) : (withD xs n).length ≤ xs.length + 1 := by
  induction xs with
  | nil => simp [withD]
  | cons x r ih =>
    unfold withD
    split
    · simp only [List.length_cons]; omega
    · split
      · simp
      · simp
theorem with_drop {xs : List Int} {n : Int} {j : Nat} (h : j < xs.length) : withD (xs.drop j) n = if xs[j] < n then xs[j] :: withD (xs.drop (j + 1)) n else if xs[j] = n then xs.drop j else n :: xs.drop j := by
  rw [List.drop_eq_getElem_cons h]
  rfl
theorem flatI_one (l : List Int) : ∀ u ∈ l.flatMap int1, u.oneCell' = true := by
  intro u hu
  obtain ⟨x, _, hx⟩ := List.mem_flatMap.1 hu
  simp [int1] at hx
  subst hx
  rfl
theorem flatI_one1 (x : Int) : ∀ u ∈ [Value.int .i64 x], u.oneCell' = true := by
  intro u hu
  rw [List.mem_singleton] at hu
  subst hu
  rfl
end Go.Gk.V33
namespace Go.Proofs.YtdangnmeligfjaaGreatDoor
open Go.RowKit Go.Gk Go.Gk.V33

theorem with_done {w0 w w' : World} {u : Value} {xs : List Int} {x : Int} {j : Nat} (hT0 : Tch (fun _ => False) w0 w) (hj : j ≤ xs.length) (he : withD xs x = xs.take j ++ x :: xs.drop j) (hown : w'.ownsRow 0 3 1 u (j + 1 + (xs.length - j)) ((xs.take j).flatMap int1 ++ [.int .i64 x] ++ (xs.drop j).flatMap int1)) (hb : ∀ g, u.ownBlock = some g → w.heap.size ≤ g) (t : Tch (fun k => w.heap.size ≤ k) w w') : OutI w0 w' u (withD xs x) := by
  refine ⟨own_up ?_ fun g hg => Nat.le_trans hT0.size (hb g hg), hT0.trans' t (fun i hi => .inr (Nat.le_trans hT0.size hi))⟩
  rw [he]
  have e1 : (xs.take j ++ x :: xs.drop j).length = j + 1 + (xs.length - j) := by
    rw [List.length_append, List.length_cons, List.length_take, List.length_drop]; omega
  have e2 : (xs.take j ++ x :: xs.drop j).flatMap int1 = (xs.take j).flatMap int1 ++ [.int .i64 x] ++ (xs.drop j).flatMap int1 := by
    rw [List.flatMap_append, List.flatMap_cons, List.append_assoc]; rfl
  rw [e1, e2]
  exact hown

set_option maxRecDepth 100000 in
set_option maxHeartbeats 6400000 in
theorem refwith_cons {w0 w : World} {g c : Nat} {xs : List Int} (hO : OutI w0 w (.slice (some ⟨g, 0, none⟩) xs.length c) xs) (hx0 : xs ≠ []) (hlc : xs.length ≤ c) (hn : xs.length ≤ 100000) (x : Int) :
    Calls Tryz.prog 197 #[.slice (some ⟨g, 0, none⟩) xs.length c, .int .i64 x] w fun y w' => ∃ u, y = .returned u ∧ OutI w0 w' u (withD xs x) := by
  have hk : RowsOf int1 1 (fun h => h < w.heap.size) w (.slice (some ⟨g, 0, none⟩) xs.length c) xs := Row.own hO.own fun g hg => (hO.own.lt g hg).2
  have HO := Lib.hid hO
  have hl0 : 0 < xs.length := List.length_pos_iff.2 hx0
  have hc0 : ¬ c = 0 := by omega
  have HWD := Lib.hid (fun j (hj : j < xs.length) => with_drop (n := x) hj)
  have hbn : ∀ (W : World) (N : Nat), N = W.heap.size → ∀ j u, ([Value.int .i64 x])[j]? = some u → (W.alloc (.cells #[.int .i64 x] 3)).cell? ⟨N, j, none⟩ = some u := fun W N e j u hu => by
    rw [e, (Blk.new W 3 #[.int .i64 x]).cell j]; simpa using hu
  have hmd : ∀ (W : World) (N : Nat), N = W.heap.size → (W.alloc (.cells #[] 3)).ownsRow 0 3 1 (.slice (some ⟨N, 0, none⟩) 0 0) 0 [] := fun W N e => by
    rw [e]; exact own_base (own_made W 3 1 0 #[] (Nat.zero_le _) rfl)
  have HFIN := Lib.hid (fun (j : Nat) (hj : j ≤ xs.length) (he : withD xs x = xs.take j ++ x :: xs.drop j) (w' : World) (u : Value) (hown : w'.ownsRow 0 3 1 u (j + 1 + (xs.length - j)) ((xs.take j).flatMap int1 ++ [.int .i64 x] ++ (xs.drop j).flatMap int1)) (hb : ∀ g, u.ownBlock = some g → w.heap.size ≤ g) (t : Tch (fun k => w.heap.size ≤ k) w w') => with_done hO.tch hj he hown hb t)
  clear hO hx0
  go_enter Tryz.func197, Tryz.ntmps197
  go_wp2_with fail
  go_loopw [5] (fun k wr => ∃ j : Nat, j ≤ xs.length ∧ k = .int .i64 j ∧ withD xs x = xs.take j ++ withD (xs.drop j) x ∧ w = wr) (fun k _ => xs.length - (intOf k).toNat)
  case atStart => exact ⟨0, Nat.zero_le _, rfl, by simp, rfl⟩
  case round =>
    obtain ⟨j, hj, rfl, hw, rfl⟩ := hrel
    have HW := Lib.hid hw
    have hj0 : (0 : Int) ≤ (j : Int) := Int.natCast_nonneg _
    have hkt := Row.takes' int1_len hk hj
    have hlt9 : (xs.take j).length = j := by rw [List.length_take]; omega
    unfold RowsOf at hkt
    rw [hlt9] at hkt
    have hkd0 := Row.cuts int1_len hk hj (Nat.le_refl _)
    rw [List.take_of_length_le (by rw [List.length_drop]; omega)] at hkd0
    have HF1 := Lib.hid (fun he => HFIN.out j hj he)
    obtain ⟨ms, hms⟩ : ∃ ms, (xs.take j).flatMap int1 = ms := ⟨_, rfl⟩
    have HMS := Lib.hid (show ∀ u ∈ ms, u.oneCell' = true by rw [← hms]; exact flatI_one _)
    rw [hms] at hkt HF1
    obtain ⟨ds, hds⟩ : ∃ ds, (xs.drop j).flatMap int1 = ds := ⟨_, rfl⟩
    have HDS := Lib.hid (show ∀ u ∈ ds, u.oneCell' = true by rw [← hds]; exact flatI_one _)
    rw [hds] at hkd0 HF1
    have hif : (if j = 0 then (⟨g, 0, none⟩ : Addr) else ⟨g, j, none⟩) = ⟨g, j, none⟩ := by
      by_cases h9 : j = 0 <;> simp [h9]
    have hjc : (j : Int) ≤ (c : Int) := by omega
    have hjl : (j : Int) ≤ (xs.length : Int) := by omega
    have hlc9 : (xs.length : Int) ≤ (c : Int) := by omega
    clear hw hms hds hlt9 HFIN
    by_cases hlt : j < xs.length
    rotate_left
    -- all are less
    have hje : j = xs.length := by omega
    have HF2 := Lib.hid (HF1.out (by rw [HW.out, hje, List.drop_length]; rfl))
    have hlt' : ¬ (j : Int) < (xs.length : Int) := by omega
    clear HW HWD HF1 hje hk
    by_cases hcj : c = j
    · subst c
      have hkd : Row (fun h => h < w.heap.size) w (.slice (some ⟨g, 0, none⟩) (xs.length - j) 0) (xs.length - j) 1 ds := by simpa [sliced] using hkd0
      go_wp2_with fail
      clear hkd0 hlt hlt' hlc hlc9
      go_region_held3 (fun _ => True)
        (first | go_keep | exact trivial | trivial)
        (first
          | (refine step_appends _ (by rfl) (.tmp 33) (.tmp 36) _ (by rfl) rowInts ((Tch.drew (fun _ => False) _).own (hmd w w.heap.size rfl) (fun _ _ => id)) (by rfl) ((hkt.keep (by repeat (first | exact Tch.refl _ _ | refine Tch.trans ?_ (Tch.drew _ _) | refine Tch.trans ?_ (Tch.alloc _ _ _)))).src) (by rfl) HMS.out (by unfold maxLen; omega) (by omega) ?_; intro v2 w2 ho2 hg2 hl2; rw [Nat.zero_add, List.nil_append] at ho2; obtain ⟨A2, c2, rfl, _, _, _⟩ := own_form ho2; have t2 : Tch (fun k => w.heap.size ≤ k) w w2 := Tch.trans (by repeat (first | exact Tch.refl _ _ | refine Tch.trans ?_ (Tch.drew _ _) | refine Tch.trans ?_ (Tch.alloc _ _ _))) (Tch.grown hg2 (fun k e => .inl (by have e' := own_at e; omega))); have n2 : ∀ k, (Value.slice A2 j c2).ownBlock = some k → w.heap.size ≤ k := fun k e => (hl2 k e).elim (fun h => by have e' := own_at h; omega) (fun h => by (try simp at h); omega))
          | (refine step_appends _ (by rfl) (.tmp 33) (.tmp 36) _ (by rfl) rowInts (((Tch.alloc (fun _ => False) _ _).trans (Tch.drew _ _)).own (hmd w w.heap.size rfl) (fun _ _ => id)) (by rfl) ((hkt.keep (by repeat (first | exact Tch.refl _ _ | refine Tch.trans ?_ (Tch.drew _ _) | refine Tch.trans ?_ (Tch.alloc _ _ _)))).src) (by rfl) HMS.out (by unfold maxLen; omega) (by omega) ?_; intro v2 w2 ho2 hg2 hl2; rw [Nat.zero_add, List.nil_append] at ho2; obtain ⟨A2, c2, rfl, _, _, _⟩ := own_form ho2; have t2 : Tch (fun k => w.heap.size ≤ k) w w2 := Tch.trans (by repeat (first | exact Tch.refl _ _ | refine Tch.trans ?_ (Tch.drew _ _) | refine Tch.trans ?_ (Tch.alloc _ _ _))) (Tch.grown hg2 (fun k e => .inl (by have e' := own_at e; omega))); have n2 : ∀ k, (Value.slice A2 j c2).ownBlock = some k → w.heap.size ≤ k := fun k e => (hl2 k e).elim (fun h => by have e' := own_at h; omega) (fun h => by (try simp at h); omega))
          | (refine step_appends _ (by rfl) (.tmp 33) (.tmp 36) _ (by rfl) rowInts ((Tch.drew (fun _ => False) _).own (hmd (w.alloc (.cells #[.int .i64 x] 3)) (w.heap.size + 1) (by simp)) (fun _ _ => id)) (by rfl) ((hkt.keep (by repeat (first | exact Tch.refl _ _ | refine Tch.trans ?_ (Tch.drew _ _) | refine Tch.trans ?_ (Tch.alloc _ _ _)))).src) (by rfl) HMS.out (by unfold maxLen; omega) (by omega) ?_; intro v2 w2 ho2 hg2 hl2; rw [Nat.zero_add, List.nil_append] at ho2; obtain ⟨A2, c2, rfl, _, _, _⟩ := own_form ho2; have t2 : Tch (fun k => w.heap.size ≤ k) w w2 := Tch.trans (by repeat (first | exact Tch.refl _ _ | refine Tch.trans ?_ (Tch.drew _ _) | refine Tch.trans ?_ (Tch.alloc _ _ _))) (Tch.grown hg2 (fun k e => .inl (by have e' := own_at e; omega))); have n2 : ∀ k, (Value.slice A2 j c2).ownBlock = some k → w.heap.size ≤ k := fun k e => (hl2 k e).elim (fun h => by have e' := own_at h; omega) (fun h => by (try simp at h); omega))
          | (refine step_appends _ (by rfl) (.tmp 37) (.tmp 39) _ (by rfl) rowInts (by first | exact ho2 | exact ho2.alloc _) (by rfl) (Go.Gk.Src.one (g := w2.heap.size) (news := [.int .i64 x]) rfl (fun j u hu => hbn w2 _ rfl j u hu)) (by rfl) (flatI_one1 _) (by unfold maxLen; omega) (by omega) ?_; intro v6 w6 ho6 hg6 hl6; obtain ⟨A6, c6, rfl, _, _, _⟩ := own_form ho6; have t6 : Tch (fun k => w.heap.size ≤ k) w w6 := t2.trans (Tch.trans (by repeat (first | exact Tch.refl _ _ | refine Tch.trans ?_ (Tch.drew _ _) | refine Tch.trans ?_ (Tch.alloc _ _ _))) (Tch.grown hg6 (fun k e => .inl (n2 k e)))); have n6 : ∀ k, (Value.slice A6 (j + 1) c6).ownBlock = some k → w.heap.size ≤ k := fun k e => (hl6 k e).elim (n2 k) (fun h => by have := t2.size; (try simp at h); omega))
          | (refine step_appends _ (by rfl) (.tmp 37) (.tmp 39) _ (by rfl) rowInts (by first | exact ho2 | exact ho2.alloc _) (by rfl) (Go.Gk.Src.one (g := w.heap.size + 1) (news := [.int .i64 x]) rfl (fun j u hu => (Tch.grown (F := fun k => k = w.heap.size) hg2 (fun k e => .inl (own_at e).symm)).cell_some (hbn (w.alloc (.cells #[] 3)) _ (by simp) j u hu) (by show ¬ w.heap.size + 1 = w.heap.size; omega))) (by rfl) (flatI_one1 _) (by unfold maxLen; omega) (by omega) ?_; intro v6 w6 ho6 hg6 hl6; obtain ⟨A6, c6, rfl, _, _, _⟩ := own_form ho6; have t6 : Tch (fun k => w.heap.size ≤ k) w w6 := t2.trans (Tch.trans (by repeat (first | exact Tch.refl _ _ | refine Tch.trans ?_ (Tch.drew _ _) | refine Tch.trans ?_ (Tch.alloc _ _ _))) (Tch.grown hg6 (fun k e => .inl (n2 k e)))); have n6 : ∀ k, (Value.slice A6 (j + 1) c6).ownBlock = some k → w.heap.size ≤ k := fun k e => (hl6 k e).elim (n2 k) (fun h => by have := t2.size; (try simp at h); omega))
          | (refine step_appends _ (by rfl) (.tmp 37) (.tmp 39) _ (by rfl) rowInts (by first | exact ho2 | exact ho2.alloc _) (by rfl) (Go.Gk.Src.one (g := w.heap.size) (news := [.int .i64 x]) rfl (fun j u hu => (Tch.grown (F := fun k => k = w.heap.size + 1) hg2 (fun k e => .inl (own_at e).symm)).cell_some ((Tch.alloc (fun _ => False) _ _).cell_some (hbn w _ rfl j u hu) id) (by show ¬ w.heap.size = w.heap.size + 1; omega))) (by rfl) (flatI_one1 _) (by unfold maxLen; omega) (by omega) ?_; intro v6 w6 ho6 hg6 hl6; obtain ⟨A6, c6, rfl, _, _, _⟩ := own_form ho6; have t6 : Tch (fun k => w.heap.size ≤ k) w w6 := t2.trans (Tch.trans (by repeat (first | exact Tch.refl _ _ | refine Tch.trans ?_ (Tch.drew _ _) | refine Tch.trans ?_ (Tch.alloc _ _ _))) (Tch.grown hg6 (fun k e => .inl (n2 k e)))); have n6 : ∀ k, (Value.slice A6 (j + 1) c6).ownBlock = some k → w.heap.size ≤ k := fun k e => (hl6 k e).elim (n2 k) (fun h => by have := t2.size; (try simp at h); omega))
          | (refine step_appends _ (by rfl) (.tmp 40) (.tmp 43) _ (by rfl) rowInts ho6 (by rfl) (hkd.keepTo t6 (fun _ h9 h8 => ⟨by omega, h8⟩)).src (by rfl) HDS.out (by unfold maxLen; omega) (by omega) ?_; intro v8 w8 ho8 hg8 hl8; obtain ⟨A8, c8, rfl, _, _, _⟩ := own_form ho8; have t8 : Tch (fun k => w.heap.size ≤ k) w w8 := t6.trans (Tch.grown hg8 (fun k e => .inl (n6 k e))); have n8 := fun k e => (hl8 k e).elim (n6 k) (fun h => by have := t6.size; (try simp at h); omega))
          )
      all_goals
        go_wp2
        go_ret
        exact ⟨_, rfl, HF2.out _ _ ho8 n8 t8⟩
    · have hkd : Row (fun h => h < w.heap.size) w (.slice (some ⟨g, j, none⟩) (xs.length - j) (c - j)) (xs.length - j) 1 ds := by simpa [sliced, hcj, Addr.add, hif] using hkd0
      go_wp2_with fail
      clear hkd0 hlt hlt'
      go_region_held3 (fun _ => True)
        (first | go_keep | exact trivial | trivial)
        (first
          | (refine step_appends _ (by rfl) (.tmp 33) (.tmp 36) _ (by rfl) rowInts ((Tch.drew (fun _ => False) _).own (hmd w w.heap.size rfl) (fun _ _ => id)) (by rfl) ((hkt.keep (by repeat (first | exact Tch.refl _ _ | refine Tch.trans ?_ (Tch.drew _ _) | refine Tch.trans ?_ (Tch.alloc _ _ _)))).src) (by rfl) HMS.out (by unfold maxLen; omega) (by omega) ?_; intro v2 w2 ho2 hg2 hl2; rw [Nat.zero_add, List.nil_append] at ho2; obtain ⟨A2, c2, rfl, _, _, _⟩ := own_form ho2; have t2 : Tch (fun k => w.heap.size ≤ k) w w2 := Tch.trans (by repeat (first | exact Tch.refl _ _ | refine Tch.trans ?_ (Tch.drew _ _) | refine Tch.trans ?_ (Tch.alloc _ _ _))) (Tch.grown hg2 (fun k e => .inl (by have e' := own_at e; omega))); have n2 : ∀ k, (Value.slice A2 j c2).ownBlock = some k → w.heap.size ≤ k := fun k e => (hl2 k e).elim (fun h => by have e' := own_at h; omega) (fun h => by (try simp at h); omega))
          | (refine step_appends _ (by rfl) (.tmp 33) (.tmp 36) _ (by rfl) rowInts (((Tch.alloc (fun _ => False) _ _).trans (Tch.drew _ _)).own (hmd w w.heap.size rfl) (fun _ _ => id)) (by rfl) ((hkt.keep (by repeat (first | exact Tch.refl _ _ | refine Tch.trans ?_ (Tch.drew _ _) | refine Tch.trans ?_ (Tch.alloc _ _ _)))).src) (by rfl) HMS.out (by unfold maxLen; omega) (by omega) ?_; intro v2 w2 ho2 hg2 hl2; rw [Nat.zero_add, List.nil_append] at ho2; obtain ⟨A2, c2, rfl, _, _, _⟩ := own_form ho2; have t2 : Tch (fun k => w.heap.size ≤ k) w w2 := Tch.trans (by repeat (first | exact Tch.refl _ _ | refine Tch.trans ?_ (Tch.drew _ _) | refine Tch.trans ?_ (Tch.alloc _ _ _))) (Tch.grown hg2 (fun k e => .inl (by have e' := own_at e; omega))); have n2 : ∀ k, (Value.slice A2 j c2).ownBlock = some k → w.heap.size ≤ k := fun k e => (hl2 k e).elim (fun h => by have e' := own_at h; omega) (fun h => by (try simp at h); omega))
          | (refine step_appends _ (by rfl) (.tmp 33) (.tmp 36) _ (by rfl) rowInts ((Tch.drew (fun _ => False) _).own (hmd (w.alloc (.cells #[.int .i64 x] 3)) (w.heap.size + 1) (by simp)) (fun _ _ => id)) (by rfl) ((hkt.keep (by repeat (first | exact Tch.refl _ _ | refine Tch.trans ?_ (Tch.drew _ _) | refine Tch.trans ?_ (Tch.alloc _ _ _)))).src) (by rfl) HMS.out (by unfold maxLen; omega) (by omega) ?_; intro v2 w2 ho2 hg2 hl2; rw [Nat.zero_add, List.nil_append] at ho2; obtain ⟨A2, c2, rfl, _, _, _⟩ := own_form ho2; have t2 : Tch (fun k => w.heap.size ≤ k) w w2 := Tch.trans (by repeat (first | exact Tch.refl _ _ | refine Tch.trans ?_ (Tch.drew _ _) | refine Tch.trans ?_ (Tch.alloc _ _ _))) (Tch.grown hg2 (fun k e => .inl (by have e' := own_at e; omega))); have n2 : ∀ k, (Value.slice A2 j c2).ownBlock = some k → w.heap.size ≤ k := fun k e => (hl2 k e).elim (fun h => by have e' := own_at h; omega) (fun h => by (try simp at h); omega))
          | (refine step_appends _ (by rfl) (.tmp 37) (.tmp 39) _ (by rfl) rowInts (by first | exact ho2 | exact ho2.alloc _) (by rfl) (Go.Gk.Src.one (g := w2.heap.size) (news := [.int .i64 x]) rfl (fun j u hu => hbn w2 _ rfl j u hu)) (by rfl) (flatI_one1 _) (by unfold maxLen; omega) (by omega) ?_; intro v6 w6 ho6 hg6 hl6; obtain ⟨A6, c6, rfl, _, _, _⟩ := own_form ho6; have t6 : Tch (fun k => w.heap.size ≤ k) w w6 := t2.trans (Tch.trans (by repeat (first | exact Tch.refl _ _ | refine Tch.trans ?_ (Tch.drew _ _) | refine Tch.trans ?_ (Tch.alloc _ _ _))) (Tch.grown hg6 (fun k e => .inl (n2 k e)))); have n6 : ∀ k, (Value.slice A6 (j + 1) c6).ownBlock = some k → w.heap.size ≤ k := fun k e => (hl6 k e).elim (n2 k) (fun h => by have := t2.size; (try simp at h); omega))
          | (refine step_appends _ (by rfl) (.tmp 37) (.tmp 39) _ (by rfl) rowInts (by first | exact ho2 | exact ho2.alloc _) (by rfl) (Go.Gk.Src.one (g := w.heap.size + 1) (news := [.int .i64 x]) rfl (fun j u hu => (Tch.grown (F := fun k => k = w.heap.size) hg2 (fun k e => .inl (own_at e).symm)).cell_some (hbn (w.alloc (.cells #[] 3)) _ (by simp) j u hu) (by show ¬ w.heap.size + 1 = w.heap.size; omega))) (by rfl) (flatI_one1 _) (by unfold maxLen; omega) (by omega) ?_; intro v6 w6 ho6 hg6 hl6; obtain ⟨A6, c6, rfl, _, _, _⟩ := own_form ho6; have t6 : Tch (fun k => w.heap.size ≤ k) w w6 := t2.trans (Tch.trans (by repeat (first | exact Tch.refl _ _ | refine Tch.trans ?_ (Tch.drew _ _) | refine Tch.trans ?_ (Tch.alloc _ _ _))) (Tch.grown hg6 (fun k e => .inl (n2 k e)))); have n6 : ∀ k, (Value.slice A6 (j + 1) c6).ownBlock = some k → w.heap.size ≤ k := fun k e => (hl6 k e).elim (n2 k) (fun h => by have := t2.size; (try simp at h); omega))
          | (refine step_appends _ (by rfl) (.tmp 37) (.tmp 39) _ (by rfl) rowInts (by first | exact ho2 | exact ho2.alloc _) (by rfl) (Go.Gk.Src.one (g := w.heap.size) (news := [.int .i64 x]) rfl (fun j u hu => (Tch.grown (F := fun k => k = w.heap.size + 1) hg2 (fun k e => .inl (own_at e).symm)).cell_some ((Tch.alloc (fun _ => False) _ _).cell_some (hbn w _ rfl j u hu) id) (by show ¬ w.heap.size = w.heap.size + 1; omega))) (by rfl) (flatI_one1 _) (by unfold maxLen; omega) (by omega) ?_; intro v6 w6 ho6 hg6 hl6; obtain ⟨A6, c6, rfl, _, _, _⟩ := own_form ho6; have t6 : Tch (fun k => w.heap.size ≤ k) w w6 := t2.trans (Tch.trans (by repeat (first | exact Tch.refl _ _ | refine Tch.trans ?_ (Tch.drew _ _) | refine Tch.trans ?_ (Tch.alloc _ _ _))) (Tch.grown hg6 (fun k e => .inl (n2 k e)))); have n6 : ∀ k, (Value.slice A6 (j + 1) c6).ownBlock = some k → w.heap.size ≤ k := fun k e => (hl6 k e).elim (n2 k) (fun h => by have := t2.size; (try simp at h); omega))
          | (refine step_appends _ (by rfl) (.tmp 40) (.tmp 43) _ (by rfl) rowInts ho6 (by rfl) (hkd.keepTo t6 (fun _ h9 h8 => ⟨by omega, h8⟩)).src (by rfl) HDS.out (by unfold maxLen; omega) (by omega) ?_; intro v8 w8 ho8 hg8 hl8; obtain ⟨A8, c8, rfl, _, _, _⟩ := own_form ho8; have t8 : Tch (fun k => w.heap.size ≤ k) w w8 := t6.trans (Tch.grown hg8 (fun k e => .inl (n6 k e))); have n8 := fun k e => (hl8 k e).elim (n6 k) (fun h => by have := t6.size; (try simp at h); omega))
          )
      all_goals
        go_wp2
        go_ret
        exact ⟨_, rfl, HF2.out _ _ ho8 n8 t8⟩
    have hlt' : (j : Int) < (xs.length : Int) := by omega
    have q0 : w.cell? ⟨g, j, none⟩ = some (.int .i64 xs[j]) := by simpa using Row.one hk int1_len hlt rfl
    have HS := Lib.hid (HWD.out j hlt)
    have HTK := Lib.hid (show xs.take (j + 1) = xs.take j ++ [xs[j]] from List.take_succ_eq_append_getElem hlt)
    generalize xs[j] = y at *
    by_cases hy : y < x
    · have HW2 := Lib.hid (show withD xs x = xs.take (j + 1) ++ withD (xs.drop (j + 1)) x by rw [HW.out, HS.out, if_pos hy, HTK.out]; simp)
      clear HF1 hkd0 hkt
      go_wp2
      go_roundw
      case rel => exact ⟨j + 1, by omega, by go_num, HW2.out, trivial⟩
      case measure => simp [intOf]; omega
    by_cases he : y = x
    · subst he
      have HW2 := Lib.hid (show withD xs y = xs by rw [HW.out, HS.out, if_neg hy, if_pos rfl, List.take_append_drop])
      clear HF1 hbn hmd hkd0 hkt
      go_wp2
      go_ret
      exact ⟨_, rfl, by rw [HW2.out]; exact HO.out⟩
    have hyx : (y == x) = false := by simpa using he
    have HF2 := Lib.hid (HF1.out (by rw [HW.out, HS.out, if_neg hy, if_neg he]))
    have hcj : ¬ c = j := by omega
    have hkd : Row (fun h => h < w.heap.size) w (.slice (some ⟨g, j, none⟩) (xs.length - j) (c - j)) (xs.length - j) 1 ds := by simpa [sliced, hcj, Addr.add, hif] using hkd0
    clear hkd0 HW HWD HF1 HS HTK
    go_wp2_with fail
    go_region_held3 (fun _ => True)
      (first | go_keep | exact trivial | trivial)
      (first
        | (refine step_appends _ (by rfl) (.tmp 33) (.tmp 36) _ (by rfl) rowInts ((Tch.drew (fun _ => False) _).own (hmd w w.heap.size rfl) (fun _ _ => id)) (by rfl) ((hkt.keep (by repeat (first | exact Tch.refl _ _ | refine Tch.trans ?_ (Tch.drew _ _) | refine Tch.trans ?_ (Tch.alloc _ _ _)))).src) (by rfl) HMS.out (by unfold maxLen; omega) (by omega) ?_; intro v2 w2 ho2 hg2 hl2; rw [Nat.zero_add, List.nil_append] at ho2; obtain ⟨A2, c2, rfl, _, _, _⟩ := own_form ho2; have t2 : Tch (fun k => w.heap.size ≤ k) w w2 := Tch.trans (by repeat (first | exact Tch.refl _ _ | refine Tch.trans ?_ (Tch.drew _ _) | refine Tch.trans ?_ (Tch.alloc _ _ _))) (Tch.grown hg2 (fun k e => .inl (by have e' := own_at e; omega))); have n2 : ∀ k, (Value.slice A2 j c2).ownBlock = some k → w.heap.size ≤ k := fun k e => (hl2 k e).elim (fun h => by have e' := own_at h; omega) (fun h => by (try simp at h); omega))
        | (refine step_appends _ (by rfl) (.tmp 33) (.tmp 36) _ (by rfl) rowInts (((Tch.alloc (fun _ => False) _ _).trans (Tch.drew _ _)).own (hmd w w.heap.size rfl) (fun _ _ => id)) (by rfl) ((hkt.keep (by repeat (first | exact Tch.refl _ _ | refine Tch.trans ?_ (Tch.drew _ _) | refine Tch.trans ?_ (Tch.alloc _ _ _)))).src) (by rfl) HMS.out (by unfold maxLen; omega) (by omega) ?_; intro v2 w2 ho2 hg2 hl2; rw [Nat.zero_add, List.nil_append] at ho2; obtain ⟨A2, c2, rfl, _, _, _⟩ := own_form ho2; have t2 : Tch (fun k => w.heap.size ≤ k) w w2 := Tch.trans (by repeat (first | exact Tch.refl _ _ | refine Tch.trans ?_ (Tch.drew _ _) | refine Tch.trans ?_ (Tch.alloc _ _ _))) (Tch.grown hg2 (fun k e => .inl (by have e' := own_at e; omega))); have n2 : ∀ k, (Value.slice A2 j c2).ownBlock = some k → w.heap.size ≤ k := fun k e => (hl2 k e).elim (fun h => by have e' := own_at h; omega) (fun h => by (try simp at h); omega))
        | (refine step_appends _ (by rfl) (.tmp 33) (.tmp 36) _ (by rfl) rowInts ((Tch.drew (fun _ => False) _).own (hmd (w.alloc (.cells #[.int .i64 x] 3)) (w.heap.size + 1) (by simp)) (fun _ _ => id)) (by rfl) ((hkt.keep (by repeat (first | exact Tch.refl _ _ | refine Tch.trans ?_ (Tch.drew _ _) | refine Tch.trans ?_ (Tch.alloc _ _ _)))).src) (by rfl) HMS.out (by unfold maxLen; omega) (by omega) ?_; intro v2 w2 ho2 hg2 hl2; rw [Nat.zero_add, List.nil_append] at ho2; obtain ⟨A2, c2, rfl, _, _, _⟩ := own_form ho2; have t2 : Tch (fun k => w.heap.size ≤ k) w w2 := Tch.trans (by repeat (first | exact Tch.refl _ _ | refine Tch.trans ?_ (Tch.drew _ _) | refine Tch.trans ?_ (Tch.alloc _ _ _))) (Tch.grown hg2 (fun k e => .inl (by have e' := own_at e; omega))); have n2 : ∀ k, (Value.slice A2 j c2).ownBlock = some k → w.heap.size ≤ k := fun k e => (hl2 k e).elim (fun h => by have e' := own_at h; omega) (fun h => by (try simp at h); omega))
        | (refine step_appends _ (by rfl) (.tmp 37) (.tmp 39) _ (by rfl) rowInts (by first | exact ho2 | exact ho2.alloc _) (by rfl) (Go.Gk.Src.one (g := w2.heap.size) (news := [.int .i64 x]) rfl (fun j u hu => hbn w2 _ rfl j u hu)) (by rfl) (flatI_one1 _) (by unfold maxLen; omega) (by omega) ?_; intro v6 w6 ho6 hg6 hl6; obtain ⟨A6, c6, rfl, _, _, _⟩ := own_form ho6; have t6 : Tch (fun k => w.heap.size ≤ k) w w6 := t2.trans (Tch.trans (by repeat (first | exact Tch.refl _ _ | refine Tch.trans ?_ (Tch.drew _ _) | refine Tch.trans ?_ (Tch.alloc _ _ _))) (Tch.grown hg6 (fun k e => .inl (n2 k e)))); have n6 : ∀ k, (Value.slice A6 (j + 1) c6).ownBlock = some k → w.heap.size ≤ k := fun k e => (hl6 k e).elim (n2 k) (fun h => by have := t2.size; (try simp at h); omega))
        | (refine step_appends _ (by rfl) (.tmp 37) (.tmp 39) _ (by rfl) rowInts (by first | exact ho2 | exact ho2.alloc _) (by rfl) (Go.Gk.Src.one (g := w.heap.size + 1) (news := [.int .i64 x]) rfl (fun j u hu => (Tch.grown (F := fun k => k = w.heap.size) hg2 (fun k e => .inl (own_at e).symm)).cell_some (hbn (w.alloc (.cells #[] 3)) _ (by simp) j u hu) (by show ¬ w.heap.size + 1 = w.heap.size; omega))) (by rfl) (flatI_one1 _) (by unfold maxLen; omega) (by omega) ?_; intro v6 w6 ho6 hg6 hl6; obtain ⟨A6, c6, rfl, _, _, _⟩ := own_form ho6; have t6 : Tch (fun k => w.heap.size ≤ k) w w6 := t2.trans (Tch.trans (by repeat (first | exact Tch.refl _ _ | refine Tch.trans ?_ (Tch.drew _ _) | refine Tch.trans ?_ (Tch.alloc _ _ _))) (Tch.grown hg6 (fun k e => .inl (n2 k e)))); have n6 : ∀ k, (Value.slice A6 (j + 1) c6).ownBlock = some k → w.heap.size ≤ k := fun k e => (hl6 k e).elim (n2 k) (fun h => by have := t2.size; (try simp at h); omega))
        | (refine step_appends _ (by rfl) (.tmp 37) (.tmp 39) _ (by rfl) rowInts (by first | exact ho2 | exact ho2.alloc _) (by rfl) (Go.Gk.Src.one (g := w.heap.size) (news := [.int .i64 x]) rfl (fun j u hu => (Tch.grown (F := fun k => k = w.heap.size + 1) hg2 (fun k e => .inl (own_at e).symm)).cell_some ((Tch.alloc (fun _ => False) _ _).cell_some (hbn w _ rfl j u hu) id) (by show ¬ w.heap.size = w.heap.size + 1; omega))) (by rfl) (flatI_one1 _) (by unfold maxLen; omega) (by omega) ?_; intro v6 w6 ho6 hg6 hl6; obtain ⟨A6, c6, rfl, _, _, _⟩ := own_form ho6; have t6 : Tch (fun k => w.heap.size ≤ k) w w6 := t2.trans (Tch.trans (by repeat (first | exact Tch.refl _ _ | refine Tch.trans ?_ (Tch.drew _ _) | refine Tch.trans ?_ (Tch.alloc _ _ _))) (Tch.grown hg6 (fun k e => .inl (n2 k e)))); have n6 : ∀ k, (Value.slice A6 (j + 1) c6).ownBlock = some k → w.heap.size ≤ k := fun k e => (hl6 k e).elim (n2 k) (fun h => by have := t2.size; (try simp at h); omega))
        | (refine step_appends _ (by rfl) (.tmp 40) (.tmp 43) _ (by rfl) rowInts ho6 (by rfl) (hkd.keepTo t6 (fun _ h9 h8 => ⟨by omega, h8⟩)).src (by rfl) HDS.out (by unfold maxLen; omega) (by omega) ?_; intro v8 w8 ho8 hg8 hl8; obtain ⟨A8, c8, rfl, _, _, _⟩ := own_form ho8; have t8 : Tch (fun k => w.heap.size ≤ k) w w8 := t6.trans (Tch.grown hg8 (fun k e => .inl (n6 k e))); have n8 := fun k e => (hl8 k e).elim (n6 k) (fun h => by have := t6.size; (try simp at h); omega))
        )
    all_goals
      go_wp2
      go_ret
      exact ⟨_, rfl, HF2.out _ _ ho8 n8 t8⟩

set_option maxRecDepth 100000 in
set_option maxHeartbeats 6400000 in
theorem refwith_nil {w0 w : World} (hT0 : Tch (fun _ => False) w0 w) (x : Int) :
    Calls Tryz.prog 197 #[.slice none 0 0, .int .i64 x] w fun y w' => ∃ u, y = .returned u ∧ OutI w0 w' u [x] := by
  have hbn : ∀ (W : World) (N : Nat), N = W.heap.size → ∀ j u, ([Value.int .i64 x])[j]? = some u → (W.alloc (.cells #[.int .i64 x] 3)).cell? ⟨N, j, none⟩ = some u := fun W N e j u hu => by
    rw [e, (Blk.new W 3 #[.int .i64 x]).cell j]; simpa using hu
  have hmd : ∀ (W : World) (N : Nat), N = W.heap.size → (W.alloc (.cells #[] 3)).ownsRow 0 3 1 (.slice (some ⟨N, 0, none⟩) 0 0) 0 [] := fun W N e => by
    rw [e]; exact own_base (own_made W 3 1 0 #[] (Nat.zero_le _) rfl)
  have hkt : Row (fun h => h < w.heap.size) w (.slice none 0 0) 0 1 [] := Row.nil _ _ _
  have hkd : Row (fun h => h < w.heap.size) w (.slice none 0 0) 0 1 [] := Row.nil _ _ _
  have HMS := Lib.hid (show ∀ u ∈ ([] : List Value), u.oneCell' = true from fun u hu => by cases hu)
  have HDS := HMS
  have HF2 := Lib.hid (fun (w' : World) (u : Value) (hown : w'.ownsRow 0 3 1 u (0 + 1 + 0) ([] ++ [.int .i64 x] ++ [])) (hb : ∀ g, u.ownBlock = some g → w.heap.size ≤ g) (t : Tch (fun k => w.heap.size ≤ k) w w') => show OutI w0 w' u [x] from with_done (xs := []) (j := 0) hT0 (Nat.le_refl _) rfl hown hb t)
  go_enter Tryz.func197, Tryz.ntmps197
  go_wp2_with fail
  go_loopw [5] (fun k wr => k = .int .i64 0 ∧ w = wr) (fun _ _ => 0)
  case atStart => exact ⟨rfl, rfl⟩
  case round =>
    obtain ⟨rfl, rfl⟩ := hrel
    go_wp2_with fail
    go_region_held3 (fun _ => True)
      (first | go_keep | exact trivial | trivial)
      (first
        | (refine step_appends _ (by rfl) (.tmp 33) (.tmp 36) _ (by rfl) rowInts ((Tch.drew (fun _ => False) _).own (hmd w w.heap.size rfl) (fun _ _ => id)) (by rfl) ((hkt.keep (by repeat (first | exact Tch.refl _ _ | refine Tch.trans ?_ (Tch.drew _ _) | refine Tch.trans ?_ (Tch.alloc _ _ _)))).src) (by rfl) HMS.out (by unfold maxLen; omega) (by omega) ?_; intro v2 w2 ho2 hg2 hl2; rw [Nat.zero_add, List.nil_append] at ho2; obtain ⟨A2, c2, rfl, _, _, _⟩ := own_form ho2; have t2 : Tch (fun k => w.heap.size ≤ k) w w2 := Tch.trans (by repeat (first | exact Tch.refl _ _ | refine Tch.trans ?_ (Tch.drew _ _) | refine Tch.trans ?_ (Tch.alloc _ _ _))) (Tch.grown hg2 (fun k e => .inl (by have e' := own_at e; omega))); have n2 : ∀ k, (Value.slice A2 0 c2).ownBlock = some k → w.heap.size ≤ k := fun k e => (hl2 k e).elim (fun h => by have e' := own_at h; omega) (fun h => by (try simp at h); omega))
        | (refine step_appends _ (by rfl) (.tmp 33) (.tmp 36) _ (by rfl) rowInts (((Tch.alloc (fun _ => False) _ _).trans (Tch.drew _ _)).own (hmd w w.heap.size rfl) (fun _ _ => id)) (by rfl) ((hkt.keep (by repeat (first | exact Tch.refl _ _ | refine Tch.trans ?_ (Tch.drew _ _) | refine Tch.trans ?_ (Tch.alloc _ _ _)))).src) (by rfl) HMS.out (by unfold maxLen; omega) (by omega) ?_; intro v2 w2 ho2 hg2 hl2; rw [Nat.zero_add, List.nil_append] at ho2; obtain ⟨A2, c2, rfl, _, _, _⟩ := own_form ho2; have t2 : Tch (fun k => w.heap.size ≤ k) w w2 := Tch.trans (by repeat (first | exact Tch.refl _ _ | refine Tch.trans ?_ (Tch.drew _ _) | refine Tch.trans ?_ (Tch.alloc _ _ _))) (Tch.grown hg2 (fun k e => .inl (by have e' := own_at e; omega))); have n2 : ∀ k, (Value.slice A2 0 c2).ownBlock = some k → w.heap.size ≤ k := fun k e => (hl2 k e).elim (fun h => by have e' := own_at h; omega) (fun h => by (try simp at h); omega))
        | (refine step_appends _ (by rfl) (.tmp 33) (.tmp 36) _ (by rfl) rowInts ((Tch.drew (fun _ => False) _).own (hmd (w.alloc (.cells #[.int .i64 x] 3)) (w.heap.size + 1) (by simp)) (fun _ _ => id)) (by rfl) ((hkt.keep (by repeat (first | exact Tch.refl _ _ | refine Tch.trans ?_ (Tch.drew _ _) | refine Tch.trans ?_ (Tch.alloc _ _ _)))).src) (by rfl) HMS.out (by unfold maxLen; omega) (by omega) ?_; intro v2 w2 ho2 hg2 hl2; rw [Nat.zero_add, List.nil_append] at ho2; obtain ⟨A2, c2, rfl, _, _, _⟩ := own_form ho2; have t2 : Tch (fun k => w.heap.size ≤ k) w w2 := Tch.trans (by repeat (first | exact Tch.refl _ _ | refine Tch.trans ?_ (Tch.drew _ _) | refine Tch.trans ?_ (Tch.alloc _ _ _))) (Tch.grown hg2 (fun k e => .inl (by have e' := own_at e; omega))); have n2 : ∀ k, (Value.slice A2 0 c2).ownBlock = some k → w.heap.size ≤ k := fun k e => (hl2 k e).elim (fun h => by have e' := own_at h; omega) (fun h => by (try simp at h); omega))
        | (refine step_appends _ (by rfl) (.tmp 37) (.tmp 39) _ (by rfl) rowInts (by first | exact ho2 | exact ho2.alloc _) (by rfl) (Go.Gk.Src.one (g := w2.heap.size) (news := [.int .i64 x]) rfl (fun j u hu => hbn w2 _ rfl j u hu)) (by rfl) (flatI_one1 _) (by unfold maxLen; omega) (by omega) ?_; intro v6 w6 ho6 hg6 hl6; obtain ⟨A6, c6, rfl, _, _, _⟩ := own_form ho6; have t6 : Tch (fun k => w.heap.size ≤ k) w w6 := t2.trans (Tch.trans (by repeat (first | exact Tch.refl _ _ | refine Tch.trans ?_ (Tch.drew _ _) | refine Tch.trans ?_ (Tch.alloc _ _ _))) (Tch.grown hg6 (fun k e => .inl (n2 k e)))); have n6 : ∀ k, (Value.slice A6 (0 + 1) c6).ownBlock = some k → w.heap.size ≤ k := fun k e => (hl6 k e).elim (n2 k) (fun h => by have := t2.size; (try simp at h); omega))
        | (refine step_appends _ (by rfl) (.tmp 37) (.tmp 39) _ (by rfl) rowInts (by first | exact ho2 | exact ho2.alloc _) (by rfl) (Go.Gk.Src.one (g := w.heap.size + 1) (news := [.int .i64 x]) rfl (fun j u hu => (Tch.grown (F := fun k => k = w.heap.size) hg2 (fun k e => .inl (own_at e).symm)).cell_some (hbn (w.alloc (.cells #[] 3)) _ (by simp) j u hu) (by show ¬ w.heap.size + 1 = w.heap.size; omega))) (by rfl) (flatI_one1 _) (by unfold maxLen; omega) (by omega) ?_; intro v6 w6 ho6 hg6 hl6; obtain ⟨A6, c6, rfl, _, _, _⟩ := own_form ho6; have t6 : Tch (fun k => w.heap.size ≤ k) w w6 := t2.trans (Tch.trans (by repeat (first | exact Tch.refl _ _ | refine Tch.trans ?_ (Tch.drew _ _) | refine Tch.trans ?_ (Tch.alloc _ _ _))) (Tch.grown hg6 (fun k e => .inl (n2 k e)))); have n6 : ∀ k, (Value.slice A6 (0 + 1) c6).ownBlock = some k → w.heap.size ≤ k := fun k e => (hl6 k e).elim (n2 k) (fun h => by have := t2.size; (try simp at h); omega))
        | (refine step_appends _ (by rfl) (.tmp 37) (.tmp 39) _ (by rfl) rowInts (by first | exact ho2 | exact ho2.alloc _) (by rfl) (Go.Gk.Src.one (g := w.heap.size) (news := [.int .i64 x]) rfl (fun j u hu => (Tch.grown (F := fun k => k = w.heap.size + 1) hg2 (fun k e => .inl (own_at e).symm)).cell_some ((Tch.alloc (fun _ => False) _ _).cell_some (hbn w _ rfl j u hu) id) (by show ¬ w.heap.size = w.heap.size + 1; omega))) (by rfl) (flatI_one1 _) (by unfold maxLen; omega) (by omega) ?_; intro v6 w6 ho6 hg6 hl6; obtain ⟨A6, c6, rfl, _, _, _⟩ := own_form ho6; have t6 : Tch (fun k => w.heap.size ≤ k) w w6 := t2.trans (Tch.trans (by repeat (first | exact Tch.refl _ _ | refine Tch.trans ?_ (Tch.drew _ _) | refine Tch.trans ?_ (Tch.alloc _ _ _))) (Tch.grown hg6 (fun k e => .inl (n2 k e)))); have n6 : ∀ k, (Value.slice A6 (0 + 1) c6).ownBlock = some k → w.heap.size ≤ k := fun k e => (hl6 k e).elim (n2 k) (fun h => by have := t2.size; (try simp at h); omega))
        | (refine step_appends _ (by rfl) (.tmp 40) (.tmp 43) _ (by rfl) rowInts ho6 (by rfl) (hkd.keepTo t6 (fun _ h9 h8 => ⟨by omega, h8⟩)).src (by rfl) HDS.out (by unfold maxLen; omega) (by omega) ?_; intro v8 w8 ho8 hg8 hl8; obtain ⟨A8, c8, rfl, _, _, _⟩ := own_form ho8; have t8 : Tch (fun k => w.heap.size ≤ k) w w8 := t6.trans (Tch.grown hg8 (fun k e => .inl (n6 k e))); have n8 := fun k e => (hl8 k e).elim (n6 k) (fun h => by have := t6.size; (try simp at h); omega))
        )
    all_goals
      go_wp2
      go_ret
      exact ⟨_, rfl, HF2.out _ _ ho8 n8 t8⟩

theorem refwith_any {w0 w : World} {v : Value} {xs : List Int} (hO : OutI w0 w v xs) (hv : xs = [] → v = .slice none 0 0) (hn : xs.length ≤ 100000) (x : Int) :
    Calls Tryz.prog 197 #[v, .int .i64 x] w fun y w' => ∃ u, y = .returned u ∧ OutI w0 w' u (withD xs x) := by
  by_cases h : xs = []
  · rw [hv h, h]
    exact refwith_nil hO.tch x
  · obtain ⟨A, c, rfl, h1, _, hA⟩ := own_form hO.own
    obtain ⟨g, o, rfl⟩ := hO.row.head (List.length_pos_iff.2 h)
    rcases hA with hA | ⟨g', hA⟩
    · cases hA
    · injection hA with hA
      injection hA with hA1 hA2
      subst hA1 hA2
      exact refwith_cons hO h h1 hn x
end Go.Proofs.YtdangnmeligfjaaGreatDoor

/-
  The document's: the partners of an entity's lines.
-/
namespace Go.Gk.V33
open Go.RowKit
/-- Is it a line with a partner, up to a period? -/
def isPart (e a p : Int) (x : P7) : Bool := decide (x.2.2.2.1 = e) && decide (x.2.2.2.2.1 = a) && (decide (x.2.2.1 ≤ p) && x.2.2.2.2.2.1 != 0)
def partsD (l : List P7) (F : P7 → Bool) : List Int := ((l.filter F).map (·.2.2.2.2.2.1)).foldl withD []
theorem with_ne (xs : List Int) (n : Int) : withD xs n ≠ [] := by
  cases xs with
  | nil => simp [withD]
  | cons x r =>
    unfold withD
    split
    · simp
    · split <;> simp
theorem foldW_mem {q : Int} : ∀ (zs acc : List Int), q ∈ zs.foldl withD acc ↔ q ∈ acc ∨ q ∈ zs
  | [], acc => by simp
  | z :: r, acc => by rw [List.foldl_cons, foldW_mem r, with_mem, List.mem_cons, or_assoc]
theorem foldW_len : ∀ (zs acc : List Int), (zs.foldl withD acc).length ≤ acc.length + zs.length
  | [], acc => Nat.le_refl _
  | z :: r, acc => by
    have h1 := foldW_len r (withD acc z)
    have h2 := with_len acc z
    rw [List.foldl_cons, List.length_cons]
    omega
theorem parts_step {l : List P7} {F : P7 → Bool} {j : Nat} (h : j < l.length) : partsD (l.take (j + 1)) F = if F l[j] = true then withD (partsD (l.take j) F) l[j].2.2.2.2.2.1 else partsD (l.take j) F := by
  unfold partsD
  rw [take_filter F h]
  by_cases hh : F l[j] = true
  · rw [if_pos hh, if_pos hh, List.map_append, List.foldl_append]
    rfl
  · rw [if_neg hh, if_neg hh, List.append_nil]
theorem partsD_len (l : List P7) (F : P7 → Bool) : (partsD l F).length ≤ l.length := by
  unfold partsD
  refine Nat.le_trans (foldW_len _ _) ?_
  rw [List.length_nil, Nat.zero_add, List.length_map]
  exact List.length_filter_le _ _
theorem partsD_mem {l : List Ent} {e a p q : Int} : q ∈ partsD (lines7 l) (isPart e a p) ↔ q ∈ ptnOf (posts l) e a p := by
  unfold partsD
  rw [foldW_mem, ptn_iff, ← lines7_posts]
  constructor
  · rintro (h | h)
    · cases h
    · obtain ⟨x, hx, rfl⟩ := List.mem_map.1 h
      obtain ⟨h1, h2⟩ := List.mem_filter.1 hx
      unfold isPart at h2
      simp only [Bool.and_eq_true, decide_eq_true_eq, bne_iff_ne, ne_eq] at h2
      exact ⟨h2.2.2, x.2.2, List.mem_map.2 ⟨x, h1, rfl⟩, h2.1.1, h2.1.2, h2.2.1, rfl⟩
  · rintro ⟨h0, y, hy, h1, h2, h3, h4⟩
    obtain ⟨x, hx, rfl⟩ := List.mem_map.1 hy
    refine .inr (List.mem_map.2 ⟨x, List.mem_filter.2 ⟨hx, ?_⟩, h4⟩)
    unfold isPart
    simp only [Bool.and_eq_true, decide_eq_true_eq, bne_iff_ne, ne_eq]
    exact ⟨⟨h1, h2⟩, h3, fun e => h0 (by rw [← h4]; exact e)⟩
end Go.Gk.V33
namespace Go.Proofs.YtdangnmeligfjaaGreatDoor
open Go.RowKit Go.Gk Go.Gk.V33

set_option maxRecDepth 100000 in
set_option maxHeartbeats 3200000 in
theorem refpartners_any {w : World} {v : Value} {us : List (Ent × Value)} (hu : EntsIs w v us) (hul : us.length ≤ 300) (hll : ∀ p ∈ us, p.1.lines.length ≤ 100) (e a p : Int) :
    Calls Tryz.prog 167 #[v, .int .i64 e, .int .i64 a, .int .i64 p] w fun x w' => ∃ u zs, x = .returned u ∧ OutI w w' u zs ∧ zs.length ≤ 100000 ∧ ∀ q, q ∈ zs ↔ q ∈ ptnOf (posts (us.map (·.1))) e a p := by
  obtain ⟨A, c, rfl, hc1, hc2⟩ := hu.row.form
  have HL := Lib.hid (reflines_any hu (by omega) (fun p hp => by have := hll p hp; omega))
  have hn : (lines7 (us.map (·.1))).length ≤ 100000 := by
    have h1 : (lines7 (us.map (·.1))).length = (posts (us.map (·.1))).length := by rw [← lines7_posts, List.length_map]
    have h2 := posts_len (us.map (·.1)) 100 (fun x hx => by obtain ⟨p, hp, rfl⟩ := List.mem_map.1 hx; exact hll p hp)
    rw [List.length_map] at h2
    have h3 : us.length * 100 ≤ 300 * 100 := Nat.mul_le_mul_right _ hul
    omega
  have HMEM := Lib.hid (fun q => partsD_mem (l := us.map (·.1)) (e := e) (a := a) (p := p) (q := q))
  obtain ⟨G, hG⟩ : ∃ G : Int → Prop, (fun q => q ∈ ptnOf (posts (us.map (·.1))) e a p) = G := ⟨_, rfl⟩
  have HG := Lib.hid (fun q => show (q ∈ ptnOf (posts (us.map (·.1))) e a p) = G q by rw [← hG])
  simp only [HG.out] at HMEM ⊢
  clear hG HG
  generalize lines7 (us.map (·.1)) = l at *
  obtain ⟨F, hF⟩ : ∃ F, isPart e a p = F := ⟨_, rfl⟩
  rw [hF] at HMEM
  have HF := Lib.hid (show ∀ x1 x2 x3 x4 x5 x6 x7, F (x1, x2, x3, x4, x5, x6, x7) = (decide (x4 = e) && decide (x5 = a) && (decide (x3 ≤ p) && x6 != 0)) from fun x1 x2 x3 x4 x5 x6 x7 => by rw [← hF]; rfl)
  clear hF hu hll hul
  go_enter Tryz.func167, Tryz.ntmps167
  go_wp2_with fail
  refine HL.out.mono ?_
  rintro _ w1 ⟨u, rfl, hU⟩
  clear HL
  obtain ⟨U, cu, rfl, hu1, hu2⟩ := hU.form
  have hrow := hU.row
  have tt := hU.tch
  clear hU
  go_wp2_with fail
  go_loopw [10, 11] (fun out i wr => ∃ (j : Nat) (xs : List Int), j ≤ l.length ∧ i = .int .i64 j ∧ partsD (l.take j) F = xs ∧ OutI w1 wr out xs ∧ (xs = [] → out = .slice none 0 0)) (fun _ i _ => l.length - (intOf i).toNat)
  case atStart => exact ⟨0, [], Nat.zero_le _, rfl, rfl, Outs.start _ _ _ (Tch.refl _ _), fun _ => rfl⟩
  case round =>
    obtain ⟨j, xs, hj, rfl, hx, hO, hv⟩ := hrel
    obtain ⟨O, co, rfl, ho1, ho2⟩ := hO.form
    have HV := Lib.hid hv
    clear hv
    have hxl : xs.length ≤ j := by rw [← hx]; exact Nat.le_trans (partsD_len _ _) (by rw [List.length_take]; omega)
    have HX := Lib.hid hx
    clear hx
    by_cases hlt : j < l.length
    · have hlt' : (j : Int) < (l.length : Int) := by omega
      have hj0 : (0 : Int) ≤ (j : Int) := Int.natCast_nonneg _
      obtain ⟨g, o, rfl⟩ := hrow.head (by omega)
      obtain ⟨q0, q1, q2, q3, q4, q5, q6⟩ := Row.seven (hrow.keep hO.tch) int7_len hlt rfl
      have HR := Lib.hid (fun ob => Row.seven (hrow.keep (hO.tch.trans (Tch.alloc (fun _ => False) wr ob))) int7_len hlt rfl)
      have HS := Lib.hid (show partsD (l.take (j + 1)) F = if F l[j] = true then withD xs l[j].2.2.2.2.2.1 else xs by rw [parts_step hlt, HX.out])
      generalize l[j] = s at *
      obtain ⟨x1, x2, x3, x4, x5, x6, x7⟩ := s
      simp only at q0 q1 q2 q3 q4 q5 q6 HS HR
      obtain ⟨r0, r1, r2, r3, r4, r5, r6⟩ := HR.out (.cells #[.int .i64 x4, .int .i64 x5, .int .i64 x6, .int .i64 x7] 120)
      have hO := hO.keep (Tch.alloc _ wr (.cells #[.int .i64 x4, .int .i64 x5, .int .i64 x6, .int .i64 x7] 120))
      by_cases h4 : x4 = e
      rotate_left
      · have HS := Lib.hid (show partsD (l.take (j + 1)) F = xs by rw [HS.out, HF.out]; simp [h4])
        clear HF
        go_wp2
        go_roundw
        case rel => exact ⟨j + 1, xs, by omega, by go_num, HS.out, hO, HV.out⟩
        case measure => simp [intOf]; omega
      subst h4
      by_cases h5 : x5 = a
      rotate_left
      · have HS := Lib.hid (show partsD (l.take (j + 1)) F = xs by rw [HS.out, HF.out]; simp [h5])
        clear HF
        go_wp2
        go_roundw
        case rel => exact ⟨j + 1, xs, by omega, by go_num, HS.out, hO, HV.out⟩
        case measure => simp [intOf]; omega
      subst h5
      by_cases h3 : x3 ≤ p
      rotate_left
      · have HS := Lib.hid (show partsD (l.take (j + 1)) F = xs by rw [HS.out, HF.out]; simp [h3])
        clear HF
        go_wp2
        go_roundw
        case rel => exact ⟨j + 1, xs, by omega, by go_num, HS.out, hO, HV.out⟩
        case measure => simp [intOf]; omega
      by_cases h6 : x6 = 0
      · subst h6
        have HS2 := Lib.hid (show partsD (l.take (j + 1)) F = xs by rw [HS.out, HF.out]; simp)
        clear HF HS
        go_wp2
        go_roundw
        case rel => exact ⟨j + 1, xs, by omega, by go_num, HS2.out, hO, HV.out⟩
        case measure => simp [intOf]; omega
      have b1 : (x6 != 0) = true := by simpa using h6
      have HS := Lib.hid (show partsD (l.take (j + 1)) F = withD xs x6 by rw [HS.out, HF.out]; simp [h3, h6])
      have HW := Lib.hid (refwith_any hO HV.out (by omega) x6)
      clear HF
      go_wp2_with fail
      refine HW.out.mono ?_
      rintro _ w3 ⟨u3, rfl, hO3⟩
      obtain ⟨O3, co3, rfl, _, _⟩ := hO3.form
      clear HW
      go_wp2_with fail
      go_roundw
      case rel => exact ⟨j + 1, _, by omega, by go_num, HS.out, hO3, fun h9 => absurd h9 (with_ne _ _)⟩
      case measure => simp [intOf]; omega
    · obtain rfl : l.length = j := by omega
      rw [List.take_length] at HX
      have e := HX.out
      subst e
      go_wp2
      go_ret
      exact ⟨_, rfl, _, hO.base tt, Nat.le_trans (partsD_len _ _) hn, fun q => HMEM.out q⟩
end Go.Proofs.YtdangnmeligfjaaGreatDoor

/-
  The document's: pairs that meet at a node; their translations.
-/
namespace Go.Gk.V33
open Go.RowKit
def hasP (b : Bks) (acc p x y : Int) : Bool := decide (y ∈ ptnOf (posts b.entries) x acc p)
def pairOK (b : Bks) (node acc p x y : Int) : Bool := (meetD b.stakes p b.ents.length x y == node) && hasP b acc p x y
def pairRow (b : Bks) (node acc p x : Int) : List (Int × Int) := ((accIds b.ents.length).filter (pairOK b node acc p x)).map fun y => (x, y)
theorem flat_same {β : Type} {f g : Int → List β} : ∀ {l : List Int}, (∀ x ∈ l, f x = g x) → l.flatMap f = l.flatMap g
  | [], _ => rfl
  | x :: r, h => by rw [List.flatMap_cons, List.flatMap_cons, h x (List.mem_cons_self ..), flat_same fun y hy => h y (List.mem_cons_of_mem _ hy)]
theorem pairs_doc {b : Bks} {p : Nat} (hp : p < 24) (hok : stakesOK b.stakes b.ents.length = true) (node acc : Int) : (accIds b.ents.length).flatMap (pairRow b node acc p) = pairsD b node acc p := by
  unfold pairsD
  refine flat_same fun x hx => ?_
  unfold pairRow pairsAt ptsOf
  rw [List.filter_filter]
  congr 1
  refine List.filter_congr fun y hy => ?_
  unfold pairOK hasP
  rw [meet_is hp hok (ids_iff.1 hx) (ids_iff.1 hy)]
theorem pairRow_len (b : Bks) (node acc p x : Int) : (pairRow b node acc p x).length ≤ b.ents.length := by
  unfold pairRow
  rw [List.length_map]
  exact Nat.le_trans (List.length_filter_le _ _) (by rw [accIds_len]; omega)
end Go.Gk.V33
namespace Go.Proofs.YtdangnmeligfjaaGreatDoor
open Go.RowKit Go.Gk Go.Gk.V33

section
variable {w : World} {e a s r l n : Value} {b : Bks} {us : List (Ent × Value)}
set_option maxRecDepth 100000 in
set_option maxHeartbeats 1600000 in
theorem refhas33_any (h : BksAt w e a s r l n b us) (hul : us.length ≤ 300) (hll : ∀ p ∈ us, p.1.lines.length ≤ 100) (x acc p q : Int) :
    Calls Tryz.prog 128 #[.agg #[e, a, s, r, l, n], .int .i64 x, .int .i64 acc, .int .i64 p, .int .i64 q] w fun y w' => y = .returned (.bool (hasP b acc p x q)) ∧ Tch (fun _ => False) w w' := by
  have tw := Tch.alloc (fun _ => False) w (.cells #[e, a, s, r, l, n] 29)
  have bB := Blk.new w 29 #[e, a, s, r, l, n]
  have HPA := Lib.hid (refpartners_any (h.keep tw).ent hul hll x acc p)
  rw [h.map] at HPA
  have HHP := Lib.hid (show hasP b acc p x q = decide (q ∈ ptnOf (posts b.entries) x acc p) from rfl)
  generalize hasP b acc p x q = hp at *
  generalize ptnOf (posts b.entries) x acc p = ps at *
  obtain ⟨Ae, ce, rfl, _, _⟩ := h.ents.form
  obtain ⟨Aa, ca, rfl, _, _⟩ := h.accs.form
  obtain ⟨As, cs, rfl, _, _⟩ := h.stakes.form
  obtain ⟨Ar, cr, rfl, _, _⟩ := h.rates.form
  obtain ⟨Al, cl, rfl, _, _⟩ := h.locks.form
  obtain ⟨An, cn, rfl, _, _⟩ := h.ent.row.form
  clear h
  go_enter Tryz.func128, Tryz.ntmps128
  have g0 : (w.alloc (.cells #[.slice Ae b.ents.length ce, .slice Aa b.accs.length ca, .slice As b.stakes.length cs, .slice Ar b.rates.length cr, .slice Al b.locks.length cl, .slice An us.length cn] 29)).cell? ⟨w.heap.size, 0, none⟩ = some (.slice Ae b.ents.length ce) := bB.cell 0
  have g1 : (w.alloc (.cells #[.slice Ae b.ents.length ce, .slice Aa b.accs.length ca, .slice As b.stakes.length cs, .slice Ar b.rates.length cr, .slice Al b.locks.length cl, .slice An us.length cn] 29)).cell? ⟨w.heap.size, 1, none⟩ = some (.slice Aa b.accs.length ca) := bB.cell 1
  have g2 : (w.alloc (.cells #[.slice Ae b.ents.length ce, .slice Aa b.accs.length ca, .slice As b.stakes.length cs, .slice Ar b.rates.length cr, .slice Al b.locks.length cl, .slice An us.length cn] 29)).cell? ⟨w.heap.size, 2, none⟩ = some (.slice As b.stakes.length cs) := bB.cell 2
  have g3 : (w.alloc (.cells #[.slice Ae b.ents.length ce, .slice Aa b.accs.length ca, .slice As b.stakes.length cs, .slice Ar b.rates.length cr, .slice Al b.locks.length cl, .slice An us.length cn] 29)).cell? ⟨w.heap.size, 3, none⟩ = some (.slice Ar b.rates.length cr) := bB.cell 3
  have g4 : (w.alloc (.cells #[.slice Ae b.ents.length ce, .slice Aa b.accs.length ca, .slice As b.stakes.length cs, .slice Ar b.rates.length cr, .slice Al b.locks.length cl, .slice An us.length cn] 29)).cell? ⟨w.heap.size, 4, none⟩ = some (.slice Al b.locks.length cl) := bB.cell 4
  have g5 : (w.alloc (.cells #[.slice Ae b.ents.length ce, .slice Aa b.accs.length ca, .slice As b.stakes.length cs, .slice Ar b.rates.length cr, .slice Al b.locks.length cl, .slice An us.length cn] 29)).cell? ⟨w.heap.size, 5, none⟩ = some (.slice An us.length cn) := bB.cell 5
  go_wp2_with fail
  generalize w.alloc _ = W at *
  generalize w.heap.size = z at *
  refine HPA.out.mono ?_
  rintro _ w1 ⟨u, zs, rfl, hO, _, hmem⟩
  have HH := Lib.hid (refhas_any hO.row q)
  rw [show decide (q ∈ zs) = hp by rw [HHP.out, Bool.eq_iff_iff, decide_eq_true_iff, decide_eq_true_iff]; exact hmem q] at HH
  have T1 := tw.trans hO.tch
  obtain ⟨O, co, rfl, _, _⟩ := hO.form
  clear HPA hO hmem g0 g1 g2 g3 g4 g5 HHP bB
  go_wp2_with fail
  refine HH.out.mono ?_
  rintro _ _ ⟨rfl, rfl⟩
  clear HH
  go_wp2
  go_ret
  exact ⟨rfl, T1⟩

set_option maxRecDepth 100000 in
set_option maxHeartbeats 12800000 in
theorem refof33_any (h : BksAt w e a s r l n b us) (hul : us.length ≤ 300) (hll : ∀ p ∈ us, p.1.lines.length ≤ 100) (hok : booksOK b = true) {p : Nat} (hp : p < 24) (node acc : Int) (hnode : 1 ≤ node) :
    Calls Tryz.prog 85 #[.agg #[e, a, s, r, l, n], .int .i64 node, .int .i64 acc, .int .i64 (p : Int)] w fun x w' => ∃ u : Value, x = .returned u ∧ Outs f2 2 113 w w' u (pairsD b node acc p) := by
  obtain ⟨h40, h400, hst⟩ := ok_stakes hok
  have tw := Tch.alloc (fun _ => False) w (.cells #[e, a, s, r, l, n] 29)
  have bB := Blk.new w 29 #[e, a, s, r, l, n]
  have HFO := Lib.hid (refforest30_any (h.keep tw) h40 h400 hst (p : Int) (by omega) (by omega))
  have HME := Lib.hid (fun w' (t9 : Tch (fun _ => False) w w') x y => refmeet19_any (n := b.ents.length) (h.keep t9).stakes h400 hst hp h40 x y)
  have HHA := Lib.hid (fun w' (t9 : Tch (fun _ => False) w w') x y => refhas33_any (h.keep t9) hul hll x acc (p : Int) y)
  have HPD := Lib.hid (pairs_doc hp hst node acc)
  have HRL := Lib.hid (fun x => pairRow_len b node acc p x)
  have HOK0 := Lib.hid (fun x y => show pairOK b node acc p x y = ((meetD b.stakes p b.ents.length x y == node) && hasP b acc p x y) from rfl)
  have HRW := Lib.hid (fun x => show pairRow b node acc p x = ((accIds b.ents.length).filter (pairOK b node acc p x)).map (fun y => (x, y)) from rfl)
  generalize pairRow b node acc p = RW at *
  generalize pairOK b node acc p = OK at *
  generalize hasP b acc p = HP at *
  generalize meetD b.stakes p b.ents.length = MD at *
  generalize pairsD b node acc p = PD at *
  have hn40 : (b.ents.length : Int) ≤ 40 := by omega
  have hn41 : b.ents.length ≤ 40 := h40
  have hnode0 : (0 : Int) < node := by omega
  obtain ⟨Ae, ce, rfl, _, _⟩ := h.ents.form
  obtain ⟨Aa, ca, rfl, _, _⟩ := h.accs.form
  obtain ⟨As, cs, rfl, _, _⟩ := h.stakes.form
  obtain ⟨Ar, cr, rfl, _, _⟩ := h.rates.form
  obtain ⟨Al, cl, rfl, _, _⟩ := h.locks.form
  obtain ⟨An, cn, rfl, _, _⟩ := h.ent.row.form
  clear h hok hst h40 h400
  go_enter Tryz.func85, Tryz.ntmps85
  have g0 : (w.alloc (.cells #[.slice Ae b.ents.length ce, .slice Aa b.accs.length ca, .slice As b.stakes.length cs, .slice Ar b.rates.length cr, .slice Al b.locks.length cl, .slice An us.length cn] 29)).cell? ⟨w.heap.size, 0, none⟩ = some (.slice Ae b.ents.length ce) := bB.cell 0
  have g1 : (w.alloc (.cells #[.slice Ae b.ents.length ce, .slice Aa b.accs.length ca, .slice As b.stakes.length cs, .slice Ar b.rates.length cr, .slice Al b.locks.length cl, .slice An us.length cn] 29)).cell? ⟨w.heap.size, 1, none⟩ = some (.slice Aa b.accs.length ca) := bB.cell 1
  have g2 : (w.alloc (.cells #[.slice Ae b.ents.length ce, .slice Aa b.accs.length ca, .slice As b.stakes.length cs, .slice Ar b.rates.length cr, .slice Al b.locks.length cl, .slice An us.length cn] 29)).cell? ⟨w.heap.size, 2, none⟩ = some (.slice As b.stakes.length cs) := bB.cell 2
  have g3 : (w.alloc (.cells #[.slice Ae b.ents.length ce, .slice Aa b.accs.length ca, .slice As b.stakes.length cs, .slice Ar b.rates.length cr, .slice Al b.locks.length cl, .slice An us.length cn] 29)).cell? ⟨w.heap.size, 3, none⟩ = some (.slice Ar b.rates.length cr) := bB.cell 3
  have g4 : (w.alloc (.cells #[.slice Ae b.ents.length ce, .slice Aa b.accs.length ca, .slice As b.stakes.length cs, .slice Ar b.rates.length cr, .slice Al b.locks.length cl, .slice An us.length cn] 29)).cell? ⟨w.heap.size, 4, none⟩ = some (.slice Al b.locks.length cl) := bB.cell 4
  have g5 : (w.alloc (.cells #[.slice Ae b.ents.length ce, .slice Aa b.accs.length ca, .slice As b.stakes.length cs, .slice Ar b.rates.length cr, .slice Al b.locks.length cl, .slice An us.length cn] 29)).cell? ⟨w.heap.size, 5, none⟩ = some (.slice An us.length cn) := bB.cell 5
  go_wp2_with fail
  generalize w.alloc _ = W at *
  generalize hz : w.heap.size = z at *
  refine HFO.out.mono ?_
  rintro _ w1 ⟨rfl, t1⟩
  have tF := Tch.alloc (fun _ => False) w1 (.cells #[.slice As b.stakes.length cs, .int .i64 (b.ents.length : Int), .int .i64 (p : Int)] 199)
  have bF := Blk.new w1 199 #[.slice As b.stakes.length cs, .int .i64 (b.ents.length : Int), .int .i64 (p : Int)]
  have bB1 := (bB.keep t1 id).keep tF id
  have T1 := (tw.trans t1).trans tF
  clear HFO g0 g1 g2 g3 g4 g5 bB tw t1 tF
  go_wp2_with fail
  generalize w1.alloc _ = W1 at *
  generalize hz1 : w1.heap.size = z1 at *
  generalize hnn : b.ents.length = nn at *
  go_loopw [10, 11] (fun out i wr => ∃ (j : Nat) (xs : List (Int × Int)), j ≤ nn ∧ i = .int .i64 ((j : Int) + 1) ∧ (accIds j).flatMap RW = xs ∧ xs.length ≤ j * 40 ∧ Outs f2 2 113 W1 wr out xs) (fun _ i _ => nn + 1 - (intOf i).toNat)
  case atStart => exact ⟨0, [], Nat.zero_le _, rfl, rfl, by simp, Outs.start _ _ _ (Tch.refl _ _)⟩
  case round =>
    obtain ⟨j, xs, hj, rfl, hx, hxl, hO⟩ := hrel
    obtain ⟨O, co, rfl, ho1, ho2⟩ := hO.form
    have HX := Lib.hid hx
    have hj0 : (0 : Int) ≤ (j : Int) := Int.natCast_nonneg _
    have bFr := bF.keep hO.tch id
    have n1 : wr.cell? ⟨z1, 1, none⟩ = some (.int .i64 (nn : Int)) := bFr.cell 1
    clear hx bFr
    by_cases hlt : j < nn
    · have hlt' : (j : Int) + 1 ≤ (nn : Int) := by omega
      have HSN := Lib.hid (show (accIds (j + 1)).flatMap RW = xs ++ RW ((j : Int) + 1) by rw [accIds_succ, List.flatMap_append, HX.out]; simp)
      have HR1 := Lib.hid (HRW.out ((j : Int) + 1))
      have HRL1 := Lib.hid (HRL.out ((j : Int) + 1))
      have HOK1 := Lib.hid (HOK0.out ((j : Int) + 1))
      generalize hOK1 : OK ((j : Int) + 1) = OK1 at HR1 HOK1
      clear hOK1
      go_wp2_with fail
      go_loopw [10, 12] (fun out i wr => ∃ (k : Nat) (ys : List (Int × Int)), k ≤ nn ∧ i = .int .i64 ((k : Int) + 1) ∧ xs ++ ((accIds k).filter OK1).map (fun y => ((j : Int) + 1, y)) = ys ∧ ys.length ≤ xs.length + k ∧ Outs f2 2 113 W1 wr out ys) (fun _ i _ => nn + 1 - (intOf i).toNat)
      case atStart => exact ⟨0, xs, Nat.zero_le _, rfl, by simp [accIds], by omega, hO⟩
      case round =>
        clear hO ho1 ho2 n1
        obtain ⟨k, ys, hk, rfl, hy, hyl, hO⟩ := hrel
        obtain ⟨O, co, rfl, ho1, ho2⟩ := hO.form
        have HY := Lib.hid hy
        have hk0 : (0 : Int) ≤ (k : Int) := Int.natCast_nonneg _
        have bFr := bF.keep hO.tch id
        have bBr := bB1.keep hO.tch id
        have Tr := T1.trans hO.tch
        clear hy
        by_cases hkl : k < nn
        · have hkl' : (k : Int) + 1 ≤ (nn : Int) := by omega
          have HYN := Lib.hid (show xs ++ ((accIds (k + 1)).filter OK1).map (fun y => ((j : Int) + 1, y)) = ys ++ (if OK1 ((k : Int) + 1) = true then [((j : Int) + 1, (k : Int) + 1)] else []) by
            rw [accIds_succ, filter_snoc, List.map_append, ← List.append_assoc, HY.out]
            congr 1
            by_cases hh : OK1 ((k : Int) + 1) = true <;> simp [hh])
          have HOK2 := Lib.hid (HOK1.out ((k : Int) + 1))
          generalize OK1 ((k : Int) + 1) = ok at *
          have HM1 := Lib.hid (HME.out wr Tr ((j : Int) + 1) ((k : Int) + 1))
          generalize MD ((j : Int) + 1) ((k : Int) + 1) = md at *
          generalize hhp : HP ((j : Int) + 1) ((k : Int) + 1) = hp at *
          have HHP := Lib.hid hhp
          clear hhp
          have hyl9 : ys.length ≤ 1640 := by
            have : j * 40 ≤ 40 * 40 := Nat.mul_le_mul_right _ (by omega)
            omega
          have f0 : wr.cell? ⟨z1, 0, none⟩ = some (.slice As b.stakes.length cs) := bFr.cell 0
          have f1 : wr.cell? ⟨z1, 1, none⟩ = some (.int .i64 (nn : Int)) := bFr.cell 1
          have f2 : wr.cell? ⟨z1, 2, none⟩ = some (.int .i64 (p : Int)) := bFr.cell 2
          go_wp2_with fail
          refine HM1.out.mono ?_
          rintro _ w3 ⟨rfl, t3⟩
          have hO3 := hO.keep t3
          have bB3 := bBr.keep t3 id
          have T3 := Tr.trans t3
          clear HM1 f0 f1 f2 hO bFr bBr t3 ho1 ho2
          by_cases hmd : md = node
          rotate_left
          · have hmb : (md == node) = false := by simpa using hmd
            obtain rfl : ok = false := by rw [HOK2.out, hmb]; rfl
            have HYN := Lib.hid (show xs ++ ((accIds (k + 1)).filter OK1).map (fun y => ((j : Int) + 1, y)) = ys by rw [HYN.out]; simp)
            clear hmd HOK2 bB3
            go_wp2
            go_roundw
            case rel => exact ⟨k + 1, ys, by omega, by go_num, HYN.out, by omega, hO3⟩
            case measure => simp [intOf] <;> omega
          have hmb : (md == node) = true := by simpa using hmd
          have HH1 := Lib.hid (HHA.out w3 T3 ((j : Int) + 1) ((k : Int) + 1))
          have hok2 : ok = hp := by rw [HOK2.out, hmb]; simp
          subst hok2
          rw [HHP.out] at HH1
          clear hmd HOK2 HHP
          have g0 : w3.cell? ⟨z, 0, none⟩ = some (.slice Ae nn ce) := bB3.cell 0
          have g1 : w3.cell? ⟨z, 1, none⟩ = some (.slice Aa b.accs.length ca) := bB3.cell 1
          have g2 : w3.cell? ⟨z, 2, none⟩ = some (.slice As b.stakes.length cs) := bB3.cell 2
          have g3 : w3.cell? ⟨z, 3, none⟩ = some (.slice Ar b.rates.length cr) := bB3.cell 3
          have g4 : w3.cell? ⟨z, 4, none⟩ = some (.slice Al b.locks.length cl) := bB3.cell 4
          have g5 : w3.cell? ⟨z, 5, none⟩ = some (.slice An us.length cn) := bB3.cell 5
          go_wp2_with fail
          refine HH1.out.mono ?_
          rintro _ w4 ⟨rfl, t4⟩
          have hO := hO3.keep t4
          clear HH1 g0 g1 g2 g3 g4 g5 hO3 bB3 T3 t4
          cases ok
          · have HYN := Lib.hid (show xs ++ ((accIds (k + 1)).filter OK1).map (fun y => ((j : Int) + 1, y)) = ys by rw [HYN.out]; simp)
            go_wp2
            go_roundw
            case rel => exact ⟨k + 1, ys, by omega, by go_num, HYN.out, by omega, hO⟩
            case measure => simp [intOf] <;> omega
          · have HYN := Lib.hid (show xs ++ ((accIds (k + 1)).filter OK1).map (fun y => ((j : Int) + 1, y)) = ys ++ [((j : Int) + 1, (k : Int) + 1)] by rw [HYN.out]; simp)
            go_wp2_with (at_builtin; refine wpList_append _ rfl _ _ 65 rfl rowP2 (own_base (hO.own.alloc _)) (by rfl) (Go.Gk.Src.one (news := f2 ((j : Int) + 1, (k : Int) + 1)) rfl (fun m9 u9 hu9 => by rw [(Blk.new w4 113 #[.int .i64 ((j : Int) + 1), .int .i64 ((k : Int) + 1)]).cell m9]; simpa [f2] using hu9)) (by rfl) (f2_one _) (by unfold maxLen; omega) (by omega) ?_; intro v2 wc ho2 hg2 hl2; have hO3 := hO.step (x := ((j : Int) + 1, (k : Int) + 1)) (Tch.alloc _ _ _) ho2 hg2 (fun g hg => by simpa using hl2 g hg); obtain ⟨O3, co3, rfl, _, _⟩ := own_form ho2)
            go_roundw
            case rel => exact ⟨k + 1, _, by omega, by go_num, HYN.out, by simp; omega, by simpa using hO3⟩
            case measure => simp [intOf] <;> omega
        · obtain rfl : k = nn := by omega
          have hkl' : ¬ (k : Int) + 1 ≤ (k : Int) := by omega
          have HXN := Lib.hid (show (accIds (j + 1)).flatMap RW = ys by rw [HSN.out, HR1.out]; exact HY.out)
          have n1 : wr.cell? ⟨z1, 1, none⟩ = some (.int .i64 (k : Int)) := bFr.cell 1
          have hyl9 : ys.length ≤ (j + 1) * 40 := by
            have : (j + 1) * 40 = j * 40 + 40 := by omega
            omega
          clear bFr bBr
          go_wp2
          go_roundw
          case rel => exact ⟨j + 1, ys, by omega, by go_num, HXN.out, hyl9, hO⟩
          case measure => simp [intOf] <;> omega
    · obtain rfl : j = nn := by omega
      have hlt' : ¬ (j : Int) + 1 ≤ (j : Int) := by omega
      obtain rfl : PD = xs := by rw [← HPD.out]; exact HX.out
      go_wp2
      go_ret
      exact ⟨_, rfl, hO.base T1⟩

set_option maxRecDepth 100000 in
set_option maxHeartbeats 3200000 in
theorem refaccounts33_any (h : BksAt w e a s r l n b us) (hn : b.accs.length ≤ 1000) :
    Calls Tryz.prog 38 #[.agg #[e, a, s, r, l, n]] w fun y w' => ∃ u, y = .returned u ∧ OutI w w' u (accsP b) := by
  have tw := Tch.alloc (fun _ => False) w (.cells #[e, a, s, r, l, n] 29)
  have bB := Blk.new w 29 #[e, a, s, r, l, n]
  have HLV := Lib.hid (refleaves30_any (h.keep tw) (by omega))
  have HAC := Lib.hid (fun w' (t9 : Tch (fun _ => False) w w') => (h.keep t9).accs)
  have HAT := Lib.hid (fun x (hx : x ∈ accLeaves b.accs) => show ∃ (k : Nat) (hk : k < b.accs.length), x = (k : Int) + 1 ∧ accPtn b x = b.accs[k].2.2.2 from by
    obtain ⟨k, hk, hkx, hka⟩ := accIs_at (leaves_are hx)
    exact ⟨k, hk, hkx, ptn_is (hk := hk) hka⟩)
  have hln : (accLeaves b.accs).length ≤ 1000 := by
    unfold accLeaves
    exact Nat.le_trans (List.length_filter_le _ _) (by rw [accIds_len]; omega)
  have HAP : Hid (accsP b = (accLeaves b.accs).filter (accPtn b)) := Lib.hid rfl
  generalize accsP b = AP at *
  generalize accLeaves b.accs = L at *
  generalize accPtn b = F at *
  obtain ⟨Ae, ce, rfl, _, _⟩ := h.ents.form
  obtain ⟨Aa, ca, rfl, _, _⟩ := h.accs.form
  obtain ⟨As, cs, rfl, _, _⟩ := h.stakes.form
  obtain ⟨Ar, cr, rfl, _, _⟩ := h.rates.form
  obtain ⟨Al, cl, rfl, _, _⟩ := h.locks.form
  obtain ⟨An, cn, rfl, _, _⟩ := h.ent.row.form
  clear h
  go_enter Tryz.func38, Tryz.ntmps38
  have g0 : (w.alloc (.cells #[.slice Ae b.ents.length ce, .slice Aa b.accs.length ca, .slice As b.stakes.length cs, .slice Ar b.rates.length cr, .slice Al b.locks.length cl, .slice An us.length cn] 29)).cell? ⟨w.heap.size, 0, none⟩ = some (.slice Ae b.ents.length ce) := bB.cell 0
  have g1 : (w.alloc (.cells #[.slice Ae b.ents.length ce, .slice Aa b.accs.length ca, .slice As b.stakes.length cs, .slice Ar b.rates.length cr, .slice Al b.locks.length cl, .slice An us.length cn] 29)).cell? ⟨w.heap.size, 1, none⟩ = some (.slice Aa b.accs.length ca) := bB.cell 1
  have g2 : (w.alloc (.cells #[.slice Ae b.ents.length ce, .slice Aa b.accs.length ca, .slice As b.stakes.length cs, .slice Ar b.rates.length cr, .slice Al b.locks.length cl, .slice An us.length cn] 29)).cell? ⟨w.heap.size, 2, none⟩ = some (.slice As b.stakes.length cs) := bB.cell 2
  have g3 : (w.alloc (.cells #[.slice Ae b.ents.length ce, .slice Aa b.accs.length ca, .slice As b.stakes.length cs, .slice Ar b.rates.length cr, .slice Al b.locks.length cl, .slice An us.length cn] 29)).cell? ⟨w.heap.size, 3, none⟩ = some (.slice Ar b.rates.length cr) := bB.cell 3
  have g4 : (w.alloc (.cells #[.slice Ae b.ents.length ce, .slice Aa b.accs.length ca, .slice As b.stakes.length cs, .slice Ar b.rates.length cr, .slice Al b.locks.length cl, .slice An us.length cn] 29)).cell? ⟨w.heap.size, 4, none⟩ = some (.slice Al b.locks.length cl) := bB.cell 4
  have g5 : (w.alloc (.cells #[.slice Ae b.ents.length ce, .slice Aa b.accs.length ca, .slice As b.stakes.length cs, .slice Ar b.rates.length cr, .slice Al b.locks.length cl, .slice An us.length cn] 29)).cell? ⟨w.heap.size, 5, none⟩ = some (.slice An us.length cn) := bB.cell 5
  go_wp2_with fail
  generalize w.alloc _ = W at *
  generalize w.heap.size = z at *
  refine HLV.out.mono ?_
  rintro _ w1 ⟨u, rfl, hL⟩
  have hrow := hL.row
  have bB1 := bB.keep hL.tch id
  have T1 := tw.trans hL.tch
  obtain ⟨U, cu, rfl, _, _⟩ := hL.form
  clear HLV hL g0 g1 g2 g3 g4 g5 bB tw
  go_wp2_with fail
  go_loopw [4, 5] (fun out i wr => ∃ (j : Nat) (xs : List Int), j ≤ L.length ∧ i = .int .i64 (j : Int) ∧ (L.take j).filter F = xs ∧ OutI w1 wr out xs) (fun _ i _ => L.length - (intOf i).toNat)
  case atStart => exact ⟨0, [], Nat.zero_le _, rfl, rfl, Outs.start _ _ _ (Tch.refl _ _)⟩
  case round =>
    obtain ⟨j, xs, hj, rfl, hx, hO⟩ := hrel
    obtain ⟨O, co, rfl, ho1, ho2⟩ := hO.form
    have hxl : xs.length ≤ j := by rw [← hx]; exact Nat.le_trans (List.length_filter_le _ _) (by rw [List.length_take]; omega)
    have HX := Lib.hid hx
    have hj0 : (0 : Int) ≤ (j : Int) := Int.natCast_nonneg _
    clear hx
    by_cases hlt : j < L.length
    · have hlt' : (j : Int) < (L.length : Int) := by omega
      have hl9 := hrow.keep hO.tch
      obtain ⟨g, o9, rfl⟩ := hl9.head (by omega)
      have q0 := Row.one hl9 int1_len hlt rfl
      have HS := Lib.hid (take_filter F hlt)
      rw [HX.out] at HS
      obtain ⟨k, hk, hkx, hkF⟩ := HAT.out L[j] (List.getElem_mem _)
      generalize L[j] = x at *
      subst hkx
      have hak := HAC.out wr (T1.trans hO.tch)
      obtain ⟨ga, oa, rfl⟩ := hak.head (by omega)
      obtain ⟨p0, p1, p2, p3⟩ := Row.four hak acc4_len hk rfl
      have HW := Lib.hid (show wrap64 ((k : Int) + 1 - 1) = (k : Int) by unfold wrap64; omega)
      have HKL := Lib.hid (show (k : Int) < (b.accs.length : Int) by omega)
      generalize b.accs[k] = ac at *
      obtain ⟨a1, kd, a3, a4⟩ := ac
      simp only at p0 p1 p2 p3 hkF
      rw [hkF] at HS
      have bBr := bB1.keep hO.tch id
      have k1 : wr.cell? ⟨z, 1, none⟩ = some (.slice (some ⟨ga, oa, none⟩) b.accs.length ca) := bBr.cell 1
      have hw := HW.out
      have hkl := HKL.out
      have hk0 : (0 : Int) ≤ (k : Int) := Int.natCast_nonneg _
      have X1 := within_cell (F := fun _ => False) k1 id
      have X2 := within_cell (F := fun _ => False) q0 id
      have X3 := within_cell (F := fun _ => False) p3 id
      clear hl9 hak bBr hkF
      go_wp2_with fail
      refine wp_region_touch (fun _ => False) [] 7 [] [] (by kernel_rfl) rfl (by kernel_rfl) rfl (fun d _ _ _ _ h => by cases d <;> exact h) ?_ ?_
      · exact trivial
      (intro bef ops hbef hops; clear hbef; subst hops; simp only [List.take_succ_cons, List.take_zero, List.drop_succ_cons, List.drop_zero])
      iterate 7 (refine t_det (by rfl) (by rfl) (by rfl) (by rfl) (fun K hK => ?_); go_big_quiet_op; (first | refine hK _ ?_ | refine ⟨_, fun _ => rfl, hK _ ?_⟩); clear hK K; (try simp only [Act.put, List.setIfInBounds_toArray, List.set_cons_succ, List.set_cons_zero]))
      refine t_nil ?_
      intro w2 hr hp1 hap
      have t2 := (Tch.drew _ wr).trans hr
      have hO := hO.keep t2
      have p3 := t2.cell_some p3 id
      have q0 := t2.cell_some q0 id
      clear hap hp1 hr X1 X2 X3 p0 p1 p2 k1 t2
      cases a4
      · have HS := Lib.hid (show (L.take (j + 1)).filter F = xs by rw [HS.out]; simp)
        go_wp2
        go_roundw
        case rel => exact ⟨j + 1, xs, by omega, by go_num, HS.out, hO⟩
        case measure => simp [intOf]; omega
      · have HS := Lib.hid (show (L.take (j + 1)).filter F = xs ++ [(k : Int) + 1] by rw [HS.out]; simp)
        go_wp2_with ((at_builtin; refine wpList_append _ rfl _ _ 22 rfl rowInts (own_base (hO.own.alloc _)) (by rfl) (Go.Gk.Src.one (news := [.int .i64 ((k : Int) + 1)]) rfl (fun m9 u9 hu9 => by rw [(Blk.new (w2) 3 #[.int .i64 ((k : Int) + 1)]).cell m9]; simpa using hu9)) (by rfl) (by simp; rfl) (by unfold maxLen; omega) (by omega) ?_; intro v2 w2 ho2 hg2 hl2; have hO2 := hO.step (x := (k : Int) + 1) (Tch.alloc _ _ _) ho2 hg2 hl2; obtain ⟨O2, co2, rfl, _, _⟩ := own_form ho2))
        go_roundw
        case rel => exact ⟨j + 1, _, by omega, by go_num, HS.out, hO2⟩
        case measure => simp [intOf]; omega
    · obtain rfl : j = L.length := by omega
      have hlt' : ¬ (L.length : Int) < (L.length : Int) := by omega
      rw [List.take_length] at HX
      obtain rfl : AP = xs := by rw [HAP.out]; exact HX.out
      go_wp2
      go_ret
      exact ⟨_, rfl, hO.base T1⟩

set_option maxRecDepth 100000 in
set_option maxHeartbeats 3200000 in
theorem refsides34_any (h : BksAt w e a s r l n b us) (hul : us.length ≤ 300) (hll : ∀ p ∈ us, p.1.lines.length ≤ 100) (hok : booksOK b = true) {p : Nat} (hp : p < 24) (c1 c2 c3 c4 c5 c6 acc : Int) (hc4 : c4 = (p : Int)) (hnode : 1 ≤ c2) :
    Calls Tryz.prog 37 #[.agg #[e, a, s, r, l, n], .agg #[.int .i64 c1, .int .i64 c2, .int .i64 c3, .int .i64 c4, .int .i64 c5, .int .i64 c6], .int .i64 acc] w fun x w' => ∃ u : Value, x = .returned u ∧ Outs int6 6 31 w w' u (sidesD b (c1, c2, c3, c4, c5, c6) acc) := by
  subst hc4
  have ta := Tch.alloc (fun _ => False) w (.cells #[e, a, s, r, l, n] 29)
  have tb := Tch.alloc (fun _ => False) (w.alloc (.cells #[e, a, s, r, l, n] 29)) (.cells #[.int .i64 c1, .int .i64 c2, .int .i64 c3, .int .i64 (p : Int), .int .i64 c5, .int .i64 c6] 31)
  have tw := ta.trans tb
  have bB := (Blk.new w 29 #[e, a, s, r, l, n]).keep tb id
  have bC := Blk.new2 w (.cells #[e, a, s, r, l, n] 29) 31 #[.int .i64 c1, .int .i64 c2, .int .i64 c3, .int .i64 (p : Int), .int .i64 c5, .int .i64 c6]
  have HOF := Lib.hid (refof33_any (h.keep tw) hul hll hok hp c2 acc hnode)
  have HLE := Lib.hid (pairs_len (ok_stakes hok).1 c2 acc p)
  have HSD := Lib.hid (show sidesD b (c1, c2, c3, (p : Int), c5, c6) acc = (pairsD b c2 acc p).map (sideG acc (p : Int) c5) from rfl)
  generalize sidesD b (c1, c2, c3, (p : Int), c5, c6) acc = SD at *
  generalize pairsD b c2 acc p = L at *
  obtain ⟨Ae, ce, rfl, _, _⟩ := h.ents.form
  obtain ⟨Aa, ca, rfl, _, _⟩ := h.accs.form
  obtain ⟨As, cs, rfl, _, _⟩ := h.stakes.form
  obtain ⟨Ar, cr, rfl, _, _⟩ := h.rates.form
  obtain ⟨Al, cl, rfl, _, _⟩ := h.locks.form
  obtain ⟨An, cn, rfl, _, _⟩ := h.ent.row.form
  clear h hok ta tb
  go_enter Tryz.func37, Tryz.ntmps37
  have g0 : ((w.alloc (.cells #[.slice Ae b.ents.length ce, .slice Aa b.accs.length ca, .slice As b.stakes.length cs, .slice Ar b.rates.length cr, .slice Al b.locks.length cl, .slice An us.length cn] 29)).alloc (.cells #[.int .i64 c1, .int .i64 c2, .int .i64 c3, .int .i64 (p : Int), .int .i64 c5, .int .i64 c6] 31)).cell? ⟨w.heap.size, 0, none⟩ = some (.slice Ae b.ents.length ce) := bB.cell 0
  have g1 : ((w.alloc (.cells #[.slice Ae b.ents.length ce, .slice Aa b.accs.length ca, .slice As b.stakes.length cs, .slice Ar b.rates.length cr, .slice Al b.locks.length cl, .slice An us.length cn] 29)).alloc (.cells #[.int .i64 c1, .int .i64 c2, .int .i64 c3, .int .i64 (p : Int), .int .i64 c5, .int .i64 c6] 31)).cell? ⟨w.heap.size, 1, none⟩ = some (.slice Aa b.accs.length ca) := bB.cell 1
  have g2 : ((w.alloc (.cells #[.slice Ae b.ents.length ce, .slice Aa b.accs.length ca, .slice As b.stakes.length cs, .slice Ar b.rates.length cr, .slice Al b.locks.length cl, .slice An us.length cn] 29)).alloc (.cells #[.int .i64 c1, .int .i64 c2, .int .i64 c3, .int .i64 (p : Int), .int .i64 c5, .int .i64 c6] 31)).cell? ⟨w.heap.size, 2, none⟩ = some (.slice As b.stakes.length cs) := bB.cell 2
  have g3 : ((w.alloc (.cells #[.slice Ae b.ents.length ce, .slice Aa b.accs.length ca, .slice As b.stakes.length cs, .slice Ar b.rates.length cr, .slice Al b.locks.length cl, .slice An us.length cn] 29)).alloc (.cells #[.int .i64 c1, .int .i64 c2, .int .i64 c3, .int .i64 (p : Int), .int .i64 c5, .int .i64 c6] 31)).cell? ⟨w.heap.size, 3, none⟩ = some (.slice Ar b.rates.length cr) := bB.cell 3
  have g4 : ((w.alloc (.cells #[.slice Ae b.ents.length ce, .slice Aa b.accs.length ca, .slice As b.stakes.length cs, .slice Ar b.rates.length cr, .slice Al b.locks.length cl, .slice An us.length cn] 29)).alloc (.cells #[.int .i64 c1, .int .i64 c2, .int .i64 c3, .int .i64 (p : Int), .int .i64 c5, .int .i64 c6] 31)).cell? ⟨w.heap.size, 4, none⟩ = some (.slice Al b.locks.length cl) := bB.cell 4
  have g5 : ((w.alloc (.cells #[.slice Ae b.ents.length ce, .slice Aa b.accs.length ca, .slice As b.stakes.length cs, .slice Ar b.rates.length cr, .slice Al b.locks.length cl, .slice An us.length cn] 29)).alloc (.cells #[.int .i64 c1, .int .i64 c2, .int .i64 c3, .int .i64 (p : Int), .int .i64 c5, .int .i64 c6] 31)).cell? ⟨w.heap.size, 5, none⟩ = some (.slice An us.length cn) := bB.cell 5
  have h0 : ((w.alloc (.cells #[.slice Ae b.ents.length ce, .slice Aa b.accs.length ca, .slice As b.stakes.length cs, .slice Ar b.rates.length cr, .slice Al b.locks.length cl, .slice An us.length cn] 29)).alloc (.cells #[.int .i64 c1, .int .i64 c2, .int .i64 c3, .int .i64 (p : Int), .int .i64 c5, .int .i64 c6] 31)).cell? ⟨w.heap.size + 1, 0, none⟩ = some (.int .i64 c1) := bC.cell 0
  have h1 : ((w.alloc (.cells #[.slice Ae b.ents.length ce, .slice Aa b.accs.length ca, .slice As b.stakes.length cs, .slice Ar b.rates.length cr, .slice Al b.locks.length cl, .slice An us.length cn] 29)).alloc (.cells #[.int .i64 c1, .int .i64 c2, .int .i64 c3, .int .i64 (p : Int), .int .i64 c5, .int .i64 c6] 31)).cell? ⟨w.heap.size + 1, 1, none⟩ = some (.int .i64 c2) := bC.cell 1
  have h2 : ((w.alloc (.cells #[.slice Ae b.ents.length ce, .slice Aa b.accs.length ca, .slice As b.stakes.length cs, .slice Ar b.rates.length cr, .slice Al b.locks.length cl, .slice An us.length cn] 29)).alloc (.cells #[.int .i64 c1, .int .i64 c2, .int .i64 c3, .int .i64 (p : Int), .int .i64 c5, .int .i64 c6] 31)).cell? ⟨w.heap.size + 1, 2, none⟩ = some (.int .i64 c3) := bC.cell 2
  have h3 : ((w.alloc (.cells #[.slice Ae b.ents.length ce, .slice Aa b.accs.length ca, .slice As b.stakes.length cs, .slice Ar b.rates.length cr, .slice Al b.locks.length cl, .slice An us.length cn] 29)).alloc (.cells #[.int .i64 c1, .int .i64 c2, .int .i64 c3, .int .i64 (p : Int), .int .i64 c5, .int .i64 c6] 31)).cell? ⟨w.heap.size + 1, 3, none⟩ = some (.int .i64 (p : Int)) := bC.cell 3
  have h4 : ((w.alloc (.cells #[.slice Ae b.ents.length ce, .slice Aa b.accs.length ca, .slice As b.stakes.length cs, .slice Ar b.rates.length cr, .slice Al b.locks.length cl, .slice An us.length cn] 29)).alloc (.cells #[.int .i64 c1, .int .i64 c2, .int .i64 c3, .int .i64 (p : Int), .int .i64 c5, .int .i64 c6] 31)).cell? ⟨w.heap.size + 1, 4, none⟩ = some (.int .i64 c5) := bC.cell 4
  have h5 : ((w.alloc (.cells #[.slice Ae b.ents.length ce, .slice Aa b.accs.length ca, .slice As b.stakes.length cs, .slice Ar b.rates.length cr, .slice Al b.locks.length cl, .slice An us.length cn] 29)).alloc (.cells #[.int .i64 c1, .int .i64 c2, .int .i64 c3, .int .i64 (p : Int), .int .i64 c5, .int .i64 c6] 31)).cell? ⟨w.heap.size + 1, 5, none⟩ = some (.int .i64 c6) := bC.cell 5
  go_wp2_with fail
  generalize (w.alloc _).alloc _ = W at *
  generalize w.heap.size = z at *
  refine HOF.out.mono ?_
  rintro _ w1 ⟨u, rfl, hL⟩
  have hrow := hL.row
  have bC1 := bC.keep hL.tch id
  have T1 := tw.trans hL.tch
  obtain ⟨U, cu, rfl, _, _⟩ := hL.form
  have hll9 : L.length ≤ 1600 := HLE.out
  clear HOF hL g0 g1 g2 g3 g4 g5 h0 h1 h2 h3 h4 h5 bB bC tw
  go_wp2_with fail
  go_loopw [8, 9] (fun out i wr => ∃ (j : Nat) (xs : List Rt6), j ≤ L.length ∧ i = .int .i64 (j : Int) ∧ (L.take j).map (sideG acc (p : Int) c5) = xs ∧ Outs int6 6 31 w1 wr out xs) (fun _ i _ => L.length - (intOf i).toNat)
  case atStart => exact ⟨0, [], Nat.zero_le _, rfl, rfl, Outs.start _ _ _ (Tch.refl _ _)⟩
  case round =>
    obtain ⟨j, xs, hj, rfl, hx, hO⟩ := hrel
    obtain ⟨O, co, rfl, ho1, ho2⟩ := hO.form
    have hxl : xs.length ≤ j := by rw [← hx, List.length_map, List.length_take]; omega
    have HX := Lib.hid hx
    have hj0 : (0 : Int) ≤ (j : Int) := Int.natCast_nonneg _
    clear hx
    by_cases hlt : j < L.length
    · have hlt' : (j : Int) < (L.length : Int) := by omega
      have hl9 := hrow.keep hO.tch
      obtain ⟨g, o9, rfl⟩ := hl9.head (by omega)
      obtain ⟨q0, q1⟩ := Row.two hl9 f2_len hlt rfl
      have HS := Lib.hid (show (L.take (j + 1)).map (sideG acc (p : Int) c5) = xs ++ [sideG acc (p : Int) c5 L[j]] by rw [List.take_succ_eq_append_getElem hlt, List.map_append, HX.out]; rfl)
      generalize L[j] = q at *
      obtain ⟨x, y⟩ := q
      simp only at q0 q1
      unfold sideG at HS
      simp only at HS
      have bCr := bC1.keep hO.tch id
      have k3 : wr.cell? ⟨z + 1, 3, none⟩ = some (.int .i64 (p : Int)) := bCr.cell 3
      have k4 : wr.cell? ⟨z + 1, 4, none⟩ = some (.int .i64 c5) := bCr.cell 4
      have X1 := within_cell (F := fun _ => False) k3 id
      have X2 := within_cell (F := fun _ => False) k4 id
      have X3 := within_cell (F := fun _ => False) q0 id
      have X4 := within_cell (F := fun _ => False) q1 id
      clear hl9 bCr
      go_wp2_with fail
      refine wp_region_touch (fun _ => False) [0] 16 [] [] (by kernel_rfl) rfl (by kernel_rfl) rfl (fun d _ _ _ _ h => by cases d <;> exact h) ?_ ?_
      · exact trivial
      (intro bef ops hbef hops; clear hbef; subst hops; simp only [List.take_succ_cons, List.take_zero, List.drop_succ_cons, List.drop_zero])
      iterate 16 (refine t_det (by rfl) (by rfl) (by rfl) (by rfl) (fun K hK => ?_); go_big_quiet_op; (first | refine hK _ ?_ | refine ⟨_, fun _ => rfl, hK _ ?_⟩); clear hK K; (try simp only [Act.put, List.setIfInBounds_toArray, List.set_cons_succ, List.set_cons_zero]))
      refine t_nil ?_
      intro w2 hr hp1 hap
      have t2 := (Tch.drew _ wr).trans hr
      have hO := hO.keep t2
      clear hap hp1 hr X1 X2 X3 X4 k3 k4 q0 q1 t2
      have hO := hO.keep (Tch.alloc (fun _ => False) w2 (.cells #[.int .i64 3, .int .i64 x, .int .i64 acc, .int .i64 (p : Int), .int .i64 c5, .int .i64 y] 31))
      go_wp2_with (at_builtin; refine wpList_append _ rfl _ _ 40 rfl rowCells (own_base hO.own) (by rfl) (Go.Gk.Src.one (news := int6 (3, x, acc, (p : Int), c5, y)) rfl (fun m9 u9 hu9 => by rw [(Blk.new w2 31 #[.int .i64 3, .int .i64 x, .int .i64 acc, .int .i64 (p : Int), .int .i64 c5, .int .i64 y]).cell m9]; simpa [int6] using hu9)) (by rfl) (one6 _) (by unfold maxLen; omega) (by omega) ?_; intro v2 wc ho2 hg2 hl2; have hO2 := hO.step (x := (3, x, acc, (p : Int), c5, y)) (Tch.refl _ _) ho2 hg2 hl2; obtain ⟨O2, co2, rfl, _, _⟩ := own_form ho2)
      go_roundw
      case rel => exact ⟨j + 1, _, by omega, by go_num, HS.out, hO2⟩
      case measure => simp [intOf]; omega
    · obtain rfl : j = L.length := by omega
      have hlt' : ¬ (L.length : Int) < (L.length : Int) := by omega
      rw [List.take_length] at HX
      obtain rfl : SD = xs := by rw [HSD.out]; exact HX.out
      go_wp2
      go_ret
      exact ⟨_, rfl, hO.base T1⟩
end
end Go.Proofs.YtdangnmeligfjaaGreatDoor
