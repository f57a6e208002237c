/-
  Plain: what a pile tells is what the document says; sorting by halves is sorting by the least first. No program in sight.
-/
import Derived.Test.YtnknemepfjfcfaaPm
namespace Go.Gk
open Go.Proofs.Ytnknemepfjfcfaa

def pi3 (t : T3) : Int × Int := (t.1, t.2.1)
/-- Each thing's stamp is above those ahead of it. -/
def Rising (xs : List T3) : Prop := xs.Pairwise fun a b => a.2.2 < b.2.2

theorem le3.anti {a b : T3} (h : le3 a b) (k : le3 b a) : a.1 = b.1 ∧ a.2.2 = b.2.2 := by unfold le3 at *; omega

theorem rising_inj {xs : List T3} (h : Rising xs) : ∀ a ∈ xs, ∀ b ∈ xs, a.2.2 = b.2.2 → a = b := by
  induction xs with
  | nil => simp
  | cons x r ih =>
    unfold Rising at h
    rw [List.pairwise_cons] at h
    intro a ha b hb e
    rcases List.mem_cons.1 ha with ha | ha <;> rcases List.mem_cons.1 hb with hb | hb
    · rw [ha, hb]
    · have := h.1 b hb; subst ha; omega
    · have := h.1 a ha; subst hb; omega
    · exact ih h.2 a ha b hb e

theorem key0_pi {xs : List T3} {i : Nat} (h : i < xs.length) : key0 (xs.map pi3) i = (g3 xs i).1 := by
  rw [key0_get (by simpa using h), g3_get h]; simp [pi3]
theorem val0_pi {xs : List T3} {i : Nat} (h : i < xs.length) : val0 (xs.map pi3) i = (g3 xs i).2.1 := by
  rw [val0_get (by simpa using h), g3_get h]; simp [pi3]
theorem g3_mem {xs : List T3} {i : Nat} (h : i < xs.length) : g3 xs i ∈ xs := by rw [g3_get h]; exact List.getElem_mem h

theorem rising_at {xs : List T3} (h : Rising xs) {i j : Nat} (hij : i < j) (hj : j < xs.length) : (g3 xs i).2.2 < (g3 xs j).2.2 := by
  rw [g3_get hj, g3_get (by omega)]
  exact List.pairwise_iff_getElem.1 h i j (by omega) hj hij

/-- The first is the least. -/
theorem first_least {xs : List T3} (h : Rising xs) {a : Nat} (ha : firstTo (xs.map pi3) xs.length = some a) : a < xs.length ∧ ∀ t ∈ xs, le3 (g3 xs a) t := by
  have hlt := firstTo_lt _ _ _ ha
  refine ⟨hlt, fun t ht => ?_⟩
  obtain ⟨j, hj, rfl⟩ := List.getElem_of_mem ht
  have := firstTo_spec _ _ _ ha j hj
  rw [key0_pi hlt, key0_pi hj] at this
  rw [← g3_get hj]
  unfold le3
  rcases this with h1 | ⟨h1, h2⟩
  · exact .inl h1
  · refine .inr ⟨h1, ?_⟩
    rcases Nat.lt_or_ge a j with h3 | h3
    · have := rising_at h h3 hj; omega
    · obtain rfl : a = j := by omega
      exact Int.le_refl _

theorem take_perm {xs : List T3} {a : Nat} (h : a < xs.length) : xs.Perm (g3 xs a :: (xs.take a ++ xs.drop (a + 1))) := by
  conv => lhs; rw [← List.take_append_drop a xs]
  rw [List.drop_eq_getElem_cons h, g3_get h]
  exact List.perm_middle
theorem rising_rest {xs : List T3} (h : Rising xs) (a : Nat) : Rising (xs.take a ++ xs.drop (a + 1)) := by
  unfold Rising at h ⊢
  refine h.sublist ?_
  have : xs.drop (a + 1) |>.Sublist (xs.drop a) := by rw [← List.drop_drop]; exact List.drop_sublist _ _
  have h2 := (List.Sublist.refl (xs.take a)).append this
  rwa [List.take_append_drop] at h2

/-- A pile's row beside the document's list. -/
def PSim (row : List T3) (x : KV) (next : Int) : Prop := Heap row ∧ ∃ xs, row.Perm xs ∧ x = xs.map pi3 ∧ Rising xs ∧ ∀ t ∈ xs, t.2.2 < next

theorem PSim.start : PSim [] [] 0 := ⟨fun j _ h => by simp at h, [], List.Perm.refl _, rfl, List.Pairwise.nil, by simp⟩
theorem PSim.len {row : List T3} {x : KV} {next : Int} (h : PSim row x next) : row.length = x.length := by
  obtain ⟨_, xs, hp, rfl, _⟩ := h
  simpa using hp.length_eq
theorem PSim.push {row row' : List T3} {x : KV} {next a v : Int} (h : PSim row x next) (hh : Heap row') (hp : row'.Perm (row ++ [(a, v, next)])) : PSim row' (x ++ [(a, v)]) (next + 1) := by
  obtain ⟨_, xs, hp0, rfl, hr, hn⟩ := h
  refine ⟨hh, xs ++ [(a, v, next)], hp.trans (hp0.append_right _), by simp [pi3], ?_, fun t ht => ?_⟩
  · unfold Rising at hr ⊢
    rw [List.pairwise_append]
    refine ⟨hr, List.pairwise_singleton _ _, fun t ht u hu => ?_⟩
    obtain rfl : u = (a, v, next) := by simpa using hu
    exact hn t ht
  · rcases List.mem_append.1 ht with h | h
    · have := hn t h; omega
    · obtain rfl : t = (a, v, next) := by simpa using h
      simp only; omega
theorem PSim.first {row : List T3} {x : KV} {next : Int} (h : PSim row x next) (hl : 0 < row.length) : ∃ xs a, row.Perm xs ∧ x = xs.map pi3 ∧ Rising xs ∧ (∀ t ∈ xs, t.2.2 < next) ∧ firstTo x x.length = some a ∧ a < xs.length ∧ g3 row 0 = g3 xs a := by
  have hle := h.len
  obtain ⟨hh, xs, hp, rfl, hr, hn⟩ := h
  obtain ⟨a, ha⟩ := firstTo_some (xs.map pi3) (xs.map pi3).length (by omega)
  have ha' := ha
  rw [List.length_map] at ha'
  obtain ⟨h1, h2⟩ := first_least hr ha'
  refine ⟨xs, a, hp, rfl, hr, hn, ha, h1, ?_⟩
  have m1 : g3 row 0 ∈ xs := hp.mem_iff.1 (g3_mem hl)
  have m2 : g3 xs a ∈ row := hp.mem_iff.2 (g3_mem h1)
  obtain ⟨j, hj, hje⟩ := List.getElem_of_mem m2
  have l1 := h2 _ m1
  have l2 := hh.least j hj
  rw [g3_get hj, hje] at l2
  exact rising_inj hr _ m1 _ (g3_mem h1) (l2.anti l1).2
theorem PSim.top {row : List T3} {x : KV} {next : Int} (h : PSim row x next) : topP x = ((g3 row 0).1, (g3 row 0).2.1) ∧ (firstTo x x.length).isSome = decide (0 < row.length) := by
  by_cases hl : 0 < row.length
  · obtain ⟨xs, a, hp, rfl, hr, hn, ha, h1, e⟩ := h.first hl
    unfold topP
    rw [ha, e]
    exact ⟨by simp only; rw [key0_pi h1, val0_pi h1], by simp [hl]⟩
  · have hle := h.len
    obtain rfl : row = [] := List.eq_nil_of_length_eq_zero (by omega)
    obtain rfl : x = [] := List.eq_nil_of_length_eq_zero (by simp at hle; omega)
    exact ⟨rfl, rfl⟩
theorem PSim.pop {row row' : List T3} {x : KV} {next : Int} (h : PSim row x next) (hl : 0 < row.length) (hh : Heap row') (hp : (g3 row 0 :: row').Perm row) : PSim row' (restOf x) next := by
  obtain ⟨xs, a, hp0, rfl, hr, hn, ha, h1, e⟩ := h.first hl
  refine ⟨hh, xs.take a ++ xs.drop (a + 1), ?_, ?_, rising_rest hr a, fun t ht => hn t ?_⟩
  · have h2 := (hp.trans hp0).trans (take_perm h1)
    rw [e] at h2
    exact (List.perm_cons _).1 h2
  · unfold restOf; rw [ha]; simp
  · rcases List.mem_append.1 ht with h | h
    · exact List.mem_of_mem_take h
    · exact List.mem_of_mem_drop h
theorem PSim.none {x : KV} {next : Int} (h : PSim [] x next) : x = [] ∧ restOf x = [] := by
  have hle := h.len
  obtain rfl : x = [] := List.eq_nil_of_length_eq_zero (by simp at hle; omega)
  exact ⟨rfl, rfl⟩

/-! ### Sorting -/
def Srtd (xs : List T3) (r : KV) : Prop := ∃ ys : List T3, ys.map pi3 = r ∧ ys.Perm xs ∧ ys.Pairwise le3

theorem Srtd.unique {xs : List T3} (h : Rising xs) {r r' : KV} (h1 : Srtd xs r) (h2 : Srtd xs r') : r = r' := by
  obtain ⟨ys, rfl, p1, s1⟩ := h1
  obtain ⟨zs, rfl, p2, s2⟩ := h2
  have : ys = zs := (p1.trans p2.symm).eq_of_pairwise (le := le3) (fun a b ha hb hab hba => rising_inj h a (p1.mem_iff.1 ha) b (p2.mem_iff.1 hb) (hab.anti hba).2) s1 s2
  rw [this]

theorem srt_srtd {xs : List T3} (h : Rising xs) : ∀ n, n ≤ xs.length → ∃ ys zs : List T3, (srt (xs.map pi3) n).1 = ys.map pi3 ∧ (srt (xs.map pi3) n).2 = zs.map pi3 ∧ Rising zs ∧ (ys ++ zs).Perm xs ∧ ys.Pairwise le3 ∧ ∀ y ∈ ys, ∀ z ∈ zs, le3 y z
  | 0, _ => ⟨[], xs, rfl, rfl, h, List.Perm.refl _, List.Pairwise.nil, by simp⟩
  | n + 1, hn => by
    obtain ⟨ys, zs, h1, h2, h3, h4, h5, h6⟩ := srt_srtd h n (by omega)
    have hz : 0 < zs.length := by
      have e := (srt_len (xs.map pi3) n).2
      rw [h2] at e
      simp at e; omega
    obtain ⟨a, ha⟩ := firstTo_some (zs.map pi3) (zs.map pi3).length (by simpa using hz)
    have ha' := ha
    rw [List.length_map] at ha'
    obtain ⟨l1, l2⟩ := first_least h3 ha'
    have ht : topP (zs.map pi3) = pi3 (g3 zs a) := by unfold topP; rw [ha]; simp only; rw [key0_pi l1, val0_pi l1]; rfl
    have hr : restOf (zs.map pi3) = (zs.take a ++ zs.drop (a + 1)).map pi3 := by unfold restOf; rw [ha]; simp
    refine ⟨ys ++ [g3 zs a], zs.take a ++ zs.drop (a + 1), ?_, ?_, rising_rest h3 a, ?_, ?_, ?_⟩
    · simp only [srt]; rw [h1, h2, ht]; simp
    · simp only [srt]; rw [h2, hr]
    · rw [List.append_assoc]
      exact ((take_perm l1).symm.append_left ys).trans h4
    · rw [List.pairwise_append]
      refine ⟨h5, List.pairwise_singleton _ _, fun y hy z hz => ?_⟩
      obtain rfl : z = g3 zs a := by simpa using hz
      exact h6 y hy _ (g3_mem l1)
    · intro y hy z hz
      have hzs : z ∈ zs := by
        rcases List.mem_append.1 hz with h | h
        · exact List.mem_of_mem_take h
        · exact List.mem_of_mem_drop h
      rcases List.mem_append.1 hy with h | h
      · exact h6 y h z hzs
      · obtain rfl : y = g3 zs a := by simpa using h
        exact l2 z hzs

def mrg3 : List T3 → List T3 → List T3
  | [], b => b
  | a, [] => a
  | x :: a, y :: b => if y.1 < x.1 then y :: mrg3 (x :: a) b else x :: mrg3 a (y :: b)
theorem mrg3_pi (a b : List T3) : (mrg3 a b).map pi3 = mrg (a.map pi3) (b.map pi3) := by
  fun_induction mrg3 a b with
  | case1 => simp [mrg]
  | case2 a h => cases a <;> simp [mrg]
  | case3 x a y b h ih => simp only [List.map_cons] at ih ⊢; rw [mrg, if_pos (show (pi3 y).1 < (pi3 x).1 from h), ih]
  | case4 x a y b h ih => simp only [List.map_cons] at ih ⊢; rw [mrg, if_neg (show ¬ (pi3 y).1 < (pi3 x).1 from h), ih]
theorem mrg3_perm (a b : List T3) : (mrg3 a b).Perm (a ++ b) := by
  fun_induction mrg3 a b with
  | case1 => exact List.Perm.refl _
  | case2 a h => simp
  | case3 x a y b h ih => exact (ih.cons y).trans (List.perm_middle (l₁ := x :: a)).symm
  | case4 x a y b h ih => exact ih.cons x
theorem mrg3_sorted (a b : List T3) (h : ∀ x ∈ a, ∀ y ∈ b, x.2.2 < y.2.2) (ha : a.Pairwise le3) (hb : b.Pairwise le3) : (mrg3 a b).Pairwise le3 := by
  fun_induction mrg3 a b with
  | case1 => exact hb
  | case2 a _ => exact ha
  | case3 x a y b hlt ih =>
    rw [List.pairwise_cons] at hb ⊢
    refine ⟨fun z hz => ?_, ih (fun u hu v hv => h u hu v (List.mem_cons_of_mem _ hv)) ha hb.2⟩
    have hyx : le3 y x := .inl hlt
    rcases List.mem_append.1 ((mrg3_perm _ _).mem_iff.1 hz) with h1 | h1
    · rcases List.mem_cons.1 h1 with h2 | h2
      · subst h2; exact hyx
      · exact hyx.trans ((List.pairwise_cons.1 ha).1 z h2)
    · exact hb.1 z h1
  | case4 x a y b hlt ih =>
    rw [List.pairwise_cons] at ha ⊢
    refine ⟨fun z hz => ?_, ih (fun u hu v hv => h u (List.mem_cons_of_mem _ hu) v hv) ha.2 hb⟩
    have hxy : le3 x y := by
      have := h x (by simp) y (by simp)
      unfold le3; omega
    rcases List.mem_append.1 ((mrg3_perm _ _).mem_iff.1 hz) with h1 | h1
    · exact ha.1 z h1
    · rcases List.mem_cons.1 h1 with h2 | h2
      · subst h2; exact hxy
      · exact hxy.trans ((List.pairwise_cons.1 hb).1 z h2)

theorem msort_srtd : ∀ (n : Nat) (xs : List T3), xs.length ≤ n → Rising xs → Srtd xs (msort n (xs.map pi3))
  | 0, xs, hl, _ => ⟨xs, rfl, List.Perm.refl _, by obtain rfl : xs = [] := List.eq_nil_of_length_eq_zero (by omega); exact List.Pairwise.nil⟩
  | n + 1, xs, hl, hr => by
    rw [msort]
    split
    · rename_i h
      refine ⟨xs, rfl, List.Perm.refl _, ?_⟩
      match xs, h with
      | [], _ => exact List.Pairwise.nil
      | [x], _ => exact List.pairwise_singleton _ _
      | _ :: _ :: _, h => simp at h; omega
    · rename_i h
      rw [List.length_map] at h ⊢
      rw [← List.map_take, ← List.map_drop]
      have hsplit := hr
      unfold Rising at hsplit
      rw [← List.take_append_drop (xs.length / 2) xs, List.pairwise_append] at hsplit
      obtain ⟨r1, r2, r3⟩ := hsplit
      obtain ⟨ya, ea, pa, sa⟩ := msort_srtd n (xs.take (xs.length / 2)) (by simp; omega) r1
      obtain ⟨yb, eb, pb, sb⟩ := msort_srtd n (xs.drop (xs.length / 2)) (by simp; omega) r2
      refine ⟨mrg3 ya yb, by rw [mrg3_pi, ea, eb], ?_, mrg3_sorted ya yb (fun x hx y hy => r3 x (pa.mem_iff.1 hx) y (pb.mem_iff.1 hy)) sa sb⟩
      have := (mrg3_perm ya yb).trans (pa.append pb)
      rwa [List.take_append_drop] at this

/-- Stamps for a list. -/
def stamp : Int → KV → List T3
  | _, [] => []
  | k, p :: r => (p.1, p.2, k) :: stamp (k + 1) r
theorem stamp_pi : ∀ (k : Int) (l : KV), (stamp k l).map pi3 = l
  | _, [] => rfl
  | k, p :: r => by simp [stamp, stamp_pi (k + 1) r, pi3]
theorem stamp_ge : ∀ (l : KV) (k : Int), ∀ t ∈ stamp k l, k ≤ t.2.2
  | [], _, t, h => by simp [stamp] at h
  | p :: r, k, t, h => by
    rcases List.mem_cons.1 h with h | h
    · subst h; exact Int.le_refl _
    · have := stamp_ge r (k + 1) t h; omega
theorem stamp_rising : ∀ (l : KV) (k : Int), Rising (stamp k l)
  | [], _ => List.Pairwise.nil
  | p :: r, k => by
    unfold Rising
    rw [stamp, List.pairwise_cons]
    exact ⟨fun t h => by have := stamp_ge r (k + 1) t h; simp only; omega, stamp_rising r (k + 1)⟩

theorem msort_srt {n : Nat} {l : KV} (h : l.length ≤ n) : msort n l = (srt l l.length).1 := by
  have hr := stamp_rising l 0
  have hp := stamp_pi 0 l
  have hl : (stamp 0 l).length = l.length := by rw [← hp, List.length_map, hp]
  have h1 := msort_srtd n (stamp 0 l) (by omega) hr
  obtain ⟨ys, zs, e1, e2, _, e4, e5, _⟩ := srt_srtd hr l.length (by omega)
  rw [hp] at h1 e1 e2
  have hz : zs = [] := by
    have e := (srt_len l l.length).2
    rw [e2] at e
    exact List.eq_nil_of_length_eq_zero (by simpa using e)
  subst hz
  rw [List.append_nil] at e4
  exact h1.unique hr ⟨ys, e1.symm, e4, e5⟩

end Go.Gk
