/-
  Plain laws on a book's states: what is done since a beginning and taken back leaves no trace; what is kept is as if nothing had been begun.
-/
import Derived.Test.YtnknemepfjfcfaaUd
namespace Go.Proofs.Ytnknemepfjfcfaa
open Go.RowKit Go.Gk

abbrev Act3 := Int × Int × Int
/-- A call on a book; what it tells. -/
def doS (s : St) (a : Act3) : St × Int :=
  if a.1 = 0 then (s.set a.2.1 a.2.2, 0)
  else if a.1 = 1 then (if (kget s.kv a.2.1).isSome then (s.drop a.2.1, 0) else (s, 35))
  else if a.1 = 2 then (if 64 ≤ s.begins.length then (s, 3) else (s.begin, 0))
  else if a.1 = 3 then (if s.begins = [] then (s, 2) else if s.begins.dropLast = [] then ({ s.ended with notes := [] }, 0) else (s.ended, 0))
  else if s.begins = [] then (s, 2) else (s.back, 0)


def Eqv (a b : KV) : Prop := ∀ k, kget a k = kget b k
theorem Eqv.refl (a : KV) : Eqv a a := fun _ => rfl
theorem Eqv.trans {a b c : KV} (h : Eqv a b) (k : Eqv b c) : Eqv a c := fun x => (h x).trans (k x)
theorem Eqv.symm {a b : KV} (h : Eqv a b) : Eqv b a := fun x => (h x).symm
theorem Eqv.put {a b : KV} (h : Eqv a b) (k v : Int) : Eqv (kput a k v) (kput b k v) := fun x => by
  by_cases e : x = k
  · subst e; rw [kget_put_same, kget_put_same]
  · rw [kget_put_other _ _ e, kget_put_other _ _ e, h x]
theorem Eqv.del {a b : KV} (h : Eqv a b) (k : Int) : Eqv (kdel a k) (kdel b k) := fun x => by
  by_cases e : x = k
  · subst e; rw [kget_del_same, kget_del_same]
  · rw [kget_del_other _ e, kget_del_other _ e, h x]
theorem Eqv.undo1 {a b : KV} (h : Eqv a b) (n : Note) : Eqv (undo1 a n) (undo1 b n) := by
  unfold Go.Proofs.Ytnknemepfjfcfaa.undo1; split
  · exact h.put _ _
  · exact h.del _
theorem Eqv.undo {a b : KV} (h : Eqv a b) : ∀ l : List Note, Eqv (l.foldr (fun n kv => Go.Proofs.Ytnknemepfjfcfaa.undo1 kv n) a) (l.foldr (fun n kv => Go.Proofs.Ytnknemepfjfcfaa.undo1 kv n) b)
  | [] => h
  | n :: l => (Eqv.undo h l).undo1 n

/-- A note takes back a set, and a drop. -/
theorem undo1_put (kv : KV) (k v : Int) : Eqv (undo1 (kput kv k v) (k, (kget kv k).getD 0, (kget kv k).isSome)) kv := fun x => by
  unfold undo1
  by_cases e : x = k
  · subst e
    cases h : kget kv x with
    | none => simp [kget_del_same]
    | some u => simp [kget_put_same]
  · split
    · rw [kget_put_other _ _ e, kget_put_other _ _ e]
    · rw [kget_del_other _ e, kget_put_other _ _ e]
theorem undo1_del (kv : KV) (k : Int) : Eqv (undo1 (kdel kv k) (k, (kget kv k).getD 0, (kget kv k).isSome)) kv := fun x => by
  unfold undo1
  by_cases e : x = k
  · subst e
    cases h : kget kv x with
    | none => simp [kget_del_same]
    | some u => simp [kget_put_same]
  · split
    · rw [kget_put_other _ _ e, kget_del_other _ e]
    · rw [kget_del_other _ e, kget_del_other _ e]

theorem undoTo_more (notes : List Note) (n : Note) (kv : KV) {j : Nat} (h : j ≤ notes.length) : undoTo (notes ++ [n]) kv j = undoTo notes (undo1 kv n) j := by
  unfold undoTo
  rw [List.drop_append_of_le_length h, List.foldr_append]
  rfl
theorem undoTo_take (notes : List Note) (kv : KV) {i j : Nat} (h : j ≤ i) : undoTo (notes.take i) (undoTo notes kv i) j = undoTo notes kv j := by
  unfold undoTo
  have : notes.drop j = (notes.take i).drop j ++ notes.drop i := by
    rcases Nat.le_total i notes.length with hl | hl
    · have h1 : notes = notes.take i ++ notes.drop i := (List.take_append_drop _ _).symm
      have h2 : j ≤ (notes.take i).length := by rw [List.length_take]; omega
      conv => lhs; rw [h1]
      rw [List.drop_append_of_le_length h2]
    · rw [List.take_of_length_le hl, List.drop_eq_nil_of_le hl]; simp
  rw [this, List.foldr_append]

/-! ### what each call keeps -/
theorem mem_kput {l : KV} {k v : Int} {p : Int × Int} (h : p ∈ kput l k v) : p ∈ l ∨ p = (k, v) := by
  simp only [kput, List.mem_append, List.mem_singleton] at h
  exact h.imp (fun h => (mem_del.1 h).1) id
theorem wf_get {l : KV} (h : ∀ p ∈ l, wfi p.1 ∧ wfi p.2) (k : Int) : wfi ((kget l k).getD 0) := by
  cases hg : kget l k with
  | none => exact WalkArith.wf_i64 (by simp)
  | some u => exact (h _ (kget_mem hg)).2
theorem wf_undo {notes : List Note} {kv : KV} (hk : ∀ p ∈ kv, wfi p.1 ∧ wfi p.2) (hn : ∀ n ∈ notes, wfi n.1 ∧ wfi n.2.1) : ∀ (l : List Note), (∀ n ∈ l, n ∈ notes) → ∀ p ∈ l.foldr (fun n kv => undo1 kv n) kv, wfi p.1 ∧ wfi p.2
  | [], _, p, hp => hk p hp
  | n :: l, hl, p, hp => by
    have ih := wf_undo hk hn l (fun m hm => hl m (by simp [hm]))
    simp only [List.foldr_cons] at hp
    unfold undo1 at hp
    split at hp
    · rcases mem_kput hp with h | rfl
      · exact ih p h
      · exact hn n (hl n (by simp))
    · exact ih p (mem_del.1 hp).1

theorem note_ok {s : St} (h : s.Ok) {k : Int} (hk : wfi k) : (s.note k).Ok := by
  unfold St.note
  split
  · exact h
  · refine ⟨h.kv, fun n hn => ?_, fun b hb => ?_, h.sorted⟩
    · rcases List.mem_append.1 hn with hn | hn
      · exact h.notes n hn
      · rw [List.mem_singleton.1 hn]; exact ⟨hk, wf_get h.kv k⟩
    · have := h.beg b hb
      simp only [List.length_append]
      omega

theorem doS_ok {s : St} (h : s.Ok) {a : Act3} (hk : wfi a.2.1) (hv : wfi a.2.2) : (doS s a).1.Ok := by
  unfold doS
  split
  · have := note_ok h hk
    refine ⟨fun p hp => ?_, this.notes, this.beg, this.sorted⟩
    rcases mem_kput hp with hp | rfl
    · exact h.kv p hp
    · exact ⟨hk, hv⟩
  split
  · split
    · have := note_ok h hk
      exact ⟨fun p hp => h.kv p (mem_del.1 hp).1, this.notes, this.beg, this.sorted⟩
    · exact h
  split
  · split
    · exact h
    · refine ⟨h.kv, h.notes, fun b hb => ?_, ?_⟩
      · rcases List.mem_append.1 hb with hb | hb
        · exact h.beg b hb
        · rw [List.mem_singleton.1 hb]; exact Nat.le_refl _
      · simp only [St.begin]
        rw [List.pairwise_append]
        exact ⟨h.sorted, by simp, fun x hx y hy => by rw [List.mem_singleton.1 hy]; exact h.beg x hx⟩
  have hend : s.ended.Ok := ⟨h.kv, h.notes, fun b hb => h.beg b (List.dropLast_subset _ hb), h.sorted.sublist (List.dropLast_sublist _)⟩
  split
  · split
    · exact h
    · split
      · rename_i hd
        exact ⟨h.kv, by simp, (fun b hb => by simp only [St.ended, hd] at hb; cases hb), hend.sorted⟩
      · exact hend
  · split
    · exact h
    · rename_i hne
      refine ⟨?_, fun n hn => h.notes n (List.mem_of_mem_take hn), fun b hb => ?_, hend.sorted⟩
      · exact wf_undo h.kv h.notes _ (fun n hn => List.mem_of_mem_drop hn)
      · simp only [St.back, List.length_take] at hb ⊢
        have h1 := h.beg b (List.dropLast_subset _ hb)
        have h2 : b ≤ s.begins.getLast?.getD 0 := by
          obtain ⟨l, x, hx⟩ : ∃ l x, s.begins = l ++ [x] := ⟨_, _, (List.dropLast_concat_getLast hne).symm⟩
          have hs := h.sorted
          rw [hx] at hs hb ⊢
          rw [List.dropLast_concat] at hb
          rw [List.pairwise_append] at hs
          simpa using hs.2.2 b hb x (by simp)
        omega

def St.bulk (s : St) : Nat := s.kv.length + s.notes.length

theorem note_bulk (s : St) (k : Int) : (s.note k).bulk ≤ s.bulk + 1 := by
  unfold St.note St.bulk; split <;> simp <;> omega

theorem doS_bulk (s : St) (a : Act3) : (doS s a).1.bulk ≤ s.bulk + 2 := by
  unfold doS
  split
  · have h1 := note_bulk s a.2.1
    have h2 := kput_len s.kv a.2.1 a.2.2
    have h3 := note_kv s a.2.1
    simp only [St.set, St.bulk, h3] at *
    omega
  split
  · split
    · have h1 := note_bulk s a.2.1
      have h2 := kdel_len s.kv a.2.1
      have h3 := note_kv s a.2.1
      simp only [St.drop, St.bulk, h3] at *
      omega
    · simp
  split
  · split
    · simp
    · simp [St.begin, St.bulk]
  split
  · split
    · simp
    · split <;> simp [St.ended, St.bulk] <;> omega
  · split
    · simp
    · have := undoTo_len' s.notes s.kv (s.begins.getLast?.getD 0)
      simp only [St.back, St.bulk, List.length_take]
      omega

theorem doS_depth (s : St) (a : Act3) (h : s.begins.length ≤ 64) : (doS s a).1.begins.length ≤ 64 ∧ (doS s a).1.begins.length ≤ s.begins.length + 1 := by
  unfold doS
  split
  · simp only [St.set, note_begins]; omega
  split
  · split
    · simp only [St.drop, note_begins]; omega
    · simp; omega
  split
  · split
    · simp; omega
    · simp [St.begin]; omega
  split
  · split
    · simp; omega
    · split <;> simp [St.ended] <;> omega
  · split
    · simp; omega
    · simp [St.back]; omega

def runS (s : St) (l : List Act3) : St := l.foldl (fun s a => (doS s a).1) s

theorem runS_snoc (s : St) (l : List Act3) (a : Act3) : runS s (l ++ [a]) = (doS (runS s l) a).1 := by simp [runS]

theorem runS_ok : ∀ (l : List Act3) (s : St), s.Ok → (∀ a ∈ l, wfi a.2.1 ∧ wfi a.2.2) → (runS s l).Ok ∧ (runS s l).bulk ≤ s.bulk + 2 * l.length ∧ (s.begins.length ≤ 64 → (runS s l).begins.length ≤ 64 ∧ (runS s l).begins.length ≤ s.begins.length + l.length)
  | [], s, h, _ => ⟨h, by simp [runS], fun h => ⟨h, by simp [runS]⟩⟩
  | a :: l, s, h, hl => by
    have ha := hl a (by simp)
    obtain ⟨h1, h2, h3⟩ := runS_ok l (doS s a).1 (doS_ok h ha.1 ha.2) (fun b hb => hl b (by simp [hb]))
    have hb := doS_bulk s a
    show (runS (doS s a).1 l).Ok ∧ (runS (doS s a).1 l).bulk ≤ _ ∧ (_ → (runS (doS s a).1 l).begins.length ≤ 64 ∧ (runS (doS s a).1 l).begins.length ≤ _)
    refine ⟨h1, by simp only [List.length_cons]; omega, fun hs => ?_⟩
    obtain ⟨h4, h5⟩ := doS_depth s a hs
    obtain ⟨h6, h7⟩ := h3 h4
    simp only [List.length_cons]
    omega

/-! ### what is done since a beginning -/
/-- t came from s, begun, with nothing ended of what was begun before. -/
structure Under (s t : St) : Prop where
  beg : ∃ extra, t.begins = s.begins ++ s.notes.length :: extra ∧ ∀ b ∈ extra, s.notes.length ≤ b
  notes : t.notes.take s.notes.length = s.notes ∧ s.notes.length ≤ t.notes.length
  kv : Eqv (undoTo t.notes t.kv s.notes.length) s.kv

theorem Under.start (s : St) : Under s s.begin := ⟨⟨[], rfl, by simp⟩, ⟨by simp [St.begin], Nat.le_refl _⟩, by simp only [St.begin]; rw [undoTo_end]; exact Eqv.refl _⟩

theorem Under.noted {s t : St} (h : Under s t) {k : Int} {kv' : KV} (hu : Eqv (undo1 kv' (k, (kget t.kv k).getD 0, (kget t.kv k).isSome)) t.kv) : Under s { t.note k with kv := kv' } := by
  have hne : t.begins ≠ [] := by obtain ⟨e, he, _⟩ := h.beg; rw [he]; simp
  have hn : t.note k = { t with notes := t.notes ++ [(k, (kget t.kv k).getD 0, (kget t.kv k).isSome)] } := by simp [St.note, hne]
  rw [hn]
  refine ⟨h.beg, ⟨?_, ?_⟩, ?_⟩
  · simp only
    rw [List.take_append_of_le_length h.notes.2]
    exact h.notes.1
  · have := h.notes.2
    simp only [List.length_append]
    omega
  · simp only
    rw [undoTo_more _ _ _ h.notes.2]
    exact (hu.undo _).trans h.kv

/-- What is asked of a call that is done since a beginning: it ends nothing that was begun ahead. -/
def mayM (d : Nat) (t : St) (a : Act3) : Prop := (0 ≤ a.1 ∧ a.1 ≤ 2) ∨ d + 1 < t.begins.length

theorem Under.step {s t : St} (h : Under s t) (a : Act3) (hm : mayM s.begins.length t a) : Under s (doS t a).1 := by
  unfold doS
  split
  · exact h.noted (undo1_put _ _ _)
  split
  · split
    · exact h.noted (undo1_del _ _)
    · exact h
  split
  · split
    · exact h
    · obtain ⟨e, he, hb⟩ := h.beg
      refine ⟨⟨e ++ [t.notes.length], by simp [St.begin, he], fun b hbm => ?_⟩, h.notes, h.kv⟩
      rcases List.mem_append.1 hbm with hbm | hbm
      · exact hb b hbm
      · rw [List.mem_singleton.1 hbm]; exact h.notes.2
  obtain ⟨e, he, hb⟩ := h.beg
  have hd : s.begins.length + 1 < t.begins.length := by
    rcases hm with hm | hm
    · omega
    · exact hm
  have hne : e ≠ [] := by
    intro hn
    rw [he, hn] at hd
    simp at hd
  have hdl : t.begins.dropLast = s.begins ++ s.notes.length :: e.dropLast := by
    rw [he, List.dropLast_append_of_ne_nil (by simp), List.dropLast_cons_of_ne_nil hne]
  split
  · split
    · exact h
    · split
      · rename_i h0
        rw [hdl] at h0
        simp at h0
      · exact ⟨⟨e.dropLast, hdl, fun b hbm => hb b (List.dropLast_subset _ hbm)⟩, h.notes, h.kv⟩
  · split
    · exact h
    · have hat : s.notes.length ≤ t.begins.getLast?.getD 0 := by
        obtain ⟨x, hx⟩ : ∃ x, e.getLast? = some x := by
          cases hl : e.getLast? with
          | none => rw [List.getLast?_eq_none_iff] at hl; exact absurd hl hne
          | some x => exact ⟨x, rfl⟩
        have : t.begins.getLast? = some x := by
          rw [he, List.getLast?_append, List.getLast?_cons, hx]; rfl
        rw [this]
        exact hb _ (List.mem_of_getLast? hx)
      refine ⟨⟨e.dropLast, hdl, fun b hbm => hb b (List.dropLast_subset _ hbm)⟩, ⟨?_, ?_⟩, ?_⟩
      · simp only [St.back]
        rw [List.take_take, Nat.min_eq_left hat]
        exact h.notes.1
      · have := h.notes.2
        simp only [St.back, List.length_take]
        omega
      · simp only [St.back]
        rw [undoTo_take _ _ hat]
        exact h.kv

/-- The last beginning is taken back: s again. -/
theorem Under.last {s t : St} (h : Under s t) (hd : t.begins.length = s.begins.length + 1) : Eqv t.back.kv s.kv ∧ t.back.begins = s.begins ∧ t.begins ≠ [] := by
  obtain ⟨e, he, hb⟩ := h.beg
  have hne : e = [] := by
    rw [he] at hd
    simpa using hd
  subst hne
  have hl : t.begins.getLast?.getD 0 = s.notes.length := by rw [he]; simp
  refine ⟨?_, ?_, by rw [he]; simp⟩
  · simp only [St.back]
    rw [hl]
    exact h.kv
  · simp only [St.back]
    rw [he]
    simp

/-- What is under s, or s once more. -/
def Thru (s t : St) : Prop := Under s t ∨ (Eqv t.kv s.kv ∧ t.begins = s.begins)
theorem Under.deep {s t : St} (h : Under s t) : s.begins.length < t.begins.length := by
  obtain ⟨e, he, _⟩ := h.beg
  rw [he]; simp
theorem Thru.flat {s t : St} (h : Thru s t) (hd : t.begins.length ≤ s.begins.length) : Eqv t.kv s.kv ∧ t.begins = s.begins := by
  rcases h with h | h
  · have := h.deep; omega
  · exact h
theorem doS_back {t : St} (hne : t.begins ≠ []) : (doS t (4, 0, 0)).1 = t.back := by simp [doS, hne]
theorem Thru.back {s t : St} (h : Thru s t) (hd : s.begins.length < t.begins.length) : Thru s t.back ∧ t.begins ≠ [] := by
  rcases h with h | h
  · have hne : t.begins ≠ [] := by intro h0; rw [h0] at hd; simp at hd
    refine ⟨?_, hne⟩
    rcases Nat.lt_or_ge (s.begins.length + 1) t.begins.length with hl | hl
    · have := h.step (4, 0, 0) (.inr hl)
      rw [doS_back hne] at this
      exact .inl this
    · have := h.last (by omega)
      exact .inr ⟨this.1, this.2.1⟩
  · rw [h.2] at hd; omega
theorem back_facts {t : St} (hne : t.begins ≠ []) (hok : t.Ok) : t.back.Ok ∧ t.back.bulk ≤ t.bulk + 2 ∧ t.back.begins.length + 1 = t.begins.length := by
  have h1 := doS_ok hok (a := (4, 0, 0)) (WalkArith.wf_i64 (by simp)) (WalkArith.wf_i64 (by simp))
  have h2 := doS_bulk t (4, 0, 0)
  rw [doS_back hne] at h1 h2
  have : 0 < t.begins.length := List.length_pos_iff.2 hne
  exact ⟨h1, h2, by simp [St.back]; omega⟩

/-! ### what is kept -/
/-- Where nothing is begun nothing is noted; the first beginning stands at no note. -/
structure Neat (s : St) : Prop where
  none : s.begins = [] → s.notes = []
  first : ∀ x, s.begins.head? = some x → x = 0

theorem head_dropLast {l : List Nat} (h : l.dropLast ≠ []) : l.dropLast.head? = l.head? := by
  cases l with
  | nil => rfl
  | cons a r => cases r with
    | nil => simp at h
    | cons b t => rfl
theorem note_neat {s : St} (h : Neat s) (k : Int) (kv' : KV) : Neat { s.note k with kv := kv' } := by
  unfold St.note
  split
  · exact ⟨h.none, h.first⟩
  · rename_i hb
    exact ⟨fun h0 => absurd h0 hb, h.first⟩
theorem doS_neat {s : St} (h : Neat s) (a : Act3) : Neat (doS s a).1 := by
  unfold doS
  split
  · exact note_neat h _ _
  split
  · split
    · exact note_neat h _ _
    · exact h
  split
  · split
    · exact h
    · refine ⟨fun h0 => by simp [St.begin] at h0, fun x hx => ?_⟩
      simp only [St.begin] at hx
      cases hb : s.begins with
      | nil => rw [hb] at hx; simp at hx; rw [← hx, h.none hb]; rfl
      | cons b r => rw [hb] at hx; exact h.first x (by rw [hb]; simpa using hx)
  split
  · split
    · exact h
    · split
      · rename_i hd
        exact ⟨fun _ => rfl, fun x hx => by simp only [St.ended, hd] at hx; cases hx⟩
      · rename_i hd
        exact ⟨fun h0 => absurd h0 hd, fun x hx => h.first x (by simp only [St.ended] at hx; rw [head_dropLast hd] at hx; exact hx)⟩
  · split
    · exact h
    · rename_i hne
      refine ⟨fun h0 => ?_, fun x hx => ?_⟩
      · simp only [St.back] at h0 ⊢
        obtain ⟨y, hy⟩ : ∃ y, s.begins = [y] := by
          cases hb : s.begins with
          | nil => exact absurd hb hne
          | cons y r => cases r with
            | nil => exact ⟨y, rfl⟩
            | cons z t => rw [hb] at h0; simp at h0
        have := h.first y (by rw [hy]; rfl)
        subst this
        rw [hy]; simp
      · simp only [St.back] at hx
        refine h.first x ?_
        have hd : s.begins.dropLast ≠ [] := by intro h0; rw [h0] at hx; cases hx
        rwa [head_dropLast hd] at hx
theorem runS_neat : ∀ (l : List Act3) (s : St), Neat s → Neat (runS s l)
  | [], _, h => h
  | a :: l, s, h => runS_neat l (doS s a).1 (doS_neat h a)

/-- t is as u, but for one beginning more. -/
structure Kept (t u : St) : Prop where
  kv : t.kv = u.kv
  beg : ∃ x, t.begins = u.begins ++ [x]
  some : u.begins ≠ [] → t.notes = u.notes
  none : u.begins = [] → u.notes = []

theorem Kept.start {s : St} (h : Neat s) : Kept s.begin s := ⟨rfl, ⟨_, rfl⟩, fun _ => rfl, h.none⟩

theorem Kept.noted {t u : St} (h : Kept t u) (k : Int) (kv' : KV) : Kept { t.note k with kv := kv' } { u.note k with kv := kv' } := by
  obtain ⟨x, hx⟩ := h.beg
  have hne : t.begins ≠ [] := by rw [hx]; simp
  unfold St.note
  rw [if_neg hne]
  by_cases hu : u.begins = []
  · rw [if_pos hu]
    exact ⟨rfl, ⟨x, hx⟩, fun hn => absurd hu hn, h.none⟩
  · rw [if_neg hu]
    refine ⟨rfl, ⟨x, hx⟩, fun _ => ?_, fun h0 => absurd h0 hu⟩
    simp only [h.some hu, h.kv]

theorem Kept.step {t u : St} (h : Kept t u) {a : Act3} (ha : a.1 = 0 ∨ a.1 = 1) : Kept (doS t a).1 (doS u a).1 ∧ (doS t a).2 = (doS u a).2 ∧ (doS u a).1.begins = u.begins := by
  unfold doS
  rw [h.kv]
  split
  · refine ⟨?_, rfl, by simp only [St.set, note_begins]⟩
    have := h.noted a.2.1 (kput u.kv a.2.1 a.2.2)
    simpa only [St.set, note_kv, h.kv] using this
  split
  · split
    · refine ⟨?_, rfl, by simp only [St.drop, note_begins]⟩
      have := h.noted a.2.1 (kdel u.kv a.2.1)
      simpa only [St.drop, note_kv, h.kv] using this
    · exact ⟨h, rfl, rfl⟩
  · omega

theorem Kept.last {t u : St} (h : Kept t u) : t.begins ≠ [] ∧ (if t.begins.dropLast = [] then { t.ended with notes := [] } else t.ended) = u := by
  obtain ⟨x, hx⟩ := h.beg
  refine ⟨by rw [hx]; simp, ?_⟩
  have hd : t.begins.dropLast = u.begins := by rw [hx]; simp
  rw [hd]
  cases u with
  | mk kv notes begins =>
    split
    · rename_i h0
      simp only at h0
      subst h0
      have hz : notes = [] := h.none rfl
      simp only [St.ended, hd, h.kv, hz]
    · rename_i h0
      simp only [St.ended, hd, h.kv, h.some h0]

end Go.Proofs.Ytnknemepfjfcfaa
