/-
  Plain: a book's states and the document's answer go side by side.
-/
import Derived.Test.YtnknemepfjfcfaaUp
import Derived.Test.YtnknemepfjfcfaaGm
namespace Go.Proofs.Ytnknemepfjfcfaa
open Go.RowKit Go.Gk

/-- The document's answer to a call. -/
def doR (r : KV × List KV) (a : Act3) : (KV × List KV) × Int :=
  if a.1 = 0 then ((kput r.1 a.2.1 a.2.2, r.2), 0)
  else if a.1 = 1 then (if (kget r.1 a.2.1).isSome then ((kdel r.1 a.2.1, r.2), 0) else (r, 35))
  else if a.1 = 2 then (if 64 ≤ r.2.length then (r, 3) else ((r.1, r.2 ++ [r.1]), 0))
  else if a.1 = 3 then (if r.2 = [] then (r, 2) else ((r.1, r.2.dropLast), 0))
  else if r.2 = [] then (r, 2) else ((r.2.getLast?.getD [], r.2.dropLast), 0)

structure Sim (s : St) (r : KV × List KV) : Prop where
  ok : s.Ok
  kv : Eqv s.kv r.1
  uniq : Uniq r.1
  len : r.2.length = s.begins.length
  each : ∀ (i b : Nat) (t : KV), s.begins[i]? = some b → r.2[i]? = some t → Eqv (undoTo s.notes s.kv b) t ∧ Uniq t

theorem Sim.start : Sim ⟨[], [], []⟩ ([], []) := ⟨⟨by simp, by simp, by simp, by simp⟩, Eqv.refl _, List.nodup_nil, rfl, fun i b t h => by simp at h⟩

theorem Sim.noted {s : St} {r : KV × List KV} (h : Sim s r) {k : Int} {kv' now' : KV} (hu : Eqv (undo1 kv' (k, (kget s.kv k).getD 0, (kget s.kv k).isSome)) s.kv)
    (hok : St.Ok { s.note k with kv := kv' }) (he : Eqv kv' now') (hq : Uniq now') : Sim { s.note k with kv := kv' } (now', r.2) := by
  refine ⟨hok, he, hq, by simpa only [note_begins] using h.len, fun i b t hb ht => ?_⟩
  simp only [note_begins] at hb
  obtain ⟨h1, h2⟩ := h.each i b t hb ht
  refine ⟨?_, h2⟩
  have hne : s.begins ≠ [] := by intro e; rw [e] at hb; simp at hb
  have hn : s.note k = { s with notes := s.notes ++ [(k, (kget s.kv k).getD 0, (kget s.kv k).isSome)] } := by simp [St.note, hne]
  rw [hn]
  simp only
  rw [undoTo_more _ _ _ (h.ok.beg b (List.mem_of_getElem? hb))]
  exact (hu.undo _).trans h1

theorem some_eqv {a b : KV} (h : Eqv a b) (k : Int) : (kget a k).isSome = (kget b k).isSome := by rw [h k]

theorem Sim.ended {s : St} {r : KV × List KV} (h : Sim s r) (hok : s.ended.Ok) : Sim s.ended (r.1, r.2.dropLast) := by
  refine ⟨hok, h.kv, h.uniq, by simp [St.ended, h.len], fun i b t hb ht => ?_⟩
  simp only [St.ended] at hb ⊢
  rw [List.getElem?_dropLast] at hb ht
  split at hb
  · split at ht
    · exact h.each i b t hb ht
    · cases ht
  · cases hb

theorem Sim.step {s : St} {r : KV × List KV} (h : Sim s r) {a : Act3} (hk : wfi a.2.1) (hv : wfi a.2.2) : Sim (doS s a).1 (doR r a).1 ∧ (doS s a).2 = (doR r a).2 := by
  have hok := doS_ok h.ok hk hv
  unfold doS at hok ⊢
  unfold doR
  split at hok
  · rename_i h0
    rw [if_pos h0, if_pos h0]
    exact ⟨h.noted (undo1_put _ _ _) hok (h.kv.put _ _) (uniq_put h.uniq _ _), rfl⟩
  rename_i h0
  rw [if_neg h0, if_neg h0]
  split at hok
  · rename_i h1
    rw [if_pos h1, if_pos h1, some_eqv h.kv]
    split
    · rename_i hs
      rw [some_eqv h.kv, if_pos hs] at hok
      exact ⟨h.noted (undo1_del _ _) hok (h.kv.del _) (uniq_del h.uniq _), rfl⟩
    · exact ⟨h, rfl⟩
  rename_i h1
  rw [if_neg h1, if_neg h1]
  split at hok
  · rename_i h2
    rw [if_pos h2, if_pos h2, h.len]
    split
    · exact ⟨h, rfl⟩
    · rename_i hl
      rw [if_neg hl] at hok
      refine ⟨⟨hok, h.kv, h.uniq, by simp [St.begin, h.len], fun i b t hb ht => ?_⟩, rfl⟩
      simp only [St.begin] at hb ⊢
      by_cases hi : i < s.begins.length
      · rw [List.getElem?_append_left hi] at hb
        rw [List.getElem?_append_left (by rw [h.len]; exact hi)] at ht
        exact h.each i b t hb ht
      · rw [List.getElem?_append_right (by omega)] at hb
        rw [List.getElem?_append_right (by rw [h.len]; omega), h.len] at ht
        have h0 : i - s.begins.length = 0 := by
          by_cases h0 : i - s.begins.length = 0
          · exact h0
          · rw [List.getElem?_eq_none (by simp; omega)] at hb; cases hb
        rw [h0] at hb ht
        simp at hb ht
        subst hb ht
        rw [undoTo_end]
        exact ⟨h.kv, h.uniq⟩
  rename_i h2
  rw [if_neg h2, if_neg h2]
  have hnil : r.2 = [] ↔ s.begins = [] := by rw [← List.length_eq_zero_iff, h.len, List.length_eq_zero_iff]
  split at hok
  · rename_i h3
    rw [if_pos h3, if_pos h3]
    by_cases hb : s.begins = []
    · rw [if_pos hb, if_pos (hnil.2 hb)]
      exact ⟨h, rfl⟩
    · rw [if_neg hb, if_neg (fun e => hb (hnil.1 e))]
      rw [if_neg hb] at hok
      split
      · rename_i hd
        rw [if_pos hd] at hok
        refine ⟨⟨hok, h.kv, h.uniq, by simp [St.ended, h.len], fun i b t hb' ht => ?_⟩, rfl⟩
        simp only [St.ended, hd] at hb'
        simp at hb'
      · rename_i hd
        rw [if_neg hd] at hok
        exact ⟨h.ended hok, rfl⟩
  · rename_i h3
    rw [if_neg h3, if_neg h3]
    by_cases hb : s.begins = []
    · rw [if_pos hb, if_pos (hnil.2 hb)]
      exact ⟨h, rfl⟩
    · rw [if_neg hb, if_neg (fun e => hb (hnil.1 e))]
      rw [if_neg hb] at hok
      obtain ⟨l, x, hx⟩ : ∃ l x, s.begins = l ++ [x] := ⟨_, _, (List.dropLast_concat_getLast hb).symm⟩
      have hr0 : r.2 ≠ [] := fun e => hb (hnil.1 e)
      obtain ⟨m, y, hy⟩ : ∃ m y, r.2 = m ++ [y] := ⟨_, _, (List.dropLast_concat_getLast hr0).symm⟩
      have hlen := h.len
      rw [hx, hy] at hlen
      simp at hlen
      have hE := h.each l.length x y (by rw [hx]; simp) (by rw [hy, ← hlen]; simp)
      have hg : s.begins.getLast?.getD 0 = x := by rw [hx]; simp
      have hg2 : r.2.getLast?.getD [] = y := by rw [hy]; simp
      refine ⟨⟨hok, ?_, ?_, ?_, fun i b t hb' ht => ?_⟩, rfl⟩
      · simp only [St.back]
        rw [hg, hg2]
        exact hE.1
      · simp only
        rw [hg2]; exact hE.2
      · simp [St.back, h.len]
      · simp only [St.back, hx, hy, List.dropLast_concat] at hb' ht ⊢
        have hil : i < l.length := (List.getElem?_eq_some_iff.1 hb').1
        have := h.each i b t (by rw [hx, List.getElem?_append_left hil]; exact hb') (by rw [hy, List.getElem?_append_left (by omega)]; exact ht)
        have hbx : b ≤ x := by
          have hs := h.ok.sorted
          rw [hx, List.pairwise_append] at hs
          exact hs.2.2 b (List.mem_of_getElem? hb') x (by simp)
        simp only [List.getLast?_concat, Option.getD_some]
        rw [undoTo_take _ _ hbx]
        exact this

end Go.Proofs.Ytnknemepfjfcfaa
