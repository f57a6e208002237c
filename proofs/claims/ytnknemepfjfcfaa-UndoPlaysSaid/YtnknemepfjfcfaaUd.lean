/-
  The methods of undo.Book[int,int]: what each call does to a book, told as pairs, notes and beginnings.
-/
import Derived.Test.YtnknemepfjfcfaaRows
import Derived.Test.YtnknemepfjfcfaaKv
import Derived.WalkSpells
import Derived.WalkLawsBesides
import Derived.BigQuiet
import Derived.Outline
namespace Go.Proofs.Ytnknemepfjfcfaa
open Go.RowKit Go.Maps Go.Gk

theorem rowInts : RowTy Try.prog 41 3 (.int .i64 0) 1 8 := ⟨Try.underlying41, by kernel_rfl, rfl, by decide⟩
theorem rowWass : RowTy Try.prog 78 93 (.agg #[.int .i64 0, .int .i64 0, .bool false]) 3 24 := ⟨Try.underlying78, by kernel_rfl, rfl, by decide⟩
theorem zeroInt (w : World) : (zeroValue 3).run Try.prog w = .ok (.int .i64 0) w := by kernel_rfl

abbrev Note := Int × Int × Bool
def flatN (n : Note) : List Value := [.int .i64 n.1, .int .i64 n.2.1, .bool n.2.2]
theorem flatN_len (l : List Note) : (l.flatMap flatN).length = l.length * 3 := by
  induction l with
  | nil => rfl
  | cons a r ih => simp [flatN, ih]; omega
theorem flatN_at : ∀ (l : List Note) (i : Nat) (h : i < l.length), (l.flatMap flatN)[i * 3]? = some (.int .i64 l[i].1) ∧ (l.flatMap flatN)[i * 3 + 1]? = some (.int .i64 l[i].2.1) ∧ (l.flatMap flatN)[i * 3 + 2]? = some (.bool l[i].2.2)
  | a :: r, 0, _ => ⟨rfl, rfl, rfl⟩
  | a :: r, i + 1, h => by
    have := flatN_at r i (by simpa using h)
    have e : ∀ j, ((a :: r).flatMap flatN)[(i + 1) * 3 + j]? = (r.flatMap flatN)[i * 3 + j]? := fun j => by
      rw [show (i + 1) * 3 + j = (i * 3 + j) + 3 by omega]
      simp [flatN]
    exact ⟨(e 0).trans this.1, (e 1).trans this.2.1, (e 2).trans this.2.2⟩
theorem flatN_one1 (n : Note) : ∀ u ∈ flatN n, u.oneCell' = true := fun u hu => by
  simp [flatN] at hu
  rcases hu with rfl | rfl | rfl <;> rfl
theorem flatN_one (l : List Note) : ∀ u ∈ l.flatMap flatN, u.oneCell' = true := fun u hu => by
  obtain ⟨n, _, hn⟩ := List.mem_flatMap.1 hu
  simp [flatN] at hn
  rcases hn with rfl | rfl | rfl <;> rfl

structure St where
  kv : KV
  notes : List Note
  begins : List Nat

/-- All numbers are numbers of 64 bits. -/
structure St.Ok (s : St) : Prop where
  kv : ∀ p ∈ s.kv, wfi p.1 ∧ wfi p.2
  notes : ∀ n ∈ s.notes, wfi n.1 ∧ wfi n.2.1
  beg : ∀ b ∈ s.begins, b ≤ s.notes.length
  sorted : s.begins.Pairwise (· ≤ ·)

/-- A book in block b: its map, its notes, its beginnings. -/
structure BookIs (w : World) (b m : Nat) (nv bv : Value) (s : St) : Prop where
  blk : Blk w b 80 #[.map (some m), nv, bv]
  map : KvMap Try.prog 3 w m s.kv
  notes : w.ownsRow 0 93 3 nv s.notes.length (s.notes.flatMap flatN)
  begins : w.ownsRow 0 3 1 bv s.begins.length (s.begins.map fun n : Nat => .int .i64 (n : Int))

/-- The blocks of a book. -/
def foot (b m : Nat) (nv bv : Value) (k : Nat) : Prop := k = b ∨ k = m ∨ nv.ownBlock = some k ∨ bv.ownBlock = some k

/-- There is a book in block b, all of whose blocks are in F. -/
def BookAt (w : World) (F : Nat → Prop) (b : Nat) (s : St) : Prop := ∃ m nv bv, BookIs w b m nv bv s ∧ ∀ k, foot b m nv bv k → F k

theorem obj_ne {w : World} {i j : Nat} {o o' : Obj} (h : w.heap[i]? = some o) (h' : w.heap[j]? = some o') (hne : o ≠ o') : i ≠ j := fun e => by
  subst e; rw [h] at h'; exact hne (Option.some.inj h')

section
variable {w : World} {b m : Nat} {nv bv : Value} {s : St}
theorem BookIs.ne_m (h : BookIs w b m nv bv s) : b ≠ m := by
  obtain ⟨D, ⟨es, c, hm, _⟩, _⟩ := h.map
  exact obj_ne h.blk hm (by simp)
theorem own_heap {base e size n : Nat} {v : Value} {xs : List Value} (h : w.ownsRow base e size v n xs) {g : Nat} (hg : v.ownBlock = some g) : ∃ cur, w.heap[g]? = some (.cells cur e (0, 0)) := by
  rcases h.2 with ⟨rfl, _⟩ | ⟨g', cap, cur, rfl, _, hh, _⟩
  · cases hg
  · cases hg; exact ⟨cur, hh⟩
theorem BookIs.ne_n (h : BookIs w b m nv bv s) : nv.ownBlock ≠ some b ∧ nv.ownBlock ≠ some m ∧ ∀ g, nv.ownBlock = some g → bv.ownBlock ≠ some g := by
  refine ⟨fun e => ?_, fun e => ?_, fun g e e' => ?_⟩
  · obtain ⟨cur, hc⟩ := own_heap h.notes e
    exact obj_ne hc h.blk (by simp) rfl
  · obtain ⟨cur, hc⟩ := own_heap h.notes e
    obtain ⟨D, ⟨es, c, hm, _⟩, _⟩ := h.map
    exact obj_ne hc hm (by simp) rfl
  · obtain ⟨cur, hc⟩ := own_heap h.notes e
    obtain ⟨cur', hc'⟩ := own_heap h.begins e'
    exact obj_ne hc hc' (by simp) rfl
theorem BookIs.ne_b (h : BookIs w b m nv bv s) : bv.ownBlock ≠ some b ∧ bv.ownBlock ≠ some m := by
  refine ⟨fun e => ?_, fun e => ?_⟩
  · obtain ⟨cur, hc⟩ := own_heap h.begins e
    exact obj_ne hc h.blk (by simp) rfl
  · obtain ⟨cur, hc⟩ := own_heap h.begins e
    obtain ⟨D, ⟨es, c, hm, _⟩, _⟩ := h.map
    exact obj_ne hc hm (by simp) rfl
theorem BookIs.keep {w' : World} {F : Nat → Prop} (h : BookIs w b m nv bv s) (t : Tch F w w') (hn : ∀ k, foot b m nv bv k → ¬ F k) : BookIs w' b m nv bv s :=
  ⟨h.blk.keep t (hn b (.inl rfl)), h.map.keep t (hn m (.inr (.inl rfl))), t.own h.notes (fun g hg => hn g (.inr (.inr (.inl hg)))), t.own h.begins (fun g hg => hn g (.inr (.inr (.inr hg))))⟩
end

set_option maxRecDepth 100000 in
set_option maxHeartbeats 400000 in
theorem made_any {b m : Nat} {w : World} (h0 : w.cell? ⟨b, 0, none⟩ = some (.map (some m))) :
    Calls Try.prog 49 #[.pointer (some ⟨b, 0, none⟩)] w fun e w' => e = .returned (.bool true) ∧ w = w' := by
  have hq := fun (W : World) => run_neq_map_nil W 77 _ _ (some m) Try.underlying77
  go_enter Try.func49, Try.ntmps49
  go_wp2
  go_ret
  exact ⟨rfl, rfl⟩

set_option maxRecDepth 100000 in
set_option maxHeartbeats 400000 in
theorem get_any {b m : Nat} {nv bv : Value} {s : St} {k : Int} {w : World} (h : BookIs w b m nv bv s) (hk : wfi k) :
    Calls Try.prog 24 #[.pointer (some ⟨b, 0, none⟩), .int .i64 k] w fun e w' => e = .returned (.tuple #[.int .i64 ((kget s.kv k).getD 0), .bool (kget s.kv k).isSome]) ∧ w = w' := by
  have h0 := h.blk.cell 0
  have hl := (h.map.run_look Try.underlying3 Try.underlying77 (zeroInt w) hk).1
  go_enter Try.func24, Try.ntmps24
  go_wp2_with (go_at_call 49; refine (made_any h0).mono ?_; rintro e w' ⟨rfl, rfl⟩)
  go_ret2
  exact ⟨rfl, rfl⟩

set_option maxRecDepth 100000 in
set_option maxHeartbeats 400000 in
theorem len_any {b m : Nat} {nv bv : Value} {s : St} {w : World} (h : BookIs w b m nv bv s) :
    Calls Try.prog 26 #[.pointer (some ⟨b, 0, none⟩)] w fun e w' => e = .returned (.int .i64 s.kv.length) ∧ w = w' := by
  have h0 := h.blk.cell 0
  have hl := h.map.run_len (tm := 77) Try.underlying77
  go_enter Try.func26, Try.ntmps26
  go_wp2_with (go_at_call 49; refine (made_any h0).mono ?_; rintro e w' ⟨rfl, rfl⟩)
  go_ret
  exact ⟨rfl, rfl⟩

set_option maxRecDepth 100000 in
set_option maxHeartbeats 400000 in
theorem depth_any {b m : Nat} {nv bv : Value} {s : St} {w : World} (h : BookIs w b m nv bv s) :
    Calls Try.prog 27 #[.pointer (some ⟨b, 0, none⟩)] w fun e w' => e = .returned (.int .i64 s.begins.length) ∧ w = w' := by
  have h0 := h.blk.cell 0
  have h2 := h.blk.cell 2
  obtain ⟨A, c, rfl, _, _, _⟩ := own_form h.begins
  go_enter Try.func27, Try.ntmps27
  go_wp2_with (go_at_call 49; refine (made_any h0).mono ?_; rintro e w' ⟨rfl, rfl⟩)
  go_ret
  exact ⟨rfl, rfl⟩

def St.note (s : St) (k : Int) : St := if s.begins = [] then s else { s with notes := s.notes ++ [(k, (kget s.kv k).getD 0, (kget s.kv k).isSome)] }

/-- The call has turned the book to s', and nothing else that was there. -/
def Turned (w w' : World) (F : Nat → Prop) (b : Nat) (s' : St) : Prop := ∃ F', BookAt w' F' b s' ∧ Tch F w w' ∧ ∀ k, F' k → F k ∨ w.heap.size ≤ k

theorem Turned.refl {w : World} {F : Nat → Prop} {b : Nat} {s : St} (h : BookAt w F b s) : Turned w w F b s := ⟨F, h, Tch.refl F w, fun _ h => .inl h⟩

theorem grown_tch {w w' : World} {F : Nat → Prop} {v : Value} (hg : w.grownBy w' v.ownBlock) (hF : ∀ g, v.ownBlock = some g → F g ∨ w.heap.size ≤ g) : Tch F w w' := Tch.grown hg hF

/-- The notes' row has turned, and the book's field with it. -/
theorem BookIs.noted {w w1 : World} {b m : Nat} {nv bv nv' : Value} {s s' : St} (h : BookIs w b m nv bv s) (hkv : s'.kv = s.kv) (hbg : s'.begins = s.begins) (ho : w1.ownsRow 0 93 3 nv' s'.notes.length (s'.notes.flatMap flatN))
    (hg : w.grownBy w1 nv.ownBlock) (hl : ∀ g, nv'.ownBlock = some g → nv.ownBlock = some g ∨ w.heap.size ≤ g) {F : Nat → Prop} (hF : ∀ k, foot b m nv bv k → F k) :
    Turned w (w1.setCell ⟨b, 1, none⟩ nv') F b s' := by
  have t1 : Tch (fun k => nv.ownBlock = some k) w w1 := Tch.grown hg fun k hk => .inl hk
  have hb1 := h.blk.keep t1 (by simpa using h.ne_n.1)
  have hbs := hb1.set_ 1 nv'
  have hw : Tch F w w1 := Tch.grown hg fun k hk => .inl (hF k (.inr (.inr (.inl hk))))
  have hmw := h.map.lt
  have hbne : nv'.ownBlock ≠ some b := fun e => by
    rcases hl b e with h1 | h1
    · exact h.ne_n.1 h1
    · have := h.blk.lt; omega
  refine ⟨foot b m nv' bv, ⟨m, nv', bv, ⟨by simpa using hbs, ?_, ?_, ?_⟩, fun _ h => h⟩, hw.trans (Tch.setCell _ (.inl (hF b (.inl rfl))) _), fun k hk => ?_⟩
  · rw [hkv]
    exact (h.map.keep t1 h.ne_n.2.1).keep (Tch.setCell (F := fun k => k = b) _ (.inl rfl) _) (Ne.symm h.ne_m)
  · exact (Tch.setCell (F := fun k => k = b) _ (.inl rfl) _).own ho (fun g hg' e => hbne (by rw [← e]; exact hg'))
  · rw [hbg]
    exact (Tch.setCell (F := fun k => k = b) _ (.inl rfl) _).own (t1.own h.begins (fun g hg' e => h.ne_n.2.2 g e hg')) (fun g hg' e => h.ne_b.1 (by rw [← e]; exact hg'))
  · rcases hk with rfl | rfl | hk | hk
    · exact .inl (hF _ (.inl rfl))
    · exact .inl (hF _ (.inr (.inl rfl)))
    · rcases hl k hk with h1 | h1
      · exact .inl (hF _ (.inr (.inr (.inl h1))))
      · exact .inr h1
    · exact .inl (hF _ (.inr (.inr (.inr hk))))

theorem BookIs.after_alloc {w w1 : World} {b m : Nat} {nv bv : Value} {s : St} (h : BookIs w b m nv bv s) {o : Obj} (hg : (w.alloc o).grownBy w1 nv.ownBlock) : w1.cell? ⟨b, 1, none⟩ = some nv ∧ w1.frozen? ⟨b, 1, none⟩ = false := by
  have hb := (h.blk.alloc o).keep (Tch.grown (F := fun k => nv.ownBlock = some k) hg fun k hk => .inl hk) (by simpa using h.ne_n.1)
  exact ⟨hb.cell 1, hb.frozen 1⟩

theorem BookIs.after_begins {w w1 : World} {b m : Nat} {nv bv : Value} {s : St} (h : BookIs w b m nv bv s) (hg : w.grownBy w1 bv.ownBlock) : w1.cell? ⟨b, 2, none⟩ = some bv ∧ w1.frozen? ⟨b, 2, none⟩ = false := by
  have hb := h.blk.keep (Tch.grown (F := fun k => bv.ownBlock = some k) hg fun k hk => .inl hk) (by simpa using h.ne_b.1)
  exact ⟨hb.cell 2, hb.frozen 2⟩

theorem note_cells {w : World} {n : Note} : ∀ j u, (flatN n)[j]? = some u → (w.alloc (.cells #[.int .i64 n.1, .int .i64 n.2.1, .bool n.2.2] 93)).cell? ⟨w.heap.size, j, none⟩ = some u := fun j u hu => by
  rw [(Blk.new w 93 #[.int .i64 n.1, .int .i64 n.2.1, .bool n.2.2]).cell j]
  simpa [flatN] using hu

set_option maxRecDepth 100000 in
set_option maxHeartbeats 400000 in
theorem note_any {b : Nat} {F : Nat → Prop} {s : St} {k : Int} {w : World} (hB : BookAt w F b s) (hk : wfi k) (hn : s.notes.length ≤ 1000000) :
    Calls Try.prog 57 #[.pointer (some ⟨b, 0, none⟩), .int .i64 k] w fun e w' => e = .returned (.tuple #[]) ∧ Turned w w' F b (s.note k) := by
  obtain ⟨m, nv, bv, h, hF⟩ := hB
  have h0 := h.blk.cell 0
  have h1 := h.blk.cell 1
  have h2 := h.blk.cell 2
  obtain ⟨A, c, rfl, _, _, _⟩ := own_form h.begins
  obtain ⟨A', c', rfl, _, _, _⟩ := own_form h.notes
  have hl := (h.map.run_look Try.underlying3 Try.underlying77 (zeroInt w) hk).1
  by_cases hbs : s.begins = []
  · have hs : s.note k = s := by simp [St.note, hbs]
    have hlen : decide (0 < s.begins.length) = false := by simp [hbs]
    rw [hs]
    have HB := Hid.out (p := Hid (BookAt w F b s)) ⟨m, _, _, h, hF⟩
    clear hbs hs
    go_enter Try.func57, Try.ntmps57
    go_wp2
    go_end0
    exact ⟨rfl, Turned.refl HB.out⟩
  · have hlen : 0 < s.begins.length := List.length_pos_iff.2 hbs
    have hs : s.note k = { s with notes := s.notes ++ [(k, (kget s.kv k).getD 0, (kget s.kv k).isSome)] } := by simp [St.note, hbs]
    rw [hs]
    clear hbs hs
    go_enter Try.func57, Try.ntmps57
    go_wp2_with (at_builtin; refine wpList_append _ rfl _ _ 78 rfl rowWass (h.notes.alloc _) (by rfl) (Src.one rfl (note_cells (n := (k, (kget s.kv k).getD 0, (kget s.kv k).isSome)))) (by rfl) (flatN_one1 _) (by unfold maxLen; omega) (by omega) ?_; intro nv' w1 ho hg hll; obtain ⟨A2, c2, rfl, _, _, _⟩ := own_form ho; have hc1 := h.after_alloc hg)
    go_end0
    refine ⟨rfl, h.noted (s' := { s with notes := s.notes ++ [(k, (kget s.kv k).getD 0, (kget s.kv k).isSome)] }) rfl rfl ?_ ((World.grownBy_alloc w _ _).trans hg) (fun g hg' => ?_) hF⟩
    · simpa using ho
    · rcases hll g hg' with h1 | h1
      · exact .inl h1
      · exact .inr (by simp at h1; omega)

def St.set (s : St) (k v : Int) : St := { s.note k with kv := kput s.kv k v }
def St.drop (s : St) (k : Int) : St := { s.note k with kv := kdel s.kv k }

theorem note_kv (s : St) (k : Int) : (s.note k).kv = s.kv := by unfold St.note; split <;> rfl
theorem note_begins (s : St) (k : Int) : (s.note k).begins = s.begins := by unfold St.note; split <;> rfl

theorem BookIs.mappedIs {w w1 : World} {b m : Nat} {nv bv : Value} {s s' : St} (h : BookIs w b m nv bv s) (hs : s'.notes = s.notes ∧ s'.begins = s.begins) (hm : KvMap Try.prog 3 w1 m s'.kv) (ht : w.mapTurned w1 m) : BookIs w1 b m nv bv s' := by
  have t1 : Tch (fun k => k = m) w w1 := Tch.of_turned ht rfl
  refine ⟨h.blk.keep t1 h.ne_m, hm, ?_, ?_⟩
  · rw [hs.1]; exact t1.own h.notes (fun g hg e => h.ne_n.2.1 (by rw [← e]; exact hg))
  · rw [hs.2]; exact t1.own h.begins (fun g hg e => h.ne_b.2 (by rw [← e]; exact hg))

/-- The map has turned. -/
theorem BookIs.mapped {w w1 : World} {b m : Nat} {nv bv : Value} {s s' : St} (h : BookIs w b m nv bv s) (hs : s'.notes = s.notes ∧ s'.begins = s.begins) (hm : KvMap Try.prog 3 w1 m s'.kv) (ht : w.mapTurned w1 m)
    {F : Nat → Prop} (hF : ∀ k, foot b m nv bv k → F k) : BookAt w1 F b s' ∧ Tch F w w1 := by
  have t1 : Tch (fun k => k = m) w w1 := Tch.of_turned ht rfl
  refine ⟨⟨m, nv, bv, ⟨h.blk.keep t1 h.ne_m, hm, ?_, ?_⟩, hF⟩, Tch.of_turned ht (hF m (.inr (.inl rfl)))⟩
  · rw [hs.1]; exact t1.own h.notes (fun g hg e => h.ne_n.2.1 (by rw [← e]; exact hg))
  · rw [hs.2]; exact t1.own h.begins (fun g hg e => h.ne_b.2 (by rw [← e]; exact hg))

theorem Turned.step {w w1 w2 : World} {F F' : Nat → Prop} {b : Nat} {s' : St} (t1 : Tch F w w1) (hF : ∀ k, F' k → F k ∨ w.heap.size ≤ k) (h : BookAt w2 F' b s') (t2 : Tch F' w1 w2) : Turned w w2 F b s' :=
  ⟨F', h, t1.trans' t2 hF, hF⟩

set_option maxRecDepth 100000 in
set_option maxHeartbeats 400000 in
theorem set_any {b : Nat} {F : Nat → Prop} {s : St} {k v : Int} {w : World} (hB : BookAt w F b s) (hk : wfi k) (hv : wfi v) (hn : s.notes.length ≤ 1000000) (hl : s.kv.length ≤ 1000000) :
    Calls Try.prog 41 #[.pointer (some ⟨b, 0, none⟩), .int .i64 k, .int .i64 v] w fun e w' => e = .returned (.int .i64 0) ∧ Turned w w' F b (s.set k v) := by
  obtain ⟨m, nv, bv, h, hF⟩ := id hB
  have h0 := h.blk.cell 0
  go_enter Try.func41, Try.ntmps41
  go_wp2_with (first | (go_at_call 49; refine (made_any h0).mono ?_; rintro e w' ⟨rfl, rfl⟩) | (go_at_call 57; refine (note_any hB hk hn).mono ?_; rintro e w1 ⟨rfl, F1, ⟨m1, nv1, bv1, hb1, hF1⟩, ht1, hf1⟩; have c0 := hb1.blk.cell 0) | (at_mapUpdate; refine wpList_kv_put rfl _ _ _ rfl Try.underlying3 Try.underlying77 (by rfl) (by rfl) (by rfl) hb1.map (by rw [note_kv]; unfold maxLen; omega) hk hv ?_; intro w2 hm2 ht2))
  go_ret
  obtain ⟨r1, r2⟩ := hb1.mapped (s' := s.set k v) ⟨rfl, rfl⟩ (by rw [note_kv] at hm2; exact hm2) ht2 hF1
  exact ⟨rfl, Turned.step ht1 hf1 r1 r2⟩

set_option maxRecDepth 100000 in
set_option maxHeartbeats 400000 in
theorem drop_any {b : Nat} {F : Nat → Prop} {s : St} {k : Int} {w : World} (hB : BookAt w F b s) (hk : wfi k) (hn : s.notes.length ≤ 1000000) :
    Calls Try.prog 42 #[.pointer (some ⟨b, 0, none⟩), .int .i64 k] w fun e w' => (e = .returned (.int .i64 (if (kget s.kv k).isSome then 0 else 35))) ∧ Turned w w' F b (if (kget s.kv k).isSome then s.drop k else s) := by
  obtain ⟨m, nv, bv, h, hF⟩ := id hB
  have h0 := h.blk.cell 0
  have hlk := (h.map.run_look Try.underlying3 Try.underlying77 (zeroInt w) hk).1
  by_cases hs : (kget s.kv k).isSome = true
  · rw [if_pos hs, if_pos hs]
    go_enter Try.func42, Try.ntmps42
    go_wp2_with (first | (go_at_call 49; refine (made_any h0).mono ?_; rintro e w' ⟨rfl, rfl⟩) | (go_at_call 57; refine (note_any hB hk hn).mono ?_; rintro e w1 ⟨rfl, F1, ⟨m1, nv1, bv1, hb1, hF1⟩, ht1, hf1⟩; have c0 := hb1.blk.cell 0) | (at_delete; refine wpList_kv_del rfl _ _ rfl Try.underlying3 Try.underlying77 (by rfl) (by rfl) hb1.map hk ?_; intro w2 hm2 ht2))
    go_ret
    obtain ⟨r1, r2⟩ := hb1.mapped (s' := s.drop k) ⟨rfl, rfl⟩ (by rw [note_kv] at hm2; exact hm2) ht2 hF1
    exact ⟨rfl, Turned.step ht1 hf1 r1 r2⟩
  · have hs' : (kget s.kv k).isSome = false := by simpa using hs
    rw [if_neg hs, if_neg hs]
    clear hs
    go_enter Try.func42, Try.ntmps42
    go_wp2_with (first | (go_at_call 49; refine (made_any h0).mono ?_; rintro e w' ⟨rfl, rfl⟩))
    go_ret
    exact ⟨rfl, Turned.refl hB⟩

def St.begin (s : St) : St := { s with begins := s.begins ++ [s.notes.length] }

/-- The beginnings' row has turned, and the book's field with it. -/
theorem BookIs.begun {w w1 : World} {b m : Nat} {nv bv bv' : Value} {s s' : St} (h : BookIs w b m nv bv s) (hkv : s'.kv = s.kv) (hnt : s'.notes = s.notes) (ho : w1.ownsRow 0 3 1 bv' s'.begins.length (s'.begins.map fun n : Nat => .int .i64 (n : Int)))
    (hg : w.grownBy w1 bv.ownBlock) (hl : ∀ g, bv'.ownBlock = some g → bv.ownBlock = some g ∨ w.heap.size ≤ g) {F : Nat → Prop} (hF : ∀ k, foot b m nv bv k → F k) :
    Turned w (w1.setCell ⟨b, 2, none⟩ bv') F b s' := by
  have t1 : Tch (fun k => bv.ownBlock = some k) w w1 := Tch.grown hg fun k hk => .inl hk
  have hb1 := h.blk.keep t1 (by simpa using h.ne_b.1)
  have hbs := hb1.set_ 2 bv'
  have hw : Tch F w w1 := Tch.grown hg fun k hk => .inl (hF k (.inr (.inr (.inr hk))))
  have hbne : bv'.ownBlock ≠ some b := fun e => by
    rcases hl b e with h1 | h1
    · exact h.ne_b.1 h1
    · have := h.blk.lt; omega
  refine ⟨foot b m nv bv', ⟨m, nv, bv', ⟨by simpa using hbs, ?_, ?_, ?_⟩, fun _ h => h⟩, hw.trans (Tch.setCell _ (.inl (hF b (.inl rfl))) _), fun k hk => ?_⟩
  · rw [hkv]
    exact (h.map.keep t1 h.ne_b.2).keep (Tch.setCell (F := fun k => k = b) _ (.inl rfl) _) (Ne.symm h.ne_m)
  · rw [hnt]
    exact (Tch.setCell (F := fun k => k = b) _ (.inl rfl) _).own (t1.own h.notes (fun g hg' e => h.ne_n.2.2 g hg' e)) (fun g hg' e => h.ne_n.1 (by rw [← e]; exact hg'))
  · exact (Tch.setCell (F := fun k => k = b) _ (.inl rfl) _).own ho (fun g hg' e => hbne (by rw [← e]; exact hg'))
  · rcases hk with rfl | rfl | hk | hk
    · exact .inl (hF _ (.inl rfl))
    · exact .inl (hF _ (.inr (.inl rfl)))
    · exact .inl (hF _ (.inr (.inr (.inl hk))))
    · rcases hl k hk with h1 | h1
      · exact .inl (hF _ (.inr (.inr (.inr h1))))
      · exact .inr h1

set_option maxRecDepth 100000 in
set_option maxHeartbeats 400000 in
theorem begin_any {b : Nat} {F : Nat → Prop} {s : St} {w : World} (hB : BookAt w F b s) (_hn : s.notes.length ≤ 1000000) :
    Calls Try.prog 28 #[.pointer (some ⟨b, 0, none⟩)] w fun e w' => e = .returned (.int .i64 (if 64 ≤ s.begins.length then 3 else 0)) ∧ Turned w w' F b (if 64 ≤ s.begins.length then s else s.begin) := by
  obtain ⟨m, nv, bv, h, hF⟩ := id hB
  have h0 := h.blk.cell 0
  have h1 := h.blk.cell 1
  have h2 := h.blk.cell 2
  obtain ⟨A, c, rfl, _, _, _⟩ := own_form h.begins
  obtain ⟨A', c', rfl, _, _, _⟩ := own_form h.notes
  by_cases hs : 64 ≤ s.begins.length
  · rw [if_pos hs, if_pos hs]
    have hs' : (64 : Int) ≤ (s.begins.length : Int) := by omega
    clear hs
    go_enter Try.func28, Try.ntmps28
    go_wp2_with (first | (go_at_call 49; refine (made_any h0).mono ?_; rintro e w' ⟨rfl, rfl⟩))
    go_ret
    exact ⟨rfl, Turned.refl hB⟩
  · rw [if_neg hs, if_neg hs]
    have hs' : (s.begins.length : Int) < 64 := by omega
    clear hs
    go_enter Try.func28, Try.ntmps28
    go_wp2_with (first | (go_at_call 49; refine (made_any h0).mono ?_; rintro e w' ⟨rfl, rfl⟩))
    obtain ⟨V, hV⟩ : ∃ V : Value → World → Prop, V = fun v w' => ∃ g, v = .slice (some ⟨g, 0, none⟩) 1 1 ∧ w.heap.size ≤ g ∧ w'.cell? ⟨g, 0, none⟩ = some (.int .i64 s.notes.length) := ⟨_, rfl⟩
    have HV := Hid.out (p := Hid (V = _)) hV
    clear hV
    refine wp_region_touch (fun _ => False) [0] 11 [(10, .inr V)] [] (by kernel_rfl) rfl (by kernel_rfl) rfl (fun d _ _ _ _ h => by cases d <;> exact h) ?_ ?_
    · rw [HV.out]
      exact ⟨fun v a b' hr ⟨g, h1, h2, h3⟩ => ⟨g, h1, h2, hr.cell_some h3 id⟩, trivial⟩
    · intro bef ops hbef hops
      clear hbef hops
      have c1 : ∀ b' L (p : Within (Tch fun _ => False) w.drew b' L), p.w.cell? ⟨b, 1, none⟩ = some (.slice A' s.notes.length c') := fun b' L p => p.hr.cell_some (by exact h1) id
      have c2 : ∀ b' L (p : Within (Tch fun _ => False) w.drew b' L), p.w.cell? ⟨b, 2, none⟩ = some (.slice A s.begins.length c) := fun b' L p => p.hr.cell_some (by exact h2) id
      simp only [List.take_succ_cons, List.take_zero, List.drop_succ_cons, List.drop_zero]
      iterate 10 (refine t_det (by rfl) (by rfl) (by rfl) (by rfl) (fun K hK => ?_); go_big_quiet_op; (first | refine hK _ ?_ | refine ⟨_, fun _ => rfl, hK _ ?_⟩); clear hK K)
      refine t_loose (by rfl) (by rfl) (fun w1 hr hf => ?_) (fun v => ?_)
      · refine yields_of_wp (d := 24) rfl (by simp) (fun K hK => ?_)
        have hs := hr.size
        go_step
        refine hK _ _ ⟨⟨?_, Tch.alloc _ _ _⟩, newAt_no⟩
        rw [HV.out]
        exact ⟨_, rfl, hs, (Blk.new w1 _ _).cell 0⟩
      · refine t_nil ?_
        intro w1 hr hp hap
        have hv := hp _ (List.mem_singleton.2 rfl)
        dsimp only at hv
        rw [HV.out] at hv
        obtain ⟨g, rfl, hg, hc⟩ := hv
        clear hap HV c1 c2 hp
        simp only [Act.put, List.setIfInBounds_toArray, List.set_cons_succ, List.set_cons_zero]
        have hw1 : Tch (fun _ => False) w w1 := (Tch.drew _ w).trans hr
        have hb1 := h.keep hw1 (fun _ _ h => h)
        go_wp2_with (at_builtin; refine wpList_append _ rfl _ _ 41 rfl rowInts hb1.begins (by rfl) (Src.one (news := [.int .i64 s.notes.length]) rfl (fun j u hu => by match j, hu with | 0, hu => simp at hu; subst hu; exact hc)) (by rfl) (by simp; rfl) (by unfold maxLen; omega) (by omega) ?_; intro bv' w2 ho hg2 hll; obtain ⟨A2, c2, rfl, _, _, _⟩ := own_form ho; have hc1 := hb1.after_begins hg2)
        go_ret
        obtain ⟨F', r1, r2, r3⟩ := hb1.begun (s' := s.begin) rfl rfl (by simpa [St.begin] using ho) hg2 hll hF
        exact ⟨rfl, F', r1, (Exn.touch hw1).trans r2, fun k hk => (r3 k hk).imp id (fun h => Nat.le_trans hw1.size h)⟩

/-- The last beginning is ended. -/
def St.ended (s : St) : St := { s with begins := s.begins.dropLast }

theorem begins_at {w : World} {A : Option Addr} {c : Nat} {l : List Nat} (h : w.ownsRow 0 3 1 (.slice A l.length c) l.length (l.map fun n : Nat => .int .i64 (n : Int))) (hn : 0 < l.length) :
    ∃ g, A = some ⟨g, 0, none⟩ ∧ w.cell? ⟨g, l.length - 1, none⟩ = some (.int .i64 (l.getLast?.getD 0)) := by
  obtain ⟨g, cc, hv⟩ := own_block h hn
  have hv' := hv
  injection hv with e1
  subst e1
  refine ⟨g, rfl, own_cell h (g := g) rfl ?_⟩
  rw [List.getLast?_eq_getElem?, List.getElem?_map]
  have : l.length - 1 < l.length := by omega
  simp [this]

set_option maxRecDepth 100000 in
set_option maxHeartbeats 400000 in
theorem end_any {b : Nat} {F : Nat → Prop} {s : St} {w : World} (hB : BookAt w F b s) :
    Calls Try.prog 50 #[.pointer (some ⟨b, 0, none⟩)] w fun e w' => e = .returned (.tuple #[.int .i64 (if s.begins = [] then 0 else (s.begins.getLast?.getD 0 : Nat)), .int .i64 (if s.begins = [] then 2 else 0)]) ∧ Turned w w' F b (if s.begins = [] then s else s.ended) := by
  obtain ⟨m, nv, bv, h, hF⟩ := id hB
  have h0 := h.blk.cell 0
  have h2 := h.blk.cell 2
  have f2 := h.blk.frozen 2
  obtain ⟨A, c, rfl, hc1, hc2, _⟩ := own_form h.begins
  by_cases hs : s.begins = []
  · rw [if_pos hs, if_pos hs, if_pos hs]
    have hl : ((s.begins.length : Int) == 0) = true := by simp [hs]
    clear hs
    go_enter Try.func50, Try.ntmps50
    go_wp2_with (first | (go_at_call 49; refine (made_any h0).mono ?_; rintro e w' ⟨rfl, rfl⟩))
    go_ret2
    exact ⟨rfl, Turned.refl hB⟩
  · rw [if_neg hs, if_neg hs, if_neg hs]
    have hn : 0 < s.begins.length := List.length_pos_iff.2 hs
    have hl : ((s.begins.length : Int) == 0) = false := by simp; omega
    obtain ⟨g, rfl, hcell⟩ := begins_at h.begins hn
    have hm : s.begins.length ≤ 9223372036854775807 := by unfold maxLen at hc2; omega
    obtain ⟨n, hnn⟩ : ∃ n, s.begins.length = n + 1 := ⟨s.begins.length - 1, by omega⟩
    have hown := own_take h.begins (k := n) (by omega)
    clear hs
    rw [hnn] at h2 hcell hl hc1 hm
    unfold maxLen at hc2
    have HN := Hid.out (p := Hid (s.begins.length = n + 1)) hnn
    clear hnn hn
    simp only [Nat.add_sub_cancel] at hcell
    go_enter Try.func50, Try.ntmps50
    go_wp2_with (first | (go_at_call 49; refine (made_any h0).mono ?_; rintro e w' ⟨rfl, rfl⟩))
    go_ret2
    refine ⟨rfl, h.begun (bv' := .slice (some ⟨g, 0, none⟩) n c) (s' := s.ended) rfl rfl ?_ (World.grownBy.refl _ _) (fun g hg => .inl hg) hF⟩
    have e1 : s.ended.begins = s.begins.take n := by simp only [St.ended]; rw [List.dropLast_eq_take, HN.out]; rfl
    have e2 : (s.begins.take n).length = n := by rw [List.length_take, HN.out]; omega
    rw [e1, e2, List.map_take]
    simpa using hown

set_option maxRecDepth 100000 in
set_option maxHeartbeats 400000 in
theorem keep_any {b : Nat} {F : Nat → Prop} {s : St} {w : World} (hB : BookAt w F b s) :
    Calls Try.prog 31 #[.pointer (some ⟨b, 0, none⟩)] w fun e w' => e = .returned (.int .i64 (if s.begins = [] then 2 else 0)) ∧ Turned w w' F b (if s.begins = [] then s else if s.begins.dropLast = [] then { s.ended with notes := [] } else s.ended) := by
  by_cases hs : s.begins = []
  · have hE := end_any hB
    simp only [if_pos hs] at hE ⊢
    clear hs
    go_enter Try.func31, Try.ntmps31
    go_wp2_with (first | (go_at_call 50; refine hE.mono ?_; rintro e w1 ⟨rfl, ht⟩))
    go_ret
    exact ⟨rfl, ht⟩
  · have hE := end_any hB
    simp only [if_neg hs] at hE ⊢
    clear hs
    by_cases hd : s.begins.dropLast = []
    · simp only [if_pos hd]
      have hl : (((s.ended.begins.length : Nat) : Int) == 0) = true := by simp [St.ended, hd]
      clear hd
      go_enter Try.func31, Try.ntmps31
      go_wp2_with (first | (go_at_call 50; refine hE.mono ?_; rintro e w1 ⟨rfl, F1, ⟨m1, nv1, bv1, hb1, hF1⟩, ht1, hf1⟩; have c2 := hb1.blk.cell 2; have c1 := hb1.blk.cell 1; have f1 := hb1.blk.frozen 1; obtain ⟨A1, cc1, rfl, _, _, _⟩ := own_form hb1.begins))
      go_ret
      obtain ⟨F', r1, r2, r3⟩ := hb1.noted (s' := { s.ended with notes := [] }) rfl rfl (World.ownsRow_nil _ _ _ _) (World.grownBy.refl _ _) (fun g hg => by cases hg) hF1
      exact ⟨rfl, F', r1, ht1.trans' r2 hf1, fun k hk => by rcases r3 k hk with h | h; exact hf1 k h; exact .inr (Nat.le_trans ht1.size h)⟩
    · simp only [if_neg hd]
      have hl : (((s.ended.begins.length : Nat) : Int) == 0) = false := by
        have := List.length_pos_iff.2 hd
        simp [St.ended] at this ⊢
        omega
      clear hd
      go_enter Try.func31, Try.ntmps31
      go_wp2_with (first | (go_at_call 50; refine hE.mono ?_; rintro e w1 ⟨rfl, F1, ⟨m1, nv1, bv1, hb1, hF1⟩, ht1, hf1⟩; have c2 := hb1.blk.cell 2; have c1 := hb1.blk.cell 1; have f1 := hb1.blk.frozen 1; obtain ⟨A1, cc1, rfl, _, _, _⟩ := own_form hb1.begins))
      go_ret
      exact ⟨rfl, F1, ⟨m1, nv1, _, hb1, hF1⟩, ht1, hf1⟩


def undo1 (kv : KV) (n : Note) : KV := if n.2.2 then kput kv n.1 n.2.1 else kdel kv n.1
/-- The notes from j on are taken back, the last one first. -/
def undoTo (notes : List Note) (kv : KV) (j : Nat) : KV := (notes.drop j).foldr (fun n kv => undo1 kv n) kv
theorem undoTo_step (notes : List Note) (kv : KV) {j : Nat} (h : j < notes.length) : undoTo notes kv j = undo1 (undoTo notes kv (j + 1)) notes[j] := by
  unfold undoTo
  rw [List.drop_eq_getElem_cons h]
  rfl
theorem undoTo_end (notes : List Note) (kv : KV) : undoTo notes kv notes.length = kv := by simp [undoTo]
theorem kput_len (l : KV) (k v : Int) : (kput l k v).length ≤ l.length + 1 := by
  have : ∀ l : KV, (kdel l k).length ≤ l.length := fun l => by
    induction l with
    | nil => simp [kdel]
    | cons p r ih => obtain ⟨a, u⟩ := p; simp only [kdel]; split <;> simp <;> omega
  have := this l
  simp [kput]; omega
theorem kdel_len (l : KV) (k : Int) : (kdel l k).length ≤ l.length := by
  induction l with
  | nil => simp [kdel]
  | cons p r ih => obtain ⟨a, u⟩ := p; simp only [kdel]; split <;> simp <;> omega
theorem undoTo_len' (notes : List Note) (kv : KV) (j : Nat) : (undoTo notes kv j).length ≤ kv.length + (notes.length - j) := by
  have : ∀ l : List Note, (l.foldr (fun n kv => undo1 kv n) kv).length ≤ kv.length + l.length := fun l => by
    induction l with
    | nil => simp
    | cons n r ih =>
      simp only [List.foldr_cons, List.length_cons]
      generalize r.foldr (fun n kv => undo1 kv n) kv = q at *
      unfold undo1
      split
      · have := kput_len q n.1 n.2.1; omega
      · have := kdel_len q n.1; omega
  have h1 := this (notes.drop j)
  rw [List.length_drop] at h1
  exact h1
theorem undoTo_len (notes : List Note) (kv : KV) (j : Nat) : (undoTo notes kv j).length ≤ kv.length + notes.length := by
  have := undoTo_len' notes kv j
  omega

def St.back (s : St) : St := let at_ := s.begins.getLast?.getD 0; { kv := undoTo s.notes s.kv at_, notes := s.notes.take at_, begins := s.begins.dropLast }

set_option maxRecDepth 100000 in
set_option maxHeartbeats 1000000 in
theorem back_any {b : Nat} {F : Nat → Prop} {s : St} {w : World} (hB : BookAt w F b s) (hok : s.Ok) (hn : s.kv.length + s.notes.length ≤ 1000000) :
    Calls Try.prog 29 #[.pointer (some ⟨b, 0, none⟩)] w fun e w' => e = .returned (.int .i64 (if s.begins = [] then 2 else 0)) ∧ Turned w w' F b (if s.begins = [] then s else s.back) := by
  by_cases hs : s.begins = []
  · have hE := end_any hB
    simp only [if_pos hs] at hE ⊢
    clear hs
    go_enter Try.func29, Try.ntmps29
    go_wp2_with (first | (go_at_call 50; refine hE.mono ?_; rintro e w1 ⟨rfl, ht⟩))
    go_ret
    exact ⟨rfl, ht⟩
  · have hE := end_any hB
    simp only [if_neg hs] at hE ⊢
    have hat : s.begins.getLast?.getD 0 ≤ s.notes.length := by
      obtain ⟨x, hx⟩ : ∃ x, s.begins.getLast? = some x := by
        cases hl : s.begins.getLast? with
        | none => rw [List.getLast?_eq_none_iff] at hl; exact absurd hl hs
        | some x => exact ⟨x, rfl⟩
      rw [hx]
      exact hok.beg x (List.mem_of_getLast? hx)
    obtain ⟨at_, hat_⟩ : ∃ at_, at_ = s.begins.getLast?.getD 0 := ⟨_, rfl⟩
    rw [← hat_] at hE hat
    have hback : s.back = { kv := undoTo s.notes s.kv at_, notes := s.notes.take at_, begins := s.begins.dropLast } := by rw [St.back, ← hat_]
    rw [hback]
    have hE' : Calls Try.prog 50 #[.pointer (some ⟨b, 0, none⟩)] w fun e w' => e = .returned (.tuple #[.int .i64 at_, .int .i64 0]) ∧ Turned w w' F b ⟨s.kv, s.notes, s.begins.dropLast⟩ := hE
    have hnl : s.notes.length ≤ 1000000 := by omega
    clear hs hback hat_ hE
    go_enter Try.func29, Try.ntmps29
    go_wp2_with (first | (go_at_call 50; refine hE'.mono ?_; rintro e w1 ⟨rfl, F1, ⟨m1, nv1, bv1, hb1, hF1⟩, ht1, hf1⟩; have c1 := hb1.blk.cell 1; obtain ⟨A1, cc1, rfl, _, _, _⟩ := own_form hb1.notes))
    go_loopw [5] (fun i wr => ∃ j : Nat, at_ ≤ j ∧ j ≤ s.notes.length ∧ i = .int .i64 ((j : Int) - 1) ∧ BookIs wr b m1 (.slice A1 s.notes.length cc1) bv1 ⟨undoTo s.notes s.kv j, s.notes, s.begins.dropLast⟩ ∧ Tch F1 w1 wr) (fun i _ => (intOf i + 1).toNat)
    case atStart => exact ⟨s.notes.length, hat, Nat.le_refl _, by go_num, by rw [undoTo_end]; exact hb1, Tch.refl _ _⟩
    case round =>
      obtain ⟨j, hj1, hj2, rfl, hb, ht⟩ := hrel
      have r0 := hb.blk.cell 0
      have r1 := hb.blk.cell 1
      clear c1 hb1
      by_cases hlt : at_ < j
      · obtain ⟨j', rfl⟩ : ∃ j', j = j' + 1 := ⟨j - 1, by omega⟩
        obtain ⟨g, rfl⟩ := own_head hb.notes (by show 0 < s.notes.length; omega)
        have hfl := flatN_at s.notes j' (by omega)
        obtain ⟨n, hn⟩ : ∃ n, n = s.notes[j'] := ⟨_, rfl⟩
        rw [← hn] at hfl
        have q0 := own_cell hb.notes (g := g) rfl hfl.1
        have q1 := own_cell hb.notes (g := g) rfl hfl.2.1
        have q2 := own_cell hb.notes (g := g) rfl hfl.2.2
        have HN := Hid.out (p := Hid (n = _)) hn
        clear hn hfl
        have hbW := hb.keep (Tch.alloc (fun _ => False) wr (.cells #[.int .i64 n.1, .int .i64 n.2.1, .bool n.2.2] 93)) (fun _ _ h => h)
        have hnW := Blk.new wr 93 #[.int .i64 n.1, .int .i64 n.2.1, .bool n.2.2]
        have htW := ht.trans (Tch.alloc F1 wr (.cells #[.int .i64 n.1, .int .i64 n.2.1, .bool n.2.2] 93))
        have hwf : wfi n.1 ∧ wfi n.2.1 := by rw [HN.out]; exact hok.notes _ (List.getElem_mem _)
        have hlen := undoTo_len s.notes s.kv (j' + 1)
        have hstep : undoTo s.notes s.kv j' = undo1 (undoTo s.notes s.kv (j' + 1)) n := by rw [HN.out]; exact undoTo_step _ _ _
        have HS := Hid.out (p := Hid (undoTo s.notes s.kv j' = _)) hstep
        clear hstep
        by_cases hi : n.2.2 = true
        · have hu : undo1 (undoTo s.notes s.kv (j' + 1)) n = kput (undoTo s.notes s.kv (j' + 1)) n.1 n.2.1 := by rw [undo1, if_pos hi]
          have HU := Hid.out (p := Hid (undo1 _ _ = _)) hu
          clear hu
          rw [hi] at q2 hbW hnW htW
          clear hi
          go_wp2_with fail
          obtain ⟨W, hW⟩ : ∃ W, W = wr.alloc (.cells #[.int .i64 n.1, .int .i64 n.2.1, .bool true] 93) := ⟨_, rfl⟩
          rw [← hW] at hbW hnW htW ⊢
          obtain ⟨z, hz⟩ : ∃ z, z = wr.heap.size := ⟨_, rfl⟩
          rw [← hz] at hnW ⊢
          clear q0 q1 q2 r0 r1 hW hz hb ht
          have x0 := within_cell (F := fun _ => False) (hbW.blk.cell 0) id
          have x1 := within_cell (F := fun _ => False) (hnW.cell 0) id
          have x2 := within_cell (F := fun _ => False) (hnW.cell 1) id
          refine wp_region_touch (fun _ => False) [] 8 [] [] (by kernel_rfl) rfl (by kernel_rfl) rfl (fun d _ _ _ _ h => by cases d <;> exact h) trivial ?_
          intro bef ops hbef hops
          clear hbef hops
          simp only [List.take_succ_cons, List.take_zero, List.drop_succ_cons, List.drop_zero]
          iterate 8 (refine t_det (by rfl) (by rfl) (by rfl) (by rfl) (fun K hK => ?_); go_big_quiet_op; (first | refine hK _ ?_ | refine ⟨_, fun _ => rfl, hK _ ?_⟩); clear hK K)
          refine t_nil ?_
          intro w2 hr hp hap
          clear hap hp x0 x1 x2
          have hw2 : Tch (fun _ => False) W w2 := (Tch.drew _ W).trans hr
          have hb2 := hbW.keep hw2 (fun _ _ h => h)
          have hm2 : KvMap Try.prog 3 w2 m1 (undoTo s.notes s.kv (j' + 1)) := hb2.map
          have hml : (undoTo s.notes s.kv (j' + 1)).length < maxLen := by unfold maxLen; omega
          go_wp2_with (at_mapUpdate; refine wpList_kv_put rfl _ _ _ rfl Try.underlying3 Try.underlying77 (by rfl) (by rfl) (by rfl) hm2 hml hwf.1 hwf.2 ?_; intro w3 hm3 ht3)
          go_roundw
          case rel =>
            exact ⟨j', by omega, by omega, rfl, hb2.mappedIs (s' := ⟨undoTo s.notes s.kv j', s.notes, s.begins.dropLast⟩) ⟨rfl, rfl⟩ (by rw [HS.out, HU.out]; exact hm3) ht3, htW.trans ((Exn.touch hw2).trans (Tch.of_turned ht3 (hF1 _ (.inr (.inl rfl)))))⟩
          case measure => simp [intOf]
        · have hu : undo1 (undoTo s.notes s.kv (j' + 1)) n = kdel (undoTo s.notes s.kv (j' + 1)) n.1 := by rw [undo1, if_neg hi]
          have HU := Hid.out (p := Hid (undo1 _ _ = _)) hu
          have hi' : n.2.2 = false := by simpa using hi
          clear hu hi
          rw [hi'] at q2 hbW hnW htW
          clear hi'
          go_wp2_with fail
          obtain ⟨W, hW⟩ : ∃ W, W = wr.alloc (.cells #[.int .i64 n.1, .int .i64 n.2.1, .bool false] 93) := ⟨_, rfl⟩
          rw [← hW] at hbW hnW htW ⊢
          obtain ⟨z, hz⟩ : ∃ z, z = wr.heap.size := ⟨_, rfl⟩
          rw [← hz] at hnW ⊢
          clear q0 q1 q2 r0 r1 hW hz hb ht
          have x0 := within_cell (F := fun _ => False) (hbW.blk.cell 0) id
          have x1 := within_cell (F := fun _ => False) (hnW.cell 0) id
          refine wp_region_touch (fun _ => False) [] 6 [] [] (by kernel_rfl) rfl (by kernel_rfl) rfl (fun d _ _ _ _ h => by cases d <;> exact h) trivial ?_
          intro bef ops hbef hops
          clear hbef hops
          simp only [List.take_succ_cons, List.take_zero, List.drop_succ_cons, List.drop_zero]
          iterate 6 (refine t_det (by rfl) (by rfl) (by rfl) (by rfl) (fun K hK => ?_); go_big_quiet_op; (first | refine hK _ ?_ | refine ⟨_, fun _ => rfl, hK _ ?_⟩); clear hK K)
          refine t_nil ?_
          intro w2 hr hp hap
          clear hap hp x0 x1
          have hw2 : Tch (fun _ => False) W w2 := (Tch.drew _ W).trans hr
          have hb2 := hbW.keep hw2 (fun _ _ h => h)
          have hm2 : KvMap Try.prog 3 w2 m1 (undoTo s.notes s.kv (j' + 1)) := hb2.map
          go_wp2_with (at_delete; refine wpList_kv_del rfl _ _ rfl Try.underlying3 Try.underlying77 (by rfl) (by rfl) hm2 hwf.1 ?_; intro w3 hm3 ht3)
          go_roundw
          case rel =>
            exact ⟨j', by omega, by omega, rfl, hb2.mappedIs (s' := ⟨undoTo s.notes s.kv j', s.notes, s.begins.dropLast⟩) ⟨rfl, rfl⟩ (by rw [HS.out, HU.out]; exact hm3) ht3, htW.trans ((Exn.touch hw2).trans (Tch.of_turned ht3 (hF1 _ (.inr (.inl rfl)))))⟩
          case measure => simp [intOf]
      · obtain rfl : at_ = j := by omega
        have f1 := hb.blk.frozen 1
        have hcc : cc1 ≤ 9223372036854775807 := by unfold maxLen at *; omega
        have hown := own_take hb.notes (k := at_) hat
        clear hlt
        go_wp2
        go_ret
        have hown' : wr.ownsRow 0 93 3 (.slice A1 at_ cc1) (s.notes.take at_).length ((s.notes.take at_).flatMap flatN) := by
          have e1 : (s.notes.take at_).length = at_ := by rw [List.length_take]; exact Nat.min_eq_left hat
          have e2 : (s.notes.take at_).flatMap flatN = (s.notes.flatMap flatN).take (at_ * 3) := by
            have h1 : s.notes.flatMap flatN = (s.notes.take at_).flatMap flatN ++ (s.notes.drop at_).flatMap flatN := by rw [← List.flatMap_append, List.take_append_drop]
            rw [h1, List.take_left' (by rw [flatN_len, e1])]
          rw [e1, e2]
          exact hown
        obtain ⟨F', r1, r2, r3⟩ := hb.noted (nv' := .slice A1 at_ cc1) (s' := ⟨undoTo s.notes s.kv at_, s.notes.take at_, s.begins.dropLast⟩) rfl rfl hown' (World.grownBy.refl _ _) (fun g hg => .inl (by cases A1 <;> exact hg)) hF1
        exact ⟨rfl, F', r1, (ht1.trans' ht hf1).trans' r2 hf1, fun k hk => (r3 k hk).elim (fun h => hf1 k h) (fun h => .inr (Nat.le_trans (Nat.le_trans ht1.size ht.size) h))⟩

set_option maxRecDepth 100000 in
set_option maxHeartbeats 400000 in
theorem new_any (w : World) : Calls Try.prog 20 #[] w fun e w' => ∃ b F, e = .returned (.pointer (some ⟨b, 0, none⟩)) ∧ BookAt w' F b ⟨[], [], []⟩ ∧ Tch (fun _ => False) w w' ∧ ∀ k, F k → w.heap.size ≤ k := by
  have hmm := @run_makeMap Try.prog
  go_enter Try.func20, Try.ntmps20
  go_wp2
  go_ret
  refine ⟨w.heap.size + 1, foot (w.heap.size + 1) w.heap.size (.slice none 0 0) (.slice none 0 0), rfl, ⟨_, _, _, ⟨?_, ?_, World.ownsRow_nil _ _ _ _, World.ownsRow_nil _ _ _ _⟩, fun _ h => h⟩, (Tch.alloc _ _ _).trans (Tch.alloc _ _ _), fun k hk => ?_⟩
  · have := Blk.new (w.alloc (.map #[] 0)) 80 #[.map (some w.heap.size), .slice none 0 0, .slice none 0 0]
    simpa using this
  · exact (KvMap.made (P := Try.prog) (ti := 3) (w := w)).keep (Tch.alloc (fun _ => False) _ _) id
  · rcases hk with rfl | rfl | hk | hk
    · omega
    · omega
    · cases hk
    · cases hk

end Go.Proofs.Ytnknemepfjfcfaa
