/-
  Plain theorems over whatever program: a map from int to int, told as a list of pairs with one pair a key. No program in sight.
-/
import Derived.Test.YtnknemepfjfcfaaGl
namespace Go.Gk
open Go Go.RowKit Go.Maps

abbrev KV := List (Int × Int)
def kget : KV → Int → Option Int
  | [], _ => none
  | (a, v) :: r, k => if a = k then some v else kget r k
def kdel : KV → Int → KV
  | [], _ => []
  | (a, v) :: r, k => if a = k then kdel r k else (a, v) :: kdel r k
def kput (l : KV) (k v : Int) : KV := kdel l k ++ [(k, v)]
def Uniq (l : KV) : Prop := (l.map (·.1)).Nodup

theorem kget_append (l m : KV) (k : Int) : kget (l ++ m) k = (kget l k).or (kget m k) := by
  induction l with
  | nil => simp [kget]
  | cons p r ih => obtain ⟨a, v⟩ := p; simp only [List.cons_append, kget]; split <;> simp [ih]
theorem kget_del_same (l : KV) (k : Int) : kget (kdel l k) k = none := by
  induction l with
  | nil => rfl
  | cons p r ih => obtain ⟨a, v⟩ := p; simp only [kdel]; split <;> simp_all [kget]
theorem kget_del_other (l : KV) {k j : Int} (h : j ≠ k) : kget (kdel l k) j = kget l j := by
  induction l with
  | nil => rfl
  | cons p r ih =>
    obtain ⟨a, v⟩ := p
    simp only [kdel, kget]
    by_cases ha : a = k
    · have : a ≠ j := fun e => h (e.symm.trans ha)
      rw [if_pos ha, if_neg this, ih]
    · rw [if_neg ha]
      simp only [kget, ih]
theorem kget_put_same (l : KV) (k v : Int) : kget (kput l k v) k = some v := by simp [kput, kget_append, kget_del_same, kget]
theorem kget_put_other (l : KV) {k j : Int} (v : Int) (h : j ≠ k) : kget (kput l k v) j = kget l j := by simp [kput, kget_append, kget_del_other l h, kget, Ne.symm h]
theorem mem_del {l : KV} {k : Int} {p : Int × Int} : p ∈ kdel l k ↔ p ∈ l ∧ p.1 ≠ k := by
  induction l with
  | nil => simp [kdel]
  | cons q r ih =>
    obtain ⟨a, v⟩ := q
    simp only [kdel]
    split
    · rename_i h; rw [ih]; constructor
      · rintro ⟨h1, h2⟩; exact ⟨by simp [h1], h2⟩
      · rintro ⟨h1, h2⟩
        rcases List.mem_cons.1 h1 with rfl | h1
        · exact absurd h h2
        · exact ⟨h1, h2⟩
    · rename_i h
      simp only [List.mem_cons, ih]
      constructor
      · rintro (rfl | ⟨h1, h2⟩)
        · exact ⟨.inl rfl, h⟩
        · exact ⟨.inr h1, h2⟩
      · rintro ⟨rfl | h1, h2⟩
        · exact .inl rfl
        · exact .inr ⟨h1, h2⟩
theorem uniq_del {l : KV} (h : Uniq l) (k : Int) : Uniq (kdel l k) := by
  unfold Uniq at *
  induction l with
  | nil => exact h
  | cons q r ih =>
    obtain ⟨a, v⟩ := q
    simp only [List.map_cons, List.nodup_cons] at h
    simp only [kdel]
    split
    · exact ih h.2
    · simp only [List.map_cons, List.nodup_cons]
      refine ⟨fun hm => h.1 ?_, ih h.2⟩
      obtain ⟨p, hp, e⟩ := List.mem_map.1 hm
      exact List.mem_map.2 ⟨p, (mem_del.1 hp).1, e⟩
theorem uniq_put {l : KV} (h : Uniq l) (k v : Int) : Uniq (kput l k v) := by
  have h1 := uniq_del h k
  unfold Uniq kput at *
  rw [List.map_append, List.nodup_append]
  refine ⟨h1, by simp, fun a ha b hb => ?_⟩
  obtain ⟨p, hp, e⟩ := List.mem_map.1 ha
  simp only [List.map_cons, List.map_nil, List.mem_singleton] at hb
  rw [hb, ← e]
  exact (mem_del.1 hp).2
theorem del_absent {l : KV} {k : Int} (h : kget l k = none) : kdel l k = l := by
  induction l with
  | nil => rfl
  | cons q r ih =>
    obtain ⟨a, v⟩ := q
    simp only [kget] at h
    split at h
    · cases h
    · rename_i ha; simp only [kdel, if_neg ha, ih h]
theorem kget_mem {l : KV} {k v : Int} (h : kget l k = some v) : (k, v) ∈ l := by
  induction l with
  | nil => cases h
  | cons q r ih =>
    obtain ⟨a, u⟩ := q
    simp only [kget] at h
    split at h
    · rename_i ha; cases h; subst ha; simp
    · simp [ih h]
theorem length_del {l : KV} (h : Uniq l) (k : Int) : (kdel l k).length + (kget l k).toList.length = l.length := by
  induction l with
  | nil => simp [kdel, kget]
  | cons q r ih =>
    obtain ⟨a, v⟩ := q
    unfold Uniq at h
    simp only [List.map_cons, List.nodup_cons] at h
    simp only [kdel, kget]
    by_cases ha : a = k
    · rw [if_pos ha, if_pos ha]
      have : kget r k = none := by
        cases hl : kget r k with
        | none => rfl
        | some u => exact absurd (List.mem_map.2 ⟨_, kget_mem hl, ha.symm⟩) h.1
      rw [del_absent this]
      simp
    · rw [if_neg ha, if_neg ha]
      have := ih h.2
      simp only [List.length_cons]
      omega
theorem length_put {l : KV} (h : Uniq l) (k v : Int) : (kput l k v).length + (kget l k).toList.length = l.length + 1 := by
  have := length_del h k
  unfold kput
  rw [List.length_append]
  simp only [List.length_singleton]
  omega

/-- Two lists that tell the same are of one length. -/
theorem length_of_look : ∀ {l m : KV}, Uniq l → Uniq m → (∀ k, kget l k = kget m k) → l.length = m.length
  | [], m, _, _, h => by
    cases m with
    | nil => rfl
    | cons q r => obtain ⟨a, v⟩ := q; have := h a; simp [kget] at this
  | (a, v) :: l, m, hl, hm, h => by
    have ha : kget m a = some v := by rw [← h a]; simp [kget]
    unfold Uniq at hl
    simp only [List.map_cons, List.nodup_cons] at hl
    have hla : kget l a = none := by
      cases hk : kget l a with
      | none => rfl
      | some u => exact absurd (List.mem_map.2 ⟨_, kget_mem hk, rfl⟩) hl.1
    have h1 := length_of_look (l := l) (m := kdel m a) hl.2 (uniq_del hm a) (fun k => by
      by_cases hk : k = a
      · subst hk; rw [hla, kget_del_same]
      · rw [kget_del_other m hk, ← h k]
        simp only [kget]
        rw [if_neg (Ne.symm hk)])
    have h2 := length_del hm a
    rw [ha] at h2
    simp only [Option.toList, List.length_cons, List.length_nil] at h2 ⊢
    omega

def wfi (n : Int) : Prop := (Lit.int .i64 n).wf = true

/-- The map's datum, told as pairs. -/
structure MRel (D : DataW Unit) (l : KV) : Prop where
  tidy : Tidy D
  has : ∀ k, wfi k → Maps.has D (.int .i64 k) = (kget l k).isSome
  at_ : ∀ k, wfi k → D.atKey (.int .i64 k) (.lit (.int .i64 0)) = .lit (.int .i64 ((kget l k).getD 0))
  size : Maps.size D = l.length
  uniq : Uniq l

theorem MRel.empty : MRel (.map []) [] := ⟨tidy_empty, fun _ _ => rfl, fun k hk => by rw [atKey_of_not_has rfl]; rfl, rfl, List.nodup_nil⟩

theorem lit_ne {a b : Int} (h : a ≠ b) : (Lit.int .i64 a) ≠ .int .i64 b := fun e => h (by injection e)

theorem isKey_i64 (k : Int) : WideAt.IsKeyLit (.int .i64 k) := by first | exact trivial | simp [WideAt.IsKeyLit]

theorem MRel.put {D : DataW Unit} {l : KV} (h : MRel D l) {k v : Int} (hk : wfi k) : MRel (D.put (.int .i64 k) (.lit (.int .i64 v))) (kput l k v) := by
  refine ⟨h.tidy.put (isKey_i64 k) _, fun j hj => ?_, fun j hj => ?_, ?_, uniq_put h.uniq k v⟩
  · by_cases e : j = k
    · subst e; rw [has_put_same h.tidy.isMap (isKey_i64 j), kget_put_same]; rfl
    · rw [has_put_other (lit_ne e), kget_put_other _ _ e]; exact h.has j hj
  · by_cases e : j = k
    · subst e; rw [atKey_put_same h.tidy.isMap (isKey_i64 j), kget_put_same]; rfl
    · rw [atKey_put_other (lit_ne e), kget_put_other _ _ e]; exact h.at_ j hj
  · have h2 := length_put h.uniq k v
    rw [size_put h.tidy, h.has k hk, h.size]
    cases hl : kget l k <;> simp [hl] at h2 ⊢ <;> omega

theorem MRel.del {D : DataW Unit} {l : KV} (h : MRel D l) {k : Int} (hk : wfi k) : MRel (D.del (.int .i64 k)) (kdel l k) := by
  refine ⟨h.tidy.del _, fun j hj => ?_, fun j hj => ?_, ?_, uniq_del h.uniq k⟩
  · by_cases e : j = k
    · subst e; rw [has_del_same, kget_del_same]; rfl
    · rw [has_del_other (lit_ne e), kget_del_other _ e]; exact h.has j hj
  · by_cases e : j = k
    · subst e; rw [atKey_del_same, kget_del_same]; rfl
    · rw [atKey_del_other (lit_ne e), kget_del_other _ e]; exact h.at_ j hj
  · have h1 := size_del (k := .int .i64 k) h.tidy
    have h2 := length_del h.uniq k
    rw [h.has k hk, h.size] at h1
    cases hl : kget l k <;> simp [hl] at h1 h2 ⊢ <;> omega

/-- Block r is a map from int to int that tells just the pairs of l. -/
def KvMap (P : Program) (ti : TypeId) (w : World) (r : Nat) (l : KV) : Prop := ∃ D : DataW Unit, w.ownsMap P ti (plainElem P ti) r l.length D ∧ MRel D l

section
variable {P : Program} {ti tm : TypeId} {w w' : World} {r : Nat} {l : KV}

theorem KvMap.keep {F : Nat → Prop} (h : KvMap P ti w r l) (t : Tch F w w') (hn : ¬ F r) : KvMap P ti w' r l := let ⟨D, h1, h2⟩ := h; ⟨D, t.owns h1 hn, h2⟩
theorem KvMap.lt (h : KvMap P ti w r l) : r < w.heap.size := let ⟨_, h1, _⟩ := h; h1.lt
theorem KvMap.made : KvMap P ti (w.alloc (.map #[] 0)) w.heap.size [] := ⟨_, World.ownsMap_made _ _ _ _, MRel.empty⟩

theorem KvMap.run_look (h : KvMap P ti w r l) (hi : P.underlying ti = some (.int .i64)) (hm : P.underlying tm = some (.map ti ti)) (hz : (zeroValue ti).run P w = .ok (.int .i64 0) w) {k : Int} (hk : wfi k) :
    (Instr.lookup tm (.map (some r)) (.int .i64 k) true).run P w = .ok (.tuple #[.int .i64 ((kget l k).getD 0), .bool (kget l k).isSome]) w ∧ wfi ((kget l k).getD 0) := by
  obtain ⟨D, h1, h2⟩ := h
  obtain ⟨v, ps, hrun, hv⟩ := h1.look_ok (int_keyed hi) hm hz (zd := .lit (.int .i64 0)) (zp := []) (plainElem_int hi (by decide)) (keyOf_int_mk hi hk)
  rw [h2.at_ k hk] at hv
  obtain ⟨c, rfl, hc, hwc⟩ := plainElem_int_inv hi hv
  have : (kget l k).getD 0 = c := by
    have := congrArg Prod.fst hc
    simpa using this
  rw [this]
  rw [h2.has k hk] at hrun
  exact ⟨hrun, hwc⟩

theorem KvMap.run_len (h : KvMap P ti w r l) (hm : P.underlying tm = some (.map ti ti)) (ty : TypeId) : (Builtin.len_ #[tm] ty #[.map (some r)]).run P w = .ok (.int .i64 l.length) w := by
  obtain ⟨D, h1, h2⟩ := h
  rw [h1.len hm ty, h2.size]

theorem KvMap.run_put (h : KvMap P ti w r l) (hi : P.underlying ti = some (.int .i64)) (hm : P.underlying tm = some (.map ti ti)) (hl : l.length < maxLen) {k v : Int} (hk : wfi k) (hv : wfi v) :
    ∃ w', (Instr.mapUpdate tm (.map (some r)) (.int .i64 k) (.int .i64 v)).run P w = .ok () w' ∧ KvMap P ti w' r (kput l k v) ∧ w.mapTurned w' r := by
  obtain ⟨D, h1, h2⟩ := h
  obtain ⟨w', hrun, h3, h4⟩ := h1.store (int_keyed hi) hm hl (keyOf_int_mk hi hk) (plainElem_int hi hv)
  have h5 := h2.put (v := v) hk
  exact ⟨w', hrun, ⟨_, by have := owns_size h3; rwa [h5.size] at this, h5⟩, h4⟩

theorem KvMap.run_del (h : KvMap P ti w r l) (hi : P.underlying ti = some (.int .i64)) (hm : P.underlying tm = some (.map ti ti)) {k : Int} (hk : wfi k) (ty : TypeId) :
    ∃ w', (Builtin.delete_ #[tm, ti] ty #[.map (some r), .int .i64 k]).run P w = .ok (.tuple #[]) w' ∧ KvMap P ti w' r (kdel l k) ∧ w.mapTurned w' r := by
  obtain ⟨D, h1, h2⟩ := h
  obtain ⟨w', hrun, h3, h4⟩ := h1.drop (int_keyed hi) hm (keyOf_int_mk hi hk) ty
  have h5 := h2.del hk
  exact ⟨w', hrun, ⟨_, by have := owns_size h3; rwa [h5.size] at this, h5⟩, h4⟩

variable {ops : Array Oper} {rest : List Oper} {o : Oper} {a : Act} {Q : Exit → Act → World → Prop}

theorem wpList_kv_put (hg : o.guard = none) (m x v : Operand) (hop : o.op = Op.mapUpdate tm m x v) (hi : P.underlying ti = some (.int .i64)) (hmt : P.underlying tm = some (.map ti ti)) {k u : Int}
    (hm : a.eval m = .map (some r)) (hx : a.eval x = .int .i64 k) (hv : a.eval v = .int .i64 u) (h : KvMap P ti w r l) (hl : l.length < maxLen) (hk : wfi k) (hu : wfi u)
    (hK : ∀ w', KvMap P ti w' r (kput l k u) → w.mapTurned w' r → wpList P ops Q rest (a.put o.dst undef) w') : wpList P ops Q (o :: rest) a w := by
  refine wpList_plain hg fun K' hK' => ?_
  obtain ⟨w', hrun, r1, r2⟩ := h.run_put hi hmt hl hk hu
  unfold Oper.wp
  simp [execOp, hop, hm, hx, hv, hrun, Result.andThen]
  exact hK' _ _ (hK w' r1 r2)

theorem wpList_kv_del (hg : o.guard = none) (m x : Operand) (hop : o.op = Op.call { callee := Callee.builtin Builtin.delete, args := #[m, x], argTypes := #[tm, ti] }) (hi : P.underlying ti = some (.int .i64)) (hmt : P.underlying tm = some (.map ti ti)) {k : Int}
    (hm : a.eval m = .map (some r)) (hx : a.eval x = .int .i64 k) (h : KvMap P ti w r l) (hk : wfi k)
    (hK : ∀ w', KvMap P ti w' r (kdel l k) → w.mapTurned w' r → wpList P ops Q rest (a.put o.dst (.tuple #[])) w') : wpList P ops Q (o :: rest) a w := by
  refine wpList_plain hg fun K' hK' => ?_
  obtain ⟨w', hrun, r1, r2⟩ := h.run_del hi hmt hk o.type
  unfold Oper.wp
  simp [execOp, hop, resolve, invoke, builtin, hm, hx, hrun, Result.andThen]
  exact hK' _ _ (hK w' r1 r2)

end
end Go.Gk
