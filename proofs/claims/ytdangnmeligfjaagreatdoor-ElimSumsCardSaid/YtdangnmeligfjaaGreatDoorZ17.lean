/-
  Plain: m[k] = append(m[k], x), as steps of a region that draws its order. No program in sight.
-/
import Derived.Test.YtdangnmeligfjaaGreatDoorZ5
import Derived.Test.YtdangnmeligfjaaGreatDoorZ16
import Derived.Room.AppendUpon
namespace Go.Gk
open Go.RowKit Go.Instr
section
variable {κ : Type} [DecidableEq κ] {P : Program} {K : TypeId} {enc : κ → Value}
theorem entry_exact (L : KeyLaw P K enc) {T E : TypeId} (hT : P.underlying T = some (.map K E)) {z : Value} (hz : ∀ w, (zeroValue E).run P w = .ok z w) {m : List (κ × Value)} {es : Array MapEntry} {c : Nat} (h2 : es.toList.map (fun e => (e.key, e.val)) = m.map (fun p => (enc p.1, p.2))) (h3 : Born es c) (b : Nat) (k : κ) :
 ∃ es' c' s m', (∀ w : World, w.heap[b]? = some (.map es c) → ∃ w', (Instr.mapEntry T (.map (some b)) (enc k)).run P w = .ok (.tuple #[(afind m k).getD z, .int .i64 ((s : Nat) : Int)]) w' ∧ w'.heap[b]? = some (.map es' c') ∧ Tch (fun g => g = b) w w') ∧
  (∀ w : World, w.heap[b]? = some (.map es' c') → MapS enc w b m' k s) ∧ ∀ k', k' ≠ k → afind m' k' = afind m k' := by
 have hi := aidx_find m k 0
 have hlen : es.toList.length = m.length := by have := congrArg List.length h2; simpa using this
 have hes : es.size = m.length := by simpa using hlen
 have hset : ∀ (w : World) (o : Obj), w.heap[b]? = some (.map es c) → (setObj b o).run P w = .ok () { w with heap := w.heap.setIfInBounds b o } := fun w o h => MapKept.run_setObj_map o h
 have ht : ∀ (w : World) (o : Obj), Tch (fun g => g = b) w { w with heap := w.heap.setIfInBounds b o } := fun w o => ⟨rfl, rfl, rfl, by simp, fun k _ hn => by simp only; rw [Array.getElem?_setIfInBounds_ne (fun e => hn e.symm)]⟩
 have hnew : ∀ (w : World) (o : Obj), w.heap[b]? = some (.map es c) → ({ w with heap := w.heap.setIfInBounds b o } : World).heap[b]? = some o := fun w o h => by
  have := (Array.getElem?_eq_some_iff.1 h).1
  simp [this]
 cases ha : aidx m k 0 with
 | none =>
  rw [ha] at hi
  have hn : afind m k = none := by simpa using hi.symm
  have hab := aidx_absent m k 0 ha
  refine ⟨es.push { key := enc k, val := z, born := c }, c + 1, c, m ++ [(k, z)], fun w h1 => ?_, fun w h => ⟨_, _, es.size, by simp, h, ?_, h3.push _ _, by simp, ?_, fun j hj => ?_⟩, fun k' hk' => ?_⟩
  ·have hf := run_findKey L k m es.toList w h2
   refine ⟨_, ?_, hnew w _ h1, ht w _⟩
   unfold Instr.mapEntry
   rw [Sem.run_bind, run_underlying hT]
   simp only [Result.andThen_ok, Sem.run_bind, MapKept.run_getObj_map h1, L.check, hf, ha, hz, hset w _ h1, Sem.run_pure, hn, Option.getD_none, goInt]
  ·rw [Array.toList_push, List.map_append, h2]; simp
  ·rw [hes, List.getElem?_append_right (Nat.le_refl _)]; simp
  ·rw [List.getElem?_append_left (by omega)]; exact hab j
  ·rw [← aput_none m k z 0 ha, afind_put, if_neg hk']
 | some q =>
  rw [ha] at hi
  have hn : afind m k = some q.2 := by simpa using hi.symm
  obtain ⟨i, v⟩ := q
  obtain ⟨n, hin, hk, hfirst⟩ := aidx_first m k 0 i v ha
  obtain rfl : i = n := by omega
  have him : i < m.length := by
   rcases Nat.lt_or_ge i m.length with h | h
   ·exact h
   ·rw [List.getElem?_eq_none h] at hk; cases hk
  have hie : i < es.size := by omega
  have hkey : (es[i]?).map (·.key) = some (enc k) := by
   have h3 := congrArg (fun l : List (Value × Value) => (l[i]?).map (·.1)) h2
   simp only [List.getElem?_map] at h3
   rw [List.getElem?_eq_getElem him] at h3 hk
   simp only [Option.map_some, Option.some.injEq] at h3 hk
   rw [hk] at h3
   rw [← Array.getElem?_toList]
   cases he : es.toList[i]? with
   | none => rw [he] at h3; cases h3
   | some e => rw [he] at h3; simpa using h3
  have hkk : es[i].key = enc k := by rw [Array.getElem?_eq_getElem hie] at hkey; simpa using hkey
  refine ⟨es.modify i fun e => { e with key := enc k }, c, es[i].born, m, fun w h1 => ?_, fun w h => ⟨_, _, i, by simpa using hie, h, ?_, h3.modify i _ (fun _ => rfl), by rw [Array.getElem_modify]; simp, hk, hfirst⟩, fun k' _ => rfl⟩
  ·have hf := run_findKey L k m es.toList w h2
   refine ⟨_, ?_, hnew w _ h1, ht w _⟩
   unfold Instr.mapEntry
   rw [Sem.run_bind, run_underlying hT]
   simp only [Result.andThen_ok, Sem.run_bind, MapKept.run_getObj_map h1, L.check, hf, ha]
   rw [hkey]
   simp only [Option.getD_some, keyThatStays, L.bits, if_true, Sem.run_pure, Result.andThen_ok, hset w _ h1, hn, goInt]
   rw [Array.getElem?_eq_getElem hie]
   rfl
  ·rw [← h2, Array.toList_modify]
   apply List.ext_getElem?
   intro n
   rw [List.getElem?_map, List.getElem?_modify, List.getElem?_map]
   by_cases e : i = n
   ·subst e
    rw [Array.getElem?_toList, Array.getElem?_eq_getElem hie]
    simp [← hkk]
   ·simp [e]
variable {o : Oper} {a : Act} {w : World}
omit [DecidableEq κ] in
theorem yields_of_entry (T : TypeId) (m x : Operand) (hop : o.op = Op.mapEntry T m x) {b : Nat} {k : κ} {v : Value} {w' : World} (hm : a.eval m = .map (some b)) (hx : a.eval x = enc k)
 (hrun : (Instr.mapEntry T (.map (some b)) (enc k)).run P w = .ok v w') {S : Value → World → Prop} (hS : S v w') : yields P o a w S := by
 unfold yields
 simp only [execOp, hop, hm, hx, Sem.run_bind, hrun, Result.andThen_ok, Sem.run_pure]
 exact hS
theorem wpList_estore {ops : Array Oper} {rest : List Oper} {Q : Exit → Act → World → Prop} (hg : o.guard = none) (T : TypeId) (m s x : Operand) (hop : o.op = Op.entryStore T m s x) {b n : Nat} {k : κ} {l : List (κ × Value)} {u : Value}
 (hm : a.eval m = .map (some b)) (hs : a.eval s = .int .i64 (n : Int)) (hx : a.eval x = u) (h : MapS enc w b l k n) (hK : ∀ w' m', MapB enc w' b m' → (∀ k', afind m' k' = if k' = k then some u else afind l k') → Tch (fun g => g = b) w w' → wpList P ops Q rest (a.put o.dst undef) w') : wpList P ops Q (o :: rest) a w := by
 refine wpList_plain hg fun K' hK' => ?_
 obtain ⟨w', m', hrun, h1, h2, h3⟩ := h.run_store (P := P) (T := T) u
 unfold Oper.wp
 simp [execOp, hop, hm, hs, hx, hrun, Result.andThen]
 exact hK' _ _ (hK w' m' h1 h2 h3)
theorem yields_app_room (s x : Operand) (t : TypeId) (ho : o.op = .call { callee := .builtin .append, args := #[s, x], argTypes := #[t, t] })
 {e : TypeId} {z : Value} {size bytes : Nat} (T : RowTy P t e z size bytes) {A : Option Addr} {n c : Nat} {xs : List Value} (hown : w.ownsRow 0 e size (.slice A n c) n xs) (hv : a.eval s = .slice A n c)
 {g : Nat} {m c' : Nat} {news : List Value} (hs : Src w (some ⟨g, 0, none⟩) m c' size news) (hx : a.eval x = .slice (some ⟨g, 0, none⟩) m c') (h1 : ∀ u ∈ news, u.oneCell' = true)
 (hroom : n + m ≤ c) (h63 : n + m ≤ maxLen) (hbytes : (n + m) * bytes ≤ 140737488355328) {S : Value → World → Prop}
 (h : ∀ w', w'.ownsRow 0 e size (.slice A (n + m) c) (n + m) (xs ++ news) → w.grownBy w' (Value.slice A n c).ownBlock → S (.slice A (n + m) c) w') : yields P o a w S := by
 obtain ⟨v', w', hr, h2, h3, h4⟩ := run_append w T o.type hown hs h1 h63 hbytes
 obtain ⟨i, hi, hz, hsize, hby⟩ := info_parts T.info
 have hv' := run_append_cap_room w t t o.type e i T.und hi A n c (.slice (some ⟨g, 0, none⟩) m c') m news (by rw [hsize]; exact Go.Src.ofSlice w T.und ⟨g, 0, none⟩ m c' news hs.len (hs.cell _ rfl) h1) hroom hr
 subst hv'
 unfold yields execOp
 simp only [ho, resolve, invoke, builtin, Sem.run_bind, Sem.run_pure, Result.andThen_ok, List.map_toArray, List.map_cons, List.map_nil, hv, hx, hr]
 exact h w' h2 h3
theorem yields_app_grow (s x : Operand) (t : TypeId) (ho : o.op = .call { callee := .builtin .append, args := #[s, x], argTypes := #[t, t] })
 {e : TypeId} {z : Value} {size bytes : Nat} (T : RowTy P t e z size bytes) {A : Option Addr} {n c : Nat} {xs : List Value} (hown : w.ownsRow 0 e size (.slice A n c) n xs) (hv : a.eval s = .slice A n c)
 {g : Nat} {m c' : Nat} {news : List Value} (hs : Src w (some ⟨g, 0, none⟩) m c' size news) (hx : a.eval x = .slice (some ⟨g, 0, none⟩) m c') (h1 : ∀ u ∈ news, u.oneCell' = true)
 (hroom : c < n + m) (h63 : n + m ≤ maxLen) (hbytes : (n + m) * bytes ≤ 140737488355328) {S : Value → World → Prop}
 (h : ∀ v' w', w'.ownsRow 0 e size v' (n + m) (xs ++ news) → (∀ k, v'.ownBlock = some k → w.heap.size ≤ k) → Tch (fun _ => False) w w' → S v' w') : yields P o a w S := by
 obtain ⟨v', w', hr, h2, h3, h4⟩ := run_append w T o.type hown hs h1 h63 hbytes
 obtain ⟨i, hi, hz, hsize, hby⟩ := info_parts T.info
 have hsrc := Go.Src.ofSlice w T.und ⟨g, 0, none⟩ m c' news hs.len (hs.cell _ rfl) h1
 have hold : (Builtin.firstCells i.size n (.slice A n c)).run P w.drew = .ok xs.toArray w.drew := by
  cases A with
  | none =>
   have := (Src.own hown).nil rfl
   obtain ⟨h0, _⟩ := this
   subst h0
   have hx0 : xs = [] := List.eq_nil_of_length_eq_zero (by have := hown.1; simpa using this)
   subst hx0
   exact run_firstCells_none w.drew i.size 0 0 c
  | some ad =>
   refine run_firstCells_some w.drew i.size n ad n c xs (by rw [hsize]; exact hown.1) (fun j u hu => ?_)
   have := (Src.own hown).cell ad rfl j u hu
   simpa using this
 have hgrow := run_append_grow_src w t t o.type e i z T.und hi hz A n c xs hold (.slice (some ⟨g, 0, none⟩) m c') m news (by rw [hsize]; exact hsrc) hroom (by unfold maxLen at h63; omega) (by rw [hby]; exact growslice_fits hroom hbytes)
 rw [hgrow] at hr
 injection hr with e1 e2
 subst e1 e2
 unfold yields execOp
 simp only [ho, resolve, invoke, builtin, Sem.run_bind, Sem.run_pure, Result.andThen_ok, List.map_toArray, List.map_cons, List.map_nil, hv, hx, hgrow]
 refine h _ _ h2 (fun k hk => by have := own_at hk; omega) ((Tch.drew _ w).trans (Tch.alloc _ _ _))
end
end Go.Gk
