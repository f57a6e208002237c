/-
  Plain: a region that draws its order, some of whose mere extractions the tail does not wait for at once: they are taken as soon as they may come up. No program in sight.
-/
import Derived.Test.YtblenmelciaigaaGreatDoorZ2
namespace Go.Gk
open Go.RowKit

/-- An operation that takes a part of a tuple, and is apart from all that neither waits for it nor is waited for by it. -/
def lateOK (ops : Array Oper) (n : Nat) (i : Nat) : Bool :=
  decide (i < n) && match ops[i]? with
  | none => false
  | some o => o.guard.isNone && (match o.op with | .extract .. => true | _ => false) && (List.range ops.size).all fun j => j == i || o.after.any (fun e => Region.binds .any e && e.on == j) || match ops[j]? with
      | some oj => oj.after.any (fun e => Region.binds .any e && e.on == i) || o.apart ops oj
      | none => true
def sinkL (late pre : List Nat) (ops : Array Oper) (n : Nat) : Bool :=
  (List.range n).all fun i => pre.contains i || late.contains i || (List.range (n + 1)).any fun j => decide (i < j) && !late.contains j && Region.waitsFor .any ops j i
def tailL (late pre : List Nat) (ops : Array Oper) (n : Nat) : Bool :=
  decide (n < ops.size) && sinkL late pre ops n && Region.chainB .any ops n && Region.seqB .any ops (ops.size - n) n (canon n ops.size)

theorem extract_run {P : Program} {o : Oper} {ρ : Operand → Value} {t : Operand} {ix : Nat} (ho : o.op = .extract t ix) {w : World} {x : Value} (h : (execOp ρ o).run P w = .ok (.value x) w) : ∀ w', (execOp ρ o).run P w' = .ok (.value x) w' := by
  intro w'
  unfold execOp at h ⊢
  rw [ho] at h ⊢
  simp only [Instr.extract] at h ⊢
  cases hv : ρ t with
  | tuple xs =>
    rw [hv] at h
    simp only at h ⊢
    cases hx : xs[ix]? with
    | none => rw [hx] at h; simp [Result.andThen] at h
    | some y => rw [hx] at h; simpa [Sem.run_bind, Result.andThen] using h
  | _ => rw [hv] at h; simp [Result.andThen] at h

section
variable {P : Program} {E : Env} {n N : Nat} {a0 : Act} {listed : Array Bool} {A : Act} {w : World}

theorem tail_waitsL {late pre : List Nat} {ops : Array Oper} (hs : sinkL late pre ops n = true) (hc : Region.chainB .any ops n = true) (hn : n < ops.size) (inv : HeadInv .any ops n listed) (hp : ∀ i ∈ pre, listed.getD i false = true) :
    ∀ (d i : Nat), n - i = d → i < n → late.contains i = false → listed.getD i true = false → ∀ t, n ≤ t → t ∉ Region.ready .any ops listed := by
  intro d
  induction d using Nat.strongRecOn with
  | _ d ih =>
    intro i hd hi hnl hun t ht hr
    obtain ⟨_, ot, hot, hall⟩ := mem_ready.1 hr
    have htlt : t < ops.size := (Array.getElem?_eq_some_iff.1 hot).1
    by_cases htn : t = n
    · subst htn
      have h1 := List.all_eq_true.1 hs i (List.mem_range.2 hi)
      simp only [Bool.or_eq_true] at h1
      rcases h1 with (h1 | h1) | h1
      · have := hp i (by simpa using h1)
        rw [getD_both hun] at this
        cases this
      · rw [hnl] at h1; cases h1
      obtain ⟨j, hj, hj2⟩ := List.any_eq_true.1 h1
      simp only [Bool.and_eq_true, decide_eq_true_eq, Bool.not_eq_true'] at hj2
      obtain ⟨oj, hoj, e, he, hb, hon⟩ := Region.waitsFor_spec hj2.2
      have hjle : j ≤ t := by have := List.mem_range.1 hj; omega
      by_cases hjt : j = t
      · subst hjt
        have : oj = ot := Option.some.inj (hoj.symm.trans hot)
        subst this
        have h2 := hall e he hb
        rw [hon, getD_both hun] at h2
        cases h2
      · cases hl : listed.getD j false with
        | true =>
          have h2 := inv.closed j oj hoj hl e he hb
          rw [hon, getD_both hun] at h2
          cases h2
        | false =>
          have hjs : j < listed.size := by rw [inv.size]; omega
          exact ih (t - j) (by omega) j rfl (by omega) hj2.1.2 (getD_in hjs hl) t (Nat.le_refl _) hr
    · have h1 := List.all_eq_true.1 hc t (List.mem_range.2 htlt)
      simp only [Bool.or_eq_true, decide_eq_true_eq] at h1
      rcases h1 with h1 | h1
      · omega
      · obtain ⟨o', ho', e, he, hb, hon⟩ := Region.waitsFor_spec h1
        have : o' = ot := Option.some.inj (ho'.symm.trans hot)
        subst this
        have h2 := hall e he hb
        rw [hon, getD_both (inv.tail (t - 1) (by omega) (by omega))] at h2
        cases h2

theorem late_free {ops : Array Oper} {i : Nat} (h : lateOK ops n i = true) (hr : i ∈ Region.ready .any ops listed) : Region.free .any ops listed i = true := by
  unfold lateOK at h
  obtain ⟨_, o, ho, hall⟩ := mem_ready.1 hr
  rw [ho] at h
  simp only [Bool.and_eq_true] at h
  unfold Region.free
  rw [ho]
  simp only [List.all_eq_true] at h ⊢
  intro j hj
  have h1 := h.2.2 j hj
  simp only [Bool.or_eq_true] at h1 ⊢
  rcases h1 with (h1 | h1) | h1
  · exact .inl (.inl h1)
  · obtain ⟨e, he, hb⟩ := Array.any_eq_true'.1 h1
    simp only [Bool.and_eq_true, beq_iff_eq] at hb
    have h2 := hall e he hb.1
    rw [hb.2] at h2
    refine .inl (.inr ?_)
    rcases Nat.lt_or_ge j listed.size with h3 | h3
    · simp [h3] at h2 ⊢; exact h2
    · simp [Array.getElem?_eq_none h3] at h2
  · exact .inr h1

theorem head_soundL {Q : Exit → Act → World → Prop} {l : List Oper} {m : Nat} (late pre : List Nat) (hE : E.ops = l.toArray) (G : E.Laws n N) (hN : a0.tmps.size = N) (hn : n ≤ l.length) (ht : tailL late pre E.ops n = true)
    (hlt : ∀ i ∈ late, lateOK E.ops n i = true ∧ E.ks i = none ∧ E.sp i = none ∧ E.fr i = false) (hQ : ∀ d v c a w, Q (.panic c) (a.put d v) w → Q (.panic c) a w)
    (hm : (∀ k s', k < n → E.sp k = some s' → s' < m) ∧ (m = 0 ∨ ∃ k, k < n ∧ E.sp k = some (m - 1)))
    (h : E.head P (fun a' L => ∀ w', E.R E.w0 w' → E.J m w' → (∀ p ∈ L, p.2 w') → E.apart n a' → wpList P E.ops Q (l.drop n) a' w') (l.take n) 0 a0 []) :
    ∀ (f : Nat) (listed : Array Bool) (A : Act) (w : World), E.Inv P n a0 listed A w → (∀ i ∈ pre, listed.getD i false = true) → unlisted listed n = f → wpAny P .any E.ops Q (f + (l.length - n)) listed A w := by
  have hsz : E.ops.size = l.length := by rw [hE]; simp
  have htl : (l.take n).length = n := by simp; omega
  intro f
  induction f with
  | zero =>
    intro listed A w inv _ hf
    have hall := unlisted_zero hf
    obtain ⟨_, h2⟩ := down G hN inv (l.take n) 0 a0 [] (fun j hj => by
      have hj' : j < n := by rw [htl] at hj; exact hj
      simp [hE, hj']) (by simpa using htl) h ⟨fun t ht => (inv.same t fun j hj hd => by have := (ht j hj hd).1; omega).symm, rfl, rfl, fun p hp => by cases hp⟩
    obtain ⟨a', L', hfin, al⟩ := h2 hall
    have hA : a' = A := act_ext (al.size.trans inv.size.symm) (al.defers.trans inv.defers.symm) (fun t => al.agree t fun j hj _ => ⟨hj, hall j hj⟩)
    subst hA
    obtain ⟨s, hs, hz, hJ⟩ := inv.j
    have hsm : s = m := by
      rcases hz with rfl | ⟨k, hk, hsk⟩
      · rcases hm.2 with h0 | ⟨k, hk, hsk⟩
        · exact h0.symm
        · have := (hs k _ hk hsk).1 (hall k hk)
          omega
      · have h1 := hm.1 k _ hk hsk
        have h3 := (hs k _ hk hsk).1 (hall k hk)
        rcases hm.2 with h0 | ⟨k', hk', hsk'⟩
        · omega
        · have := (hs k' _ hk' hsk').1 (hall k' hk')
          omega
    subst hsm
    have hlast := hfin w inv.r hJ (fun p hp => (al.facts p hp).2 (hall _ (al.facts p hp).1) w (G.refl w)) (fun k k' d d' hk hk' hf hf' hne hd hd' g hg => (inv.fresh k d hk (hall k hk) hf hd g hg).2 k' d' hk' (hall k' hk') hf' hd' hne)
    have hdl : (l.drop n).length = l.length - n := by simp
    rw [Nat.zero_add, ← hdl]
    refine wpAny_of_seq (l.drop n) n listed a' w (fun j => by simp [hE, List.getElem?_drop]) ?_ hlast
    rw [listed_canon inv.head hall, hdl, hsz]
    simp only [tailL, Bool.and_eq_true, decide_eq_true_eq] at ht
    have := ht.2
    rwa [hsz] at this
  | succ f ih =>
    intro listed A w inv hp hf
    obtain ⟨h1, _⟩ := down G hN inv (l.take n) 0 a0 [] (fun j hj => by
      have hj' : j < n := by rw [htl] at hj; exact hj
      simp [hE, hj']) (by simpa using htl) h ⟨fun t ht => (inv.same t fun j hj hd => by have := (ht j hj hd).1; omega).symm, rfl, rfl, fun p hp => by cases hp⟩
    simp only [tailL, Bool.and_eq_true, decide_eq_true_eq] at ht
    by_cases hL : ∃ i ∈ late, i ∈ Region.ready .any E.ops listed
    · obtain ⟨i, hil, hi⟩ := hL
      obtain ⟨hlk, hks, hsp, hfr⟩ := hlt i hil
      have hfree := late_free hlk hi
      obtain ⟨hun, o, ho, hall⟩ := mem_ready.1 hi
      have hun' := getD_both hun
      unfold lateOK at hlk
      rw [ho] at hlk
      simp only [Bool.and_eq_true, decide_eq_true_eq] at hlk
      obtain ⟨hin, ⟨hgd, hop⟩, _⟩ := hlk
      have hnext := h1 i o (Nat.zero_le _) hin ho hun' hall
      have hgd' : o.guard = none := by simpa using hgd
      have hw : ∀ a : Act, Region.wanted o (yielded E.ops a.tmps) = true := fun a => by simp [Region.wanted, hgd']
      have hsel : ∀ cs b, o.op ≠ .select cs b := fun cs b => Region.noSelect_spec G.noSel i o cs b ho
      obtain ⟨t, ix, hex⟩ : ∃ t ix, o.op = .extract t ix := by
        revert hop
        cases o.op <;> intro hop <;> first | exact ⟨_, _, rfl⟩ | cases hop
      unfold Env.next at hnext
      rw [if_pos (hw A), hks] at hnext
      simp only at hnext
      obtain ⟨_, x, hx⟩ := hnext
      have hrun : ∀ w', (execOp A.eval o).run P w' = .ok (.value x) w' := by
        rcases hx w (G.refl w) with h9 | ⟨h9, _⟩
        · exact extract_run hex h9
        · unfold execOp at h9
          rw [hex] at h9
          simp only [Instr.extract] at h9
          cases hv : A.eval t with
          | tuple xs =>
            rw [hv] at h9
            simp only at h9
            cases hx2 : xs[ix]? with
            | none => rw [hx2] at h9; simp [Result.andThen] at h9
            | some y => rw [hx2] at h9; simp at h9
          | _ => rw [hv] at h9; simp [Result.andThen] at h9
      have hself : ∀ v, ∀ t ∈ o.looksAt E.ops, A.tmps.getD t undef = (A.put o.dst v).tmps.getD t undef := fun v t ht => by
        refine (getD_put_other fun hd => ?_).symm
        obtain ⟨_, hlt⟩ := look_spec G hin ho ht hin (by rw [dstOf_of ho]; exact hd)
        omega
      have inv' : E.Inv P n a0 (listed.setIfInBounds i true) (A.put o.dst x) w := by
        obtain ⟨s, hs, hz, hJ⟩ := inv.j
        refine inv.step G hN hin hi ho (G.refl _) (fun h => by rw [hfr] at h; cases h) (fun hv => ?_) ⟨s, sp_other inv.head ho hsp hs, hz, hJ⟩
        unfold Env.settled
        rw [if_pos (hw _), hks]
        exact ⟨_, hv, fun w1 _ => isVal_congr (execOp_agree hsel (hself _)) (.inl (hrun w1))⟩
      have hu' : unlisted (listed.setIfInBounds i true) n = f := by
        have := unlisted_set (i := i) (by rw [inv.head.size]; exact (Array.getElem?_eq_some_iff.1 ho).1) hun' n
        rw [if_pos hin] at this
        omega
      rw [show f + 1 + (l.length - n) = (f + (l.length - n)) + 1 by omega]
      exact wpAny_take ho G.noSel hfree (by simpa using hi) (fun c a w => hQ _ _ c a w) (.inl ⟨hw _, hrun⟩) (ih _ _ w inv' (fun j hj => getD_set_true (hp j hj)) hu')
    · obtain ⟨i0, hi0, hun0⟩ := unlisted_pos hf
      have hne := some_ready G inv.head (by omega) i0 hi0 hun0
      rw [show f + 1 + (l.length - n) = (f + (l.length - n)) + 1 by omega]
      refine ⟨fun h0 => absurd h0 hne, fun i hi => ?_⟩
      obtain ⟨hun, o, ho, hall⟩ := mem_ready.1 hi
      have hin : i < n := by
        rcases Nat.lt_or_ge i n with hlt' | hge
        · exact hlt'
        · exfalso
          -- all of the head but the late ones is listed; so a late one may come up
          have hall2 : ∀ j, j < n → late.contains j = false → listed.getD j false = true := fun j hj hjl => by
            cases hlj : listed.getD j false with
            | true => rfl
            | false => exact absurd hi (tail_waitsL ht.1.1.2 ht.1.2 ht.1.1.1 inv.head hp (n - j) j rfl hj hjl (getD_in (by rw [inv.head.size]; omega) hlj) i hge)
          -- the first late one that is not listed
          have hex : ∃ j, j < n ∧ listed.getD j false = false ∧ ∀ j', j' < j → listed.getD j' false = true := by
            have : ∀ k, k ≤ n → (∀ j, j < k → listed.getD j false = true) ∨ ∃ j, j < k ∧ listed.getD j false = false ∧ ∀ j', j' < j → listed.getD j' false = true := by
              intro k
              induction k with
              | zero => intro _; exact .inl fun j hj => by omega
              | succ k ihk =>
                intro hk
                rcases ihk (by omega) with h9 | ⟨j, hj, h9⟩
                · cases hlk : listed.getD k false with
                  | true =>
                    refine .inl fun j hj => ?_
                    rcases Nat.lt_or_ge j k with h8 | h8
                    · exact h9 j h8
                    · obtain rfl : j = k := by omega
                      exact hlk
                  | false => exact .inr ⟨k, by omega, hlk, h9⟩
                · exact .inr ⟨j, by omega, h9⟩
            rcases this n (Nat.le_refl _) with h9 | h9
            · rw [h9 i0 hi0] at hun0; cases hun0
            · exact h9
          obtain ⟨j, hj, hju, hjb⟩ := hex
          have hjl : late.contains j = true := by
            cases hc : late.contains j with
            | true => rfl
            | false => rw [hall2 j hj hc] at hju; cases hju
          have hjs : j < E.ops.size := by omega
          refine hL ⟨j, by simpa using hjl, mem_ready.2 ⟨getD_in (by rw [inv.head.size]; omega) hju, E.ops[j], Array.getElem?_eq_getElem hjs, fun e he hb => ?_⟩⟩
          have hlt' := edge_spec G hj (Array.getElem?_eq_getElem hjs) he hb
          exact hjb e.on hlt'
      have hun' := getD_both hun
      have hnext := h1 i o (Nat.zero_le _) hin ho hun' hall
      refine wpOp_of_next G hN inv hin hi ho hnext fun A' w' inv' => ih _ A' w' inv' (fun j hj => getD_set_true (hp j hj)) ?_
      have := unlisted_set (i := i) (by rw [inv.head.size]; exact (Array.getElem?_eq_some_iff.1 ho).1) hun' n
      rw [if_pos hin] at this
      omega
end

/-- **A region that draws its order**, some of whose extractions are late. -/
theorem wp_region_relL {P : Program} {E : Env} {id : Nat} {Q : Exit → Act → World → Prop} {a : Act} {w : World} {l : List Oper} {n N m : Nat} (late : List Nat) (hm : P.follows .mixedOrders = true) (hE : E.ops = l.toArray) (hw : E.w0 = { w with drawn := w.drawn + 1 }) (G : E.Laws n N) (hN : a.tmps.size = N) (hn : n ≤ l.length) (ht : tailL late [] E.ops n = true)
    (hlt : ∀ i ∈ late, lateOK E.ops n i = true ∧ E.ks i = none ∧ E.sp i = none ∧ E.fr i = false) (hQ : ∀ d v c a w, Q (.panic c) (a.put d v) w → Q (.panic c) a w)
    (hsp : (∀ k s', k < n → E.sp k = some s' → s' < m) ∧ (m = 0 ∨ ∃ k, k < n ∧ E.sp k = some (m - 1))) (hJ : E.J 0 E.w0)
    (h : E.head P (fun a' L => ∀ w', E.R E.w0 w' → E.J m w' → (∀ p ∈ L, p.2 w') → E.apart n a' → wpList P E.ops Q (l.drop n) a' w') (l.take n) 0 a []) : (Code.region id l.toArray true).wp P Q a w := by
  have hsz : E.ops.size = l.length := by rw [hE]; simp
  refine wp_region_any hm ?_
  rw [← hE, ← hw, hsz]
  have inv0 : E.Inv P n a (Array.replicate l.length false) a E.w0 :=
    ⟨⟨by simp [hsz], fun j oj _ hl => (by rw [getD_replicate_false] at hl; cases hl), fun t _ ht => getD_in (by simp; omega) (getD_replicate_false _ _)⟩, G.refl _, rfl, rfl, fun _ _ => rfl, fun k o _ _ hl => (by rw [getD_replicate_false] at hl; cases hl), fun k d _ hl => (by rw [getD_replicate_false] at hl; cases hl), ⟨0, fun k s' _ _ => (by rw [getD_replicate_false]; simp), .inl rfl, hJ⟩⟩
  have h1 := head_soundL late [] hE G hN hn ht hlt hQ hsp h n (Array.replicate l.length false) a E.w0 inv0 (fun i hi => by cases hi) (unlisted_none _ _)
  rwa [show n + (l.length - n) = l.length by omega] at h1

def checksL (late : List Nat) (ops : Array Oper) (sp : Nat → Option Nat) (n N : Nat) : Bool :=
  Region.noSelect ops && befOK ops (Region.before ops) n && lookOK ops (Region.before ops) n && dstOK ops n N && edgeOK ops n && spOK (Region.before ops) sp n && tailL late [] ops n && late.all (lateOK ops n)

/-- As 'wp_region_touch', some extractions being late. -/
theorem wp_region_late {P : Program} (F : Nat → Prop) {id : Nat} {Q : Exit → Act → World → Prop} {a : Act} {w : World} {l : List Oper} (late : List Nat) (n : Nat) (Vs : List (Nat × Sum Value (Value → World → Prop))) (fr : List Nat) (hm : P.follows .mixedOrders = true)
    (hn : (decide (n ≤ l.length)) = true) (hc : checksL late l.toArray (fun _ => none) n a.tmps.size = true) (hpk : ((late.all fun i => (Vs.lookup i).isNone && !fr.contains i) && fr.all fun i => (Vs.lookup i).isSome) = true) (hQ : ∀ d v c a w, Q (.panic c) (a.put d v) w → Q (.panic c) a w) (hV : Stable (Tch F) Vs)
    (h : ∀ (bef : Array Nat) (ops : Array Oper), bef = Region.before l.toArray → ops = l.toArray → (touchEnv F ops bef Vs fr w.drew).head P (fun a' L => ∀ w', Tch F w.drew w' → (∀ p ∈ L, p.2 w') → (touchEnv F l.toArray bef Vs fr w.drew).apart n a' → wpList P l.toArray Q (l.drop n) a' w') (l.take n) 0 a []) : (Code.region id l.toArray true).wp P Q a w := by
  simp only [checksL, Bool.and_eq_true] at hc
  obtain ⟨⟨⟨⟨⟨⟨⟨c1, c2⟩, c3⟩, c4⟩, c5⟩, c6⟩, c7⟩, c8⟩ := hc
  simp only [Bool.and_eq_true] at hpk
  refine wp_region_relL (E := touchEnv F l.toArray (Region.before l.toArray) Vs fr w.drew) (n := n) (m := 0) late hm rfl rfl ⟨fun _ _ h => h.size, Tch.refl F, fun _ _ _ h k => h.trans k, fun _ _ h => h, fun _ _ _ _ h => h, hV.spec, c1, c2, c3, c4, c5, c6⟩ rfl (of_decide_eq_true hn) c7
    (fun i hi => ?_) hQ ⟨(fun _ _ _ h => by cases h), .inl rfl⟩ trivial ?_
  · have h1 := List.all_eq_true.1 hpk.1 i hi
    simp only [Bool.and_eq_true, Bool.not_eq_true'] at h1
    exact ⟨List.all_eq_true.1 c8 i hi, by simpa using h1.1, rfl, h1.2⟩
  · exact head_mono (fun a' L' hf w' hr _ hp ha => hf w' hr hp ha) _ _ _ _ _ (h _ _ rfl rfl)
end Go.Gk
