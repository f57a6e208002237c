/-
  Plain: a region that draws its order, some of whose operations write what was there, in a forced order.
-/
import Derived.Test.YtnknemepfjfcfaaGk
namespace Go.Gk
open Go.RowKit

/-- 'F': the blocks that the writing operations may change · 'sps': which operation is the s-th that writes · 'J s': what is so once s of them have been. -/
@[reducible] def spineEnv (F : Nat → Prop) (ops : Array Oper) (bef : Array Nat) (Vs : List (Nat × Sum Value (Value → World → Prop))) (sps : List (Nat × Nat)) (J : Nat → World → Prop) (w0 : World) : Env :=
  { ops := ops, bef := bef, R := Tch F, R0 := Tch (fun _ => False), J := J, w0 := w0, ks := fun k => Vs.lookup k, sp := fun k => sps.lookup k, fr := fun _ => false }

section
variable {P : Program} {F : Nat → Prop} {ops : Array Oper} {bef : Array Nat} {Vs : List (Nat × Sum Value (Value → World → Prop))} {sps : List (Nat × Nat)} {J : Nat → World → Prop} {w0 : World} {fin : Act → List (Nat × (World → Prop)) → Prop} {o : Oper} {rest : List Oper} {k : Nat} {a : Act} {L : List (Nat × (World → Prop))}

theorem s_det (hw : Region.wanted o (yielded ops a.tmps) = true) (hk : Vs.lookup k = none) (hs : sps.lookup k = none) (hp : plainOp o.op = true)
    (h : ∀ K : Act → Prop, (∀ a', (spineEnv F ops bef Vs sps J w0).head P fin rest (k + 1) a' L → K a') → o.quiet P a (fun w' => ∃ p : Within (Tch F) w0 (bef.getD k 0) L, w' = p.w) K) : (spineEnv F ops bef Vs sps J w0).head P fin (o :: rest) k a L :=
  head_det (E := spineEnv F ops bef Vs sps J w0) hw hk hs rfl hp h

theorem s_skip (hw : Region.wanted o (yielded ops a.tmps) = false) (hs : sps.lookup k = none) (h : (spineEnv F ops bef Vs sps J w0).head P fin rest (k + 1) (a.put o.dst undef) L) : (spineEnv F ops bef Vs sps J w0).head P fin (o :: rest) k a L :=
  head_skip (E := spineEnv F ops bef Vs sps J w0) hw hs h

theorem s_fix (x : Value) (s : Nat) (hw : Region.wanted o (yielded ops a.tmps) = true) (hk : Vs.lookup k = some (.inl x)) (hs : sps.lookup k = some s)
    (h : ∀ w, Tch F w0 w → J s w → yields P o a w (fun v w' => v = x ∧ Tch F w w' ∧ J (s + 1) w')) (h2 : (spineEnv F ops bef Vs sps J w0).head P fin rest (k + 1) (a.put o.dst x) L) : (spineEnv F ops bef Vs sps J w0).head P fin (o :: rest) k a L :=
  head_fix_sp (E := spineEnv F ops bef Vs sps J w0) x s hw hk hs (fun w hr hj _ => yields_mono (fun _ _ h => ⟨h, newAt_no⟩) (h w hr hj)) h2

theorem s_nil (h : fin a L) : (spineEnv F ops bef Vs sps J w0).head P fin [] k a L := h
end

def spsOK (sps : List (Nat × Nat)) (n m : Nat) : Bool :=
  ((List.range n).all fun k => match sps.lookup k with | none => true | some s => decide (s < m)) && (m == 0 || (List.range n).any fun k => sps.lookup k == some (m - 1))

theorem wp_region_spine {P : Program} (F : Nat → Prop) {id : Nat} {Q : Exit → Act → World → Prop} {a : Act} {w : World} {l : List Oper} (pre : List Nat) (n : Nat) (Vs : List (Nat × Sum Value (Value → World → Prop))) (sps : List (Nat × Nat)) (m : Nat) (J : Nat → World → Prop) (hm : P.follows .mixedOrders = true)
    (hn : (decide (n ≤ l.length)) = true) (hc : checks pre l.toArray (fun k => sps.lookup k) n a.tmps.size = true) (hs : spsOK sps n m = true) (hpk : (pre.all fun i => (Vs.lookup i).isNone) = true) (hQ : ∀ d v c a w, Q (.panic c) (a.put d v) w → Q (.panic c) a w) (hV : Stable (Tch F) Vs)
    (hJ0 : J 0 w.drew) (hJ : ∀ s a b, Tch (fun _ => False) a b → J s a → J s b)
    (h : ∀ (bef : Array Nat) (ops : Array Oper), bef = Region.before l.toArray → ops = l.toArray → (spineEnv F ops bef Vs sps J w.drew).head P (fun a' L => ∀ w', Tch F w.drew w' → J m w' → (∀ p ∈ L, p.2 w') → wpList P l.toArray Q (l.drop n) a' w') (l.take n) 0 a []) : (Code.region id l.toArray true).wp P Q a w := by
  simp only [checks, Bool.and_eq_true] at hc
  obtain ⟨⟨⟨⟨⟨⟨⟨c1, c2⟩, c3⟩, c4⟩, c5⟩, c6⟩, c7⟩, c8⟩ := hc
  simp only [spsOK, Bool.and_eq_true, List.all_eq_true, List.mem_range, Bool.or_eq_true, List.any_eq_true, beq_iff_eq] at hs
  refine wp_region_rel (E := spineEnv F l.toArray (Region.before l.toArray) Vs sps J w.drew) (n := n) (m := m) pre hm rfl rfl ⟨fun _ _ h => h.size, Tch.refl F, fun _ _ _ h k => h.trans k, fun _ _ h => Exn.touch h, hJ, hV.spec, c1, c2, c3, c4, c5, c6⟩ rfl (of_decide_eq_true hn) c7 (by simpa using c8)
    (fun i hi => by have := List.all_eq_true.1 hpk i hi; simpa using this) (fun i hi => rfl) hQ ⟨fun k s' hk h => ?_, hs.2.imp (fun h => h) (fun ⟨k, h1, h2⟩ => ⟨k, h1, h2⟩)⟩ hJ0 ?_
  · have h' : sps.lookup k = some s' := h
    have := hs.1 k hk
    rw [h'] at this
    simpa using this
  · exact head_mono (fun a' L' hf w' hr hj hp _ => hf w' hr hj hp) _ _ _ _ _ (h _ _ rfl rfl)

end Go.Gk
