/-
  What the frames of the rows share: a slice of structs or numbers that came in, opened to its cells.
-/
import Derived.Test.YtoegobjnjljegaaGreatDoorRows
import Derived.WalkKit
import Derived.ProofKit
import Derived.OpenShut
import Derived.ShutString
import Derived.ChangeOld
import Derived.Below
import Derived.Deep.Slices
import Derived.Deep.Fields
namespace Go.Proofs.YtoegobjnjljegaaGreatDoor
open Go.ChangeShapes Go.WideShapes Go.ChangeAt Go.RowKit Go.Deep
theorem zvv:ownKnob Tryz.prog.godebug=none:=by kernel_rfl
theorem zm3:laidOutB Tryz.prog=true:=by kernel_rfl
theorem zvw {α:Type} {P:Nat→α→Prop}:∀(n:Nat),(∀i,i<n→∃x,P i x)→∃l:List α,l.length=n∧∀i (h:i<l.length),P i l[i]
 |0,_=>⟨[],rfl,fun i h=>by cases h⟩
 |n+1,h=>by
  obtain⟨l,hl,hp⟩:=zvw n (fun i hi=>h i (by omega));obtain⟨x,hx⟩:=h n (by omega);refine⟨l++[x],by simp[hl],fun i hi=>?_⟩;by_cases hin:i<l.length
  ·rw[List.getElem_append_left hin];exact hp i hin
  ·have hi':i<(l++[x]).length:=hi;rw[List.length_append]at hi';obtain rfl:i=l.length:=by simp at hi';omega
   rw[List.getElem_append_right (Nat.le_refl _)];simp only[Nat.sub_self,List.getElem_cons_zero];rw[hl];exact hx
theorem zav {H:Type} {enc:TypeId×Value→H} {P:Program} {w:World} {base:Nat} {spare:Nat→Bool} {held:Bool} {t:TypeId} {k:IntKind} {n:Nat} {cs:List Value} {x:Option (DataW H×List MemPlace)}
 (ht:P.underlying t=some (.int k)) (h:DataW.trod enc P w base spare held n t cs=x) (hx:x.isSome):∃m,cs=[.int k m]∧(Lit.int k m).wf=true:=by
 obtain⟨y,rfl⟩:=Option.isSome_iff_exists.1 hx;obtain⟨m,h1,_,h2⟩:=DataW.trod_int ht h;exact⟨m,h1,h2⟩
