/-
  A value of some cells stored into the midst of a block that is known whole.
-/
import Derived.Test.YtnjhfcopphpkpaaGreatDoorZ20
namespace Go.Gk
open Go.RowKit
theorem setCells_blk {g:Nat} {t:TypeId}:∀(vs:List Value) (o:Nat) (w:World) (pre mid suf:List Value),mid.length=vs.length→pre.length=o→Blk w g t (pre++mid++suf).toArray→Blk (w.setCells g o vs) g t (pre++vs++suf).toArray
 |[],o,w,pre,mid,suf,h1,_,h=>by
  obtain rfl:mid=[]:=List.eq_nil_of_length_eq_zero h1;exact h
 |v::r,o,w,pre,mid,suf,h1,h2,h=>by
  match mid,h1 with
  |m::mid,h1=>
   have h3:=h.set_ o v
   have e:(pre++m::mid++suf).set o v=(pre++[v])++mid++suf:=by
    subst h2;rw[List.append_assoc,List.set_append_right _ _ (Nat.le_refl _),Nat.sub_self];simp
   rw[List.setIfInBounds_toArray,e]at h3;have:=setCells_blk r (o+1) _ (pre++[v]) mid suf (by simpa using h1) (by simp[h2]) h3;simpa[World.setCells]using this
theorem Tch.setCells (g:Nat):∀(vs:List Value) (o:Nat) (w:World),Tch (fun k=>k=g) w (w.setCells g o vs)
 |[],_,w=>Tch.refl _ w
 |v::r,o,w=>(Tch.setCell (F:=fun k=>k=g) w (p:=⟨g,o,none⟩) (.inl rfl) v).trans (Tch.setCells g r (o+1) _)
section
variable {P:Program} {ops:Array Oper} {rest:List Oper} {op:Oper} {a:Act} {w:World} {Q:Exit→Act→World→Prop}
theorem wpList_store_part (hgd:op.guard=none) (ty:TypeId) (x y:Operand) (ho:op.op=.store ty x y) (b:Nat) (pre mid vs suf:List Value) (hx:a.eval x=.pointer (some ⟨b,pre.length,none⟩)) (hy:a.eval y=.agg vs.toArray) (h1:vs.toArray.all (·.oneCell')=true) (hi:(P.info? ty).map (·.size)=some vs.length) (hm:mid.length=vs.length)
 {t:TypeId} (hb:Blk w b t (pre++mid++suf).toArray) (h:∀W,Blk W b t (pre++vs++suf).toArray→Tch (fun g=>g=b) w W→wpList P ops Q rest (a.put op.dst undef) W):wpList P ops Q (op::rest) a w:=by
 refine wpList_store_mid hgd ty x y ho b pre.length vs.toArray hx hy (fun j hj=>⟨?_,hb.frozen _⟩) (by rw[hi];simp) h1 ?_
 ·have hj:j<vs.length:=by simpa using hj
  have hc:=hb.cell (pre.length+j);rw[List.getElem?_toArray,List.append_assoc,List.getElem?_append_right (by omega),Nat.add_sub_cancel_left,List.getElem?_append_left (by omega),List.getElem?_eq_getElem (by omega)]at hc;rw[hc];rfl
 ·exact h _ (setCells_blk vs _ w pre mid suf hm rfl hb) (Tch.setCells b vs _ w)
