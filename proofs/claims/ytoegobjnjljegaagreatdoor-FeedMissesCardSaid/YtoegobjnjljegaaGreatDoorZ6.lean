/-
  The document's whole numbers, digit by digit: fewer, digits.
-/
import Derived.Test.YtoegobjnjljegaaGreatDoorZ4
namespace Go.Proofs.YtoegobjnjljegaaGreatDoor
open Go.RowKit Go.Gk
open Go.RowKit Go.Gk
def BigIs (B:Nat→Prop) (w:World) (v:Value) (x:Int):Prop:=∃dv,v=.agg #[.bool (decide (x<0)),dv]∧zfc B w dv (dg x.natAbs)
theorem BigIs.keep {B:Nat→Prop} {w w':World} {v:Value} {x:Int} (h:BigIs B w v x) (t:Tf w w'):BigIs B w' v x:=let⟨dv,e,h⟩:=h;⟨dv,e,h.keep t⟩
open Go.RowKit Go.Gk
theorem Tch.two (w:World) (z:Nat) (u v:Value):Tch (fun g=>g=z) w ((w.setCell ⟨z,0,none⟩ u).setCell ⟨z,1,none⟩ v):=
 (Tch.setCell (F:=fun g=>g=z) w (p:=⟨z,0,none⟩) (.inl rfl) u).trans (Tch.setCell (F:=fun g=>g=z) _ (p:=⟨z,1,none⟩) (.inl rfl) v)
theorem Blk.new3 (w:World) (o o':Obj) (t:TypeId) (cs:Array Value):Blk (((w.alloc o).alloc o').alloc (.cells cs t)) (w.heap.size+2) t cs:=by
 simpa using Blk.new ((w.alloc o).alloc o') t cs
structure PlusIs (W:World) (z:Nat) (sx sy:Bool) (u v:Value):Prop where
 a:Blk W z 83 #[.bool sx,u]
 b:Blk W (z+1) 83 #[.bool sy,v]
 r:Blk W (z+2) 83 #[.bool false,.slice none 0 0]
theorem PlusIs.new (w:World) (sx sy:Bool) (u v:Value):PlusIs (((w.alloc (.cells #[.bool sx,u] 83)).alloc (.cells #[.bool sy,v] 83)).alloc (.cells #[.bool false,.slice none 0 0] 83)) w.heap.size sx sy u v:=
 ⟨((Blk.new w _ _).alloc _).alloc _,(Blk.new2 w _ _ _).alloc _,Blk.new3 w _ _ _ _⟩
theorem PlusIs.keep {W W':World} {z:Nat} {sx sy:Bool} {u v:Value} (h:PlusIs W z sx sy u v) (t:Tf W W'):PlusIs W' z sx sy u v:=⟨h.a.keep t id,h.b.keep t id,h.r.keep t id⟩
open Go.RowKit Go.Gk
theorem BigIs.keepTo {B B' F:Nat→Prop} {w w':World} {v:Value} {x:Int} (h:BigIs B w v x) (t:Tch F w w') (hP:∀g,g<w.heap.size→B g→¬F g∧B' g):BigIs B' w' v x:=let⟨dv,e,h⟩:=h;⟨dv,e,h.keepTo t hP⟩
end Go.Proofs.YtoegobjnjljegaaGreatDoor
namespace Go.Gk
def zwa (l:List Int):Prop:=∀x∈l,-9223372036854775808≤x∧x≤9223372036854775807
theorem zky {l:List Int} {j:Nat} (h:j<l.length):(l.take (j+1)).sum=(l.take j).sum+l[j]:=by
 rw[List.take_succ_eq_append_getElem h,List.sum_append];simp
theorem zfu {l:List Int} (h:zwa l):∀j,j≤l.length→(l.take j).sum.natAbs≤j*9223372036854775808
 |0,_=>by simp
 |j+1,hj=>by
  have ih:=zfu h j (by omega);have hx:=h l[j] (List.getElem_mem _);rw[zky (by omega)];omega
end Go.Gk
namespace Go.Proofs.YtoegobjnjljegaaGreatDoor
open Go.RowKit Go.Gk
