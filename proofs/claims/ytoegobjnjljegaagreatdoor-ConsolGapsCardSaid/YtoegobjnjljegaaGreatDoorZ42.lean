/-
  Plain: the parent's part and the others' part of a whole. No program in sight.
-/
import Derived.Test.YtoegobjnjljegaaGreatDoorZ27
import Derived.Test.YtoegobjnjljegaaGreatDoorZ55
namespace Go.Gk
open Go.RowKit
theorem share_bd {l:List zbv} {n:Int} (h:zan l n=true) (e p:Int):0≤zbb l e p∧zbb l e p≤10000∧(zam l e p=0→zbb l e p=10000):=by
 unfold zbb zam
 cases ha:zdc l e p with
 |none=>exact⟨by decide,by decide,fun _=>rfl⟩
 |some s=>
  rcases zp7 l none s ha with h1|h1
  ·obtain⟨i,hi,rfl⟩:=List.getElem_of_mem h1;have h2:=(zjq h hi).1;unfold zf2 at h2;simp only[Bool.and_eq_true,decide_eq_true_eq,Bool.not_eq_true',Bool.and_eq_false_iff,beq_eq_false_iff_ne,bne_eq_false_iff_eq]at h2;simp only[Option.map_some,Option.getD_some];obtain⟨⟨_,⟨⟨a1,a2⟩,a3⟩⟩,_⟩:=h2;exact⟨a1,a2,fun h0=>a3.elim (fun h3=>absurd h0 h3) id⟩
  ·cases h1
theorem part_bd {b:Bks} (h:zan b.stakes b.ents.length=true) (c:Rt6):0≤zcg b c∧zcg b c≤10000:=by
 unfold zcg z5c;have:=share_bd h c.2.1 c.2.2.2.1;split
 ·split
  ·exact⟨this.1,this.2.1⟩
  ·decide
 ·decide
