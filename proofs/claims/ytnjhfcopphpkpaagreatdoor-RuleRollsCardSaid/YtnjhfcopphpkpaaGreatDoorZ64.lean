/-
  Plain: the pairs that meet at a node, and what is taken off there. No program in sight.
-/
import Derived.Test.YtnjhfcopphpkpaaGreatDoorZ59
namespace Go.Gk.V33
open Go.RowKit
theorem accIds_lt (n:Nat):(accIds n).Pairwise (· < ·):=by
 unfold accIds;rw[List.pairwise_map];exact List.pairwise_lt_range.imp fun h=>by omega
theorem lt_unique:∀{xs ys:List Int},xs.Pairwise (· < ·)→ys.Pairwise (· < ·)→(∀q,q∈xs↔q∈ys)→xs=ys
 |[],[],_,_,_=>rfl
 |[],y::ys,_,_,h=>by have:=(h y).2 (List.mem_cons_self ..);cases this
 |x::xs,[],_,_,h=>by have:=(h x).1 (List.mem_cons_self ..);cases this
 |x::xs,y::ys,hx,hy,h=>by
  obtain⟨hx1,hx2⟩:=List.pairwise_cons.1 hx;obtain⟨hy1,hy2⟩:=List.pairwise_cons.1 hy
  have e:x=y:=by
   rcases List.mem_cons.1 ((h x).1 (List.mem_cons_self ..))with e|e
   ·exact e
   ·rcases List.mem_cons.1 ((h y).2 (List.mem_cons_self ..))with e2|e2
    ·exact e2.symm
    ·have:=hy1 x e;have:=hx1 y e2;omega
  subst e;rw[lt_unique hx2 hy2 fun q=>?_];constructor
  ·intro hq;rcases List.mem_cons.1 ((h q).1 (List.mem_cons_of_mem _ hq))with e|e
   ·have:=hx1 q hq;omega
   ·exact e
  ·intro hq;rcases List.mem_cons.1 ((h q).2 (List.mem_cons_of_mem _ hq))with e|e
   ·have:=hy1 q hq;omega
   ·exact e
def ptsOf (b:Bks) (e a p:Int):List Int:=(accIds b.ents.length).filter fun q=>decide (q∈ptnOf (posts b.entries) e a p)
theorem lt_nodup {zs:List Int} (h:zs.Pairwise (· < ·)):zs.Nodup:=h.imp fun h e=>by omega
theorem pts_are {b:Bks} (hok:booksOK b=true) {e a p:Int} {zs:List Int} (hl:zs.Pairwise (· < ·)) (hm:∀q,q∈zs↔q∈ptnOf (posts b.entries) e a p):zs=ptsOf b e a p:=by
 refine lt_unique hl ((accIds_lt _).filter _) fun q=>?_
 unfold ptsOf;rw[List.mem_filter];constructor
 ·intro h;exact⟨ids_iff.2 ((parts_few hok (lt_nodup hl) hm).2 q h).1,by simpa using(hm q).1 h⟩
 ·intro h;exact(hm q).2 (by simpa using h.2)
theorem pts_in {b:Bks} {e a p q:Int} (h:q∈ptsOf b e a p):1≤q∧q≤b.ents.length:=ids_iff.1 (List.mem_filter.1 h).1
theorem pts_len (b:Bks) (e a p:Int):(ptsOf b e a p).length≤b.ents.length:=by
 unfold ptsOf;exact Nat.le_trans (List.length_filter_le _ _) (by rw[accIds_len];omega)
def pairsAt (b:Bks) (node a p x:Int):List (Int×Int):=((ptsOf b x a p).filter fun y=>meetOf b.stakes p x y==node).map fun y=>(x,y)
def pairsD (b:Bks) (node a p:Int):List (Int×Int):=(accIds b.ents.length).flatMap (pairsAt b node a p)
theorem meet_under {l:List Stk4} {p x y node:Int} (hn:1≤node) (h:meetOf l p x y=node):underOf l p node x=true:=by
 unfold meetOf at h
 cases hf:(x::upsOf l p x).find? fun t=>underOf l p t y with
 |none=>rw[hf]at h;have h:(0:Int)=node:=h;omega
 |some t=>
  rw[hf]at h;have h:t=node:=h;subst h;have:=List.mem_of_find?_eq_some hf;unfold underOf;rcases List.mem_cons.1 this with rfl|h2
  ·simp
  ·rw[List.contains_iff_mem.2 h2,Bool.or_true]
theorem flatMap_under {α:Type} (F:Int→Bool) (f:Int→List α):∀(l:List Int),(∀x∈l,F x=false→f x=[])→l.flatMap f=(l.filter F).flatMap f
 |[],_=>rfl
 |x::r,h=>by
  have ih:=flatMap_under F f r fun y hy=>h y (List.mem_cons_of_mem _ hy)
  rw[List.flatMap_cons,ih]
  cases hF:F x with
  |true=>rw[List.filter_cons_of_pos hF,List.flatMap_cons]
  |false=>rw[List.filter_cons_of_neg (by simp[hF]),h x (List.mem_cons_self ..) hF,List.nil_append]
theorem at_off {b:Bks} {node a p x:Int} (hn:1≤node) (h:underOf b.stakes p node x=false):pairsAt b node a p x=[]:=by
 unfold pairsAt;rw[List.filter_eq_nil_iff.2 fun y _=>?_]
 ·rfl
 ·intro e;have:=meet_under hn (by simpa using e:meetOf b.stakes p x y=node);rw[h]at this
  cases this
theorem pairs_under {b:Bks} {node a p:Int} (hn:1≤node):pairsD b node a p=((accIds b.ents.length).filter (underOf b.stakes p node)).flatMap (pairsAt b node a p):=
 flatMap_under _ _ _ fun _ _ h=>at_off hn h
theorem at_len (b:Bks) (node a p x:Int):(pairsAt b node a p x).length≤b.ents.length:=by
 unfold pairsAt;rw[List.length_map];exact Nat.le_trans (List.length_filter_le _ _) (pts_len _ _ _ _)
theorem flatMap_len {α β:Type} {f:α→List β} {k:Nat}:∀(l:List α),(∀x∈l,(f x).length≤k)→(l.flatMap f).length≤l.length*k
 |[],_=>by simp
 |x::r,h=>by
  have:=flatMap_len r fun y hy=>h y (List.mem_cons_of_mem _ hy)
  have:=h x (List.mem_cons_self ..);rw[List.flatMap_cons,List.length_append,List.length_cons,Nat.add_mul];omega
theorem pairs_len {b:Bks} (h40:b.ents.length≤40) (node a p:Int):(pairsD b node a p).length≤1600:=by
 have:=flatMap_len (f:=pairsAt b node a p) (accIds b.ents.length) fun x _=>at_len b node a p x
 rw[accIds_len]at this;exact Nat.le_trans this (Nat.le_trans (Nat.mul_le_mul h40 h40) (by decide))
def sideG (acc c4 c5:Int) (q:Int×Int):Rt6:=(3,q.1,acc,c4,c5,q.2)
def sidesD (b:Bks) (c:Rt6) (acc:Int):List Rt6:=(pairsD b c.2.1 acc c.2.2.2.1).map (sideG acc c.2.2.2.1 c.2.2.2.2.1)
theorem sides_len {b:Bks} (h40:b.ents.length≤40) (c:Rt6) (acc:Int):(sidesD b c acc).length≤1600:=by
 unfold sidesD;rw[List.length_map];exact pairs_len h40 _ _ _
def accPtn (b:Bks) (a:Int):Bool:=((b.accs[(a-1).toNat]?).map (·.2.2.2)).getD false
theorem ptn_is {b:Bks} {x:Int} {k:Nat} {hk:k<b.accs.length} (h:b.accs[(x-1).toNat]?=some b.accs[k]):accPtn b x=b.accs[k].2.2.2:=by
 unfold accPtn;rw[h];rfl
theorem three_ptn {b:Bks} (h:booksOK b=true):accPtn b 3=false:=by
 unfold booksOK at h;simp only[Bool.and_eq_true]at h;obtain⟨⟨⟨⟨⟨_,h⟩,_⟩,_⟩,_⟩,_⟩:=h;unfold accsOK at h;simp only[Bool.and_eq_true,decide_eq_true_eq]at h;have h3:=h.1.1.2.2;have h4:(b.accs.take 3)[2]?=ownAccs[2]?:=by rw[h3]
 rw[List.getElem?_take]at h4;have h5:b.accs[2]?=some (0,1,false,false):=by simpa[ownAccs]using h4
 unfold accPtn;rw[show((3:Int)-1).toNat=2 by decide,h5];rfl
def accsP (b:Bks):List Int:=(accLeaves b.accs).filter (accPtn b)
def elimPlus (b:Bks) (c:Rt6):List Rt6:=if c.2.2.1=3 then(accsP b).flatMap (sidesD b c)else[]
def elimMinus (b:Bks) (c:Rt6):List Rt6:=if accPtn b c.2.2.1 then sidesD b c c.2.2.1 else[]
def elimOf (b:Bks) (c:Rt6):Rcp×Int:=if mayOf b c 6 6=0 then({Rcp.none with plus:=elimPlus b c,minus:=elimMinus b c},0)else(Rcp.none,mayOf b c 6 6)
def ElimOk (b:Bks) (c:Rt6) (w:World) (x:Ending) (w':World):Prop:=∃v,x=.returned (.tuple #[v,.int .i64 (elimOf b c).2])∧RcpIs w' v (elimOf b c).1∧Tf w w'
