/-
  The arguments of the rows that take books and a cell's key, opened.
-/
import Derived.Test.YtoegobjnjljegaaGreatDoorZ1
import Derived.Test.YtoegobjnjljegaaGreatDoorZ9
namespace Go.Proofs.YtoegobjnjljegaaGreatDoor
set_option maxRecDepth 100000
open Go.ChangeShapes Go.WideShapes Go.RowKit Go.Deep Go.Gk
theorem zou {H:Type} {enc:TypeId×Value→H} {P:Program} {w:World} {base:Nat} {spare:Nat→Bool} {held:Bool} {t e:TypeId} {d:DataW H} {p:List MemPlace} {A:Option Addr} {n c:Nat} (ht:P.underlying t=some (.slice e)) (hC:0<P.cellsOf e)
 (h:DataW.Trod enc P w base spare held t (.slice A n c) d p):
 n≤c∧c≤maxLen∧(A=none→n=0∧c=0)∧(0<n→∃b off,A=some ⟨b,off,none⟩∧b<w.heap.size∧∀i,i<n→∃(cs:List Value) (m:Nat) (y:DataW H×List MemPlace),cs.length=P.cellsOf e∧(∀j,j<P.cellsOf e→w.cell? ⟨b,off+i*P.cellsOf e+j,none⟩=cs[j]?)∧DataW.trod enc P w base spare held m e cs=some y):=by
 obtain⟨fuel,hf⟩:=h
 rcases open_slice ht hf with⟨hcs,_⟩|⟨a,len,cap,m,k,D,Pl,hcs,hb,hl,hm,hmm,hx,hi⟩
 ·simp[Value.cells]at hcs;obtain⟨rfl,rfl,rfl⟩:=hcs;exact⟨Nat.le_refl _,Nat.zero_le _,fun _=>⟨rfl,rfl⟩,fun h=>absurd h (by omega)⟩
 ·simp[Value.cells]at hcs;obtain⟨rfl,rfl,rfl⟩:=hcs;refine⟨hl,hm,(fun h=>by cases h),fun hn=>?_⟩;obtain⟨b,off,spot⟩:=a;have hnm:n≤m:=by rw[hmm];split<;>omega
  have cell:∀i,i<n→∃cs',cs'.length=P.cellsOf e∧(∀j,j<P.cellsOf e→w.cell? (((⟨b,off,spot⟩:Addr).add (i*P.cellsOf e)).add j)=cs'[j]?)∧DataW.trod enc P w base spare held k e cs'=some (D i,Pl i):=fun i hin=>by
   obtain⟨cs',hc,ht'⟩:=hi i (by omega);obtain⟨_,h1,h2⟩:=World.cells?_some hc;exact⟨cs',h1,h2,ht'⟩
  obtain⟨cs0,h1,h2,_⟩:=cell 0 hn;have hc0:=h2 0 hC;rw[List.getElem?_eq_getElem (by omega),Nat.zero_mul]at hc0;simp only[Addr.add,if_true]at hc0;obtain rfl:spot=none:=World.cell?_spot hc0;refine⟨b,off,rfl,World.block_lt_of_cell? w _ hc0,fun i hin=>?_⟩;obtain⟨cs',g1,g2,g3⟩:=cell i hin;refine⟨cs',k,_,g1,fun j hj=>?_,g3⟩;rw[←g2 j hj];congr 1;simp only[Addr.add];split<;>split<;>simp_all
theorem zk5 {H:Type} {enc:TypeId×Value→H} {P:Program} {w:World} {base:Nat} {spare:Nat→Bool} {held:Bool} {t:TypeId} {n:Nat} {cs:List Value} {x:Option (DataW H×List MemPlace)}
 (ht:P.underlying t=some .bool) (h:DataW.trod enc P w base spare held n t cs=x) (hx:x.isSome):∃b,cs=[.bool b]:=by
 obtain⟨y,rfl⟩:=Option.isSome_iff_exists.1 hx;obtain⟨m,h1,_⟩:=DataW.trod_bool ht h;exact⟨m,h1⟩
theorem ztv {H:Type} {enc:TypeId×Value→H} {P:Program} {w:World} {base:Nat} {spare:Nat→Bool} {held:Bool} {t e:TypeId} {m:Nat} {cs:List Value} {y:DataW H×List MemPlace} (ht:P.underlying t=some (.slice e))
 (h:DataW.trod enc P w base spare held m t cs=some y):∃A n c,cs=[.slice A n c]∧DataW.Trod enc P w base spare held t (.slice A n c) y.1 y.2:=by
 rcases open_slice ht h with⟨hcs,_⟩|⟨a,len,cap,_,_,_,_,hcs,_⟩
 ·subst hcs;exact⟨none,0,0,rfl,m,h⟩
 ·subst hcs;exact⟨some a,len,cap,rfl,m,h⟩
theorem zew {H:Type} {enc:TypeId×Value→H} {P:Program} {w:World} {base:Nat} {spare:Nat→Bool} {held:Bool} {t e:TypeId} {α:Type} {f:α→List Value} {size:Nat} (hf:∀a,(f a).length=size) (ht:P.underlying t=some (.slice e)) (hC:P.cellsOf e=size) (h0:0<size) {OK:α→Prop}
 (he:∀(m:Nat) (cs:List Value) (y:DataW H×List MemPlace),DataW.trod enc P w base spare held m e cs=some y→∃a,cs=f a∧OK a) {m:Nat} {cs:List Value} {y:DataW H×List MemPlace} (h:DataW.trod enc P w base spare held m t cs=some y):∃v l,cs=[v]∧zae f size (fun _=>True) w v l∧∀a∈l,OK a:=by
 obtain⟨A,n,c,rfl,hT⟩:=ztv ht h;obtain⟨h1,h2,h0',h3⟩:=zou ht (by rw[hC];exact h0) hT;rw[hC]at h3;by_cases hn:0<n
 ·obtain⟨b,off,rfl,hb,hc⟩:=h3 hn
  obtain⟨l,hl,hp⟩:=zvw (P:=fun i (x:α)=>(∀j u,(f x)[j]?=some u→w.cell? ⟨b,off+i*size+j,none⟩=some u)∧OK x) n (fun i hi=>by
   obtain⟨cs,m,y,hcs,hcell,ht⟩:=hc i hi;obtain⟨a,rfl,ha⟩:=he m cs y ht
   exact⟨a,fun j u hu=>by
    have hj:=(List.getElem?_eq_some_iff.1 hu).1;rw[hf]at hj
    exact(hcell j hj).trans hu,ha⟩)
  subst hl;refine⟨_,l,rfl,⟨_,c,rfl,h1,h2,zc5 hf l,h0',fun _=>⟨b,off,rfl,⟨trivial,hb⟩,fun j u hu=>?_⟩⟩,fun a ha=>?_⟩
  ·have hj:=(List.getElem?_eq_some_iff.1 hu).1;rw[zc5 hf]at hj;have hi:j/size<l.length:=Nat.div_lt_of_lt_mul (by rw[Nat.mul_comm];exact hj);have hfa:=zfp hf l (j/size) hi (j%size) (Nat.mod_lt _ h0);rw[Nat.div_add_mod' j size,hu]at hfa;have:=(hp (j/size) hi).1 (j%size) u hfa.symm;rw[Nat.add_assoc,Nat.div_add_mod']at this;exact this
  ·obtain⟨i,hi,rfl⟩:=List.mem_iff_getElem.1 ha;exact(hp i hi).2
 ·obtain rfl:n=0:=by omega
  exact⟨_,[],rfl,⟨A,c,rfl,h1,h2,by simp,h0',fun h=>absurd h (by simp)⟩,fun a ha=>by cases ha⟩
theorem zb4 {a:Int} (h:(Lit.int .i64 a).wf=true):I64 a:=by
 have h1:(decide (IntKind.i64.min≤a)&&decide (a≤IntKind.i64.max))=true:=h;rw[show IntKind.i64.min= -9223372036854775808 by rfl,show IntKind.i64.max=9223372036854775807 by rfl]at h1;simp only[Bool.and_eq_true,decide_eq_true_eq]at h1;unfold I64;omega
section
variable {H:Type} {enc:TypeId×Value→H} {w:World} {base:Nat} {spare:Nat→Bool} {held:Bool}
theorem zau:Tryz.prog.cellsOf 3=1:=by kernel_rfl
theorem zk6:Tryz.prog.cellsOf 4=1:=by kernel_rfl
theorem zjv:Tryz.prog.cellsOf 44=2:=by kernel_rfl
theorem zhr:Tryz.prog.cellsOf 91=4:=by kernel_rfl
theorem zjw:Tryz.prog.cellsOf 224=4:=by kernel_rfl
theorem zk7:Tryz.prog.cellsOf 115=6:=by kernel_rfl
theorem zk8:Tryz.prog.cellsOf 227=2:=by kernel_rfl
theorem zk9:Tryz.prog.cellsOf 60=4:=by kernel_rfl
theorem zjx:Tryz.prog.cellsOf 207=3:=by kernel_rfl
theorem zq6:Tryz.prog.cellsOf 31=6:=by kernel_rfl
theorem zov:Tryz.prog.cellsOf 29=6:=by kernel_rfl
theorem zow:Tryz.prog.cellsOf 204=1:=by kernel_rfl
theorem zq7:Tryz.prog.cellsOf 22=1:=by kernel_rfl
theorem zla:Tryz.prog.cellsOf 23=1:=by kernel_rfl
theorem znv:Tryz.prog.cellsOf 24=1:=by kernel_rfl
theorem zox:Tryz.prog.cellsOf 25=1:=by kernel_rfl
theorem zoy:Tryz.prog.cellsOf 26=1:=by kernel_rfl
theorem zmj:Tryz.prog.cellsOf 27=1:=by kernel_rfl
theorem zvq {m:Nat} {cs:List Value} {y:DataW H×List MemPlace} (h:DataW.trod enc Tryz.prog w base spare held m 3 cs=some y):∃a,cs=zby a∧I64 a:=by
 obtain⟨a,rfl,_,h2⟩:=DataW.trod_int Tryz.underlying3 h;exact⟨a,rfl,zb4 h2⟩
theorem ztw {m:Nat} {cs:List Value} {y:DataW H×List MemPlace} (h:DataW.trod enc Tryz.prog w base spare held m 44 cs=some y):∃a,cs=zn0 a∧I64 a.1∧I64 a.2:=by
 obtain⟨xs,k,_,_,hl,hlen,hf⟩:=DataW.trod_struct Tryz.underlying44 h;rw[zjv]at hl;have hlen':xs.length=2:=hlen;match cs,hl with
 |[c0,c1],_=>
  have g0:DataW.trod enc Tryz.prog w base spare held k 3 (([c0,c1].drop 0).take (Tryz.prog.cellsOf 3))=xs[0]?:=hf 0 _ rfl;rw[zau]at g0;obtain⟨m0,e0,w0⟩:=zav Tryz.underlying3 g0 (by rw[List.getElem?_eq_getElem (by omega)];rfl);have g1:DataW.trod enc Tryz.prog w base spare held k 3 (([c0,c1].drop 1).take (Tryz.prog.cellsOf 3))=xs[1]?:=hf 1 _ rfl;rw[zau]at g1;obtain⟨m1,e1,w1⟩:=zav Tryz.underlying3 g1 (by rw[List.getElem?_eq_getElem (by omega)];rfl);simp at e0;subst e0;simp at e1;subst e1;exact⟨(m0,m1),rfl,⟨zb4 w0,zb4 w1⟩⟩
theorem open_acc {m:Nat} {cs:List Value} {y:DataW H×List MemPlace} (h:DataW.trod enc Tryz.prog w base spare held m 91 cs=some y):∃a,cs=zfq a∧(I64 a.1∧I64 a.2.1):=by
 obtain⟨xs,k,_,_,hl,hlen,hf⟩:=DataW.trod_struct Tryz.underlying91 h;rw[zhr]at hl;have hlen':xs.length=4:=hlen;match cs,hl with
 |[c0,c1,c2,c3],_=>
  have g0:DataW.trod enc Tryz.prog w base spare held k 3 (([c0,c1,c2,c3].drop 0).take (Tryz.prog.cellsOf 3))=xs[0]?:=hf 0 _ rfl;rw[zau]at g0;obtain⟨m0,e0,w0⟩:=zav Tryz.underlying3 g0 (by rw[List.getElem?_eq_getElem (by omega)];rfl);have g1:DataW.trod enc Tryz.prog w base spare held k 3 (([c0,c1,c2,c3].drop 1).take (Tryz.prog.cellsOf 3))=xs[1]?:=hf 1 _ rfl;rw[zau]at g1;obtain⟨m1,e1,w1⟩:=zav Tryz.underlying3 g1 (by rw[List.getElem?_eq_getElem (by omega)];rfl);have g2:DataW.trod enc Tryz.prog w base spare held k 4 (([c0,c1,c2,c3].drop 2).take (Tryz.prog.cellsOf 4))=xs[2]?:=hf 2 _ rfl;rw[zk6]at g2;obtain⟨m2,e2⟩:=zk5 Tryz.underlying4 g2 (by rw[List.getElem?_eq_getElem (by omega)];rfl);have g3:DataW.trod enc Tryz.prog w base spare held k 4 (([c0,c1,c2,c3].drop 3).take (Tryz.prog.cellsOf 4))=xs[3]?:=hf 3 _ rfl;rw[zk6]at g3;obtain⟨m3,e3⟩:=zk5 Tryz.underlying4 g3 (by rw[List.getElem?_eq_getElem (by omega)];rfl);simp at e0;subst e0;simp at e1;subst e1;simp at e2;subst e2;simp at e3;subst e3;exact⟨(m0,m1,m2,m3),rfl,⟨zb4 w0,zb4 w1⟩⟩
theorem open_stk {m:Nat} {cs:List Value} {y:DataW H×List MemPlace} (h:DataW.trod enc Tryz.prog w base spare held m 224 cs=some y):∃a,cs=zdr a∧(I64 a.1∧I64 a.2.1∧I64 a.2.2.1∧I64 a.2.2.2):=by
 obtain⟨xs,k,_,_,hl,hlen,hf⟩:=DataW.trod_struct Tryz.underlying224 h;rw[zjw]at hl;have hlen':xs.length=4:=hlen;match cs,hl with
 |[c0,c1,c2,c3],_=>
  have g0:DataW.trod enc Tryz.prog w base spare held k 3 (([c0,c1,c2,c3].drop 0).take (Tryz.prog.cellsOf 3))=xs[0]?:=hf 0 _ rfl;rw[zau]at g0;obtain⟨m0,e0,w0⟩:=zav Tryz.underlying3 g0 (by rw[List.getElem?_eq_getElem (by omega)];rfl);have g1:DataW.trod enc Tryz.prog w base spare held k 3 (([c0,c1,c2,c3].drop 1).take (Tryz.prog.cellsOf 3))=xs[1]?:=hf 1 _ rfl;rw[zau]at g1;obtain⟨m1,e1,w1⟩:=zav Tryz.underlying3 g1 (by rw[List.getElem?_eq_getElem (by omega)];rfl);have g2:DataW.trod enc Tryz.prog w base spare held k 3 (([c0,c1,c2,c3].drop 2).take (Tryz.prog.cellsOf 3))=xs[2]?:=hf 2 _ rfl;rw[zau]at g2;obtain⟨m2,e2,w2⟩:=zav Tryz.underlying3 g2 (by rw[List.getElem?_eq_getElem (by omega)];rfl);have g3:DataW.trod enc Tryz.prog w base spare held k 3 (([c0,c1,c2,c3].drop 3).take (Tryz.prog.cellsOf 3))=xs[3]?:=hf 3 _ rfl;rw[zau]at g3;obtain⟨m3,e3,w3⟩:=zav Tryz.underlying3 g3 (by rw[List.getElem?_eq_getElem (by omega)];rfl);simp at e0;subst e0;simp at e1;subst e1;simp at e2;subst e2;simp at e3;subst e3;exact⟨(m0,m1,m2,m3),rfl,⟨zb4 w0,zb4 w1,zb4 w2,zb4 w3⟩⟩
theorem zvr {m:Nat} {cs:List Value} {y:DataW H×List MemPlace} (h:DataW.trod enc Tryz.prog w base spare held m 115 cs=some y):∃a,cs=za2 a∧(I64 a.1∧I64 a.2.1∧I64 a.2.2.1∧I64 a.2.2.2.1∧I64 a.2.2.2.2.1∧I64 a.2.2.2.2.2):=by
 obtain⟨xs,k,_,_,hl,hlen,hf⟩:=DataW.trod_struct Tryz.underlying115 h;rw[zk7]at hl;have hlen':xs.length=5:=hlen;match cs,hl with
 |[c0,c1,c2,c3,c4,c5],_=>
  have g0:DataW.trod enc Tryz.prog w base spare held k 3 (([c0,c1,c2,c3,c4,c5].drop 0).take (Tryz.prog.cellsOf 3))=xs[0]?:=hf 0 _ rfl;rw[zau]at g0;obtain⟨m0,e0,w0⟩:=zav Tryz.underlying3 g0 (by rw[List.getElem?_eq_getElem (by omega)];rfl);have g1:DataW.trod enc Tryz.prog w base spare held k 3 (([c0,c1,c2,c3,c4,c5].drop 1).take (Tryz.prog.cellsOf 3))=xs[1]?:=hf 1 _ rfl;rw[zau]at g1;obtain⟨m1,e1,w1⟩:=zav Tryz.underlying3 g1 (by rw[List.getElem?_eq_getElem (by omega)];rfl);have g2:DataW.trod enc Tryz.prog w base spare held k 3 (([c0,c1,c2,c3,c4,c5].drop 2).take (Tryz.prog.cellsOf 3))=xs[2]?:=hf 2 _ rfl;rw[zau]at g2;obtain⟨m2,e2,w2⟩:=zav Tryz.underlying3 g2 (by rw[List.getElem?_eq_getElem (by omega)];rfl);have g3:DataW.trod enc Tryz.prog w base spare held k 3 (([c0,c1,c2,c3,c4,c5].drop 3).take (Tryz.prog.cellsOf 3))=xs[3]?:=hf 3 _ rfl;rw[zau]at g3;obtain⟨m3,e3,w3⟩:=zav Tryz.underlying3 g3 (by rw[List.getElem?_eq_getElem (by omega)];rfl);have g4:DataW.trod enc Tryz.prog w base spare held k 44 (([c0,c1,c2,c3,c4,c5].drop 4).take (Tryz.prog.cellsOf 44))=xs[4]?:=hf 4 _ rfl;rw[zjv]at g4
  obtain⟨y4,hy4⟩:∃y,xs[4]?=some y:=⟨_,List.getElem?_eq_getElem (by omega)⟩
  rw[hy4]at g4;obtain⟨m4,e4,w4⟩:=ztw g4;simp at e0;subst e0;simp at e1;subst e1;simp at e2;subst e2;simp at e3;subst e3;obtain⟨m4a,m4b⟩:=m4;simp[zn0]at e4;obtain⟨rfl,rfl⟩:=e4;exact⟨(m0,m1,m2,m3,m4a,m4b),rfl,⟨zb4 w0,zb4 w1,zb4 w2,zb4 w3,w4.1,w4.2⟩⟩
theorem zvs {m:Nat} {cs:List Value} {y:DataW H×List MemPlace} (h:DataW.trod enc Tryz.prog w base spare held m 227 cs=some y):∃a,cs=zn0 a∧(I64 a.1∧I64 a.2):=by
 obtain⟨xs,k,_,_,hl,hlen,hf⟩:=DataW.trod_struct Tryz.underlying227 h;rw[zk8]at hl;have hlen':xs.length=2:=hlen;match cs,hl with
 |[c0,c1],_=>
  have g0:DataW.trod enc Tryz.prog w base spare held k 3 (([c0,c1].drop 0).take (Tryz.prog.cellsOf 3))=xs[0]?:=hf 0 _ rfl;rw[zau]at g0;obtain⟨m0,e0,w0⟩:=zav Tryz.underlying3 g0 (by rw[List.getElem?_eq_getElem (by omega)];rfl);have g1:DataW.trod enc Tryz.prog w base spare held k 3 (([c0,c1].drop 1).take (Tryz.prog.cellsOf 3))=xs[1]?:=hf 1 _ rfl;rw[zau]at g1;obtain⟨m1,e1,w1⟩:=zav Tryz.underlying3 g1 (by rw[List.getElem?_eq_getElem (by omega)];rfl);simp at e0;subst e0;simp at e1;subst e1;exact⟨(m0,m1),rfl,⟨zb4 w0,zb4 w1⟩⟩
theorem zvt {m:Nat} {cs:List Value} {y:DataW H×List MemPlace} (h:DataW.trod enc Tryz.prog w base spare held m 60 cs=some y):∃a,cs=zdr a∧(I64 a.1∧I64 a.2.1∧I64 a.2.2.1∧I64 a.2.2.2):=by
 obtain⟨xs,k,_,_,hl,hlen,hf⟩:=DataW.trod_struct Tryz.underlying60 h;rw[zk9]at hl;have hlen':xs.length=4:=hlen;match cs,hl with
 |[c0,c1,c2,c3],_=>
  have g0:DataW.trod enc Tryz.prog w base spare held k 3 (([c0,c1,c2,c3].drop 0).take (Tryz.prog.cellsOf 3))=xs[0]?:=hf 0 _ rfl;rw[zau]at g0;obtain⟨m0,e0,w0⟩:=zav Tryz.underlying3 g0 (by rw[List.getElem?_eq_getElem (by omega)];rfl);have g1:DataW.trod enc Tryz.prog w base spare held k 3 (([c0,c1,c2,c3].drop 1).take (Tryz.prog.cellsOf 3))=xs[1]?:=hf 1 _ rfl;rw[zau]at g1;obtain⟨m1,e1,w1⟩:=zav Tryz.underlying3 g1 (by rw[List.getElem?_eq_getElem (by omega)];rfl);have g2:DataW.trod enc Tryz.prog w base spare held k 3 (([c0,c1,c2,c3].drop 2).take (Tryz.prog.cellsOf 3))=xs[2]?:=hf 2 _ rfl;rw[zau]at g2;obtain⟨m2,e2,w2⟩:=zav Tryz.underlying3 g2 (by rw[List.getElem?_eq_getElem (by omega)];rfl);have g3:DataW.trod enc Tryz.prog w base spare held k 3 (([c0,c1,c2,c3].drop 3).take (Tryz.prog.cellsOf 3))=xs[3]?:=hf 3 _ rfl;rw[zau]at g3;obtain⟨m3,e3,w3⟩:=zav Tryz.underlying3 g3 (by rw[List.getElem?_eq_getElem (by omega)];rfl);simp at e0;subst e0;simp at e1;subst e1;simp at e2;subst e2;simp at e3;subst e3;exact⟨(m0,m1,m2,m3),rfl,⟨zb4 w0,zb4 w1,zb4 w2,zb4 w3⟩⟩
theorem zvu {m:Nat} {cs:List Value} {y:DataW H×List MemPlace} (h:DataW.trod enc Tryz.prog w base spare held m 31 cs=some y):∃a,cs=za2 a∧(I64 a.1∧I64 a.2.1∧I64 a.2.2.1∧I64 a.2.2.2.1∧I64 a.2.2.2.2.1∧I64 a.2.2.2.2.2):=by
 obtain⟨xs,k,_,_,hl,hlen,hf⟩:=DataW.trod_struct Tryz.underlying31 h;rw[zq6]at hl;have hlen':xs.length=6:=hlen;match cs,hl with
 |[c0,c1,c2,c3,c4,c5],_=>
  have g0:DataW.trod enc Tryz.prog w base spare held k 3 (([c0,c1,c2,c3,c4,c5].drop 0).take (Tryz.prog.cellsOf 3))=xs[0]?:=hf 0 _ rfl;rw[zau]at g0;obtain⟨m0,e0,w0⟩:=zav Tryz.underlying3 g0 (by rw[List.getElem?_eq_getElem (by omega)];rfl);have g1:DataW.trod enc Tryz.prog w base spare held k 3 (([c0,c1,c2,c3,c4,c5].drop 1).take (Tryz.prog.cellsOf 3))=xs[1]?:=hf 1 _ rfl;rw[zau]at g1;obtain⟨m1,e1,w1⟩:=zav Tryz.underlying3 g1 (by rw[List.getElem?_eq_getElem (by omega)];rfl);have g2:DataW.trod enc Tryz.prog w base spare held k 3 (([c0,c1,c2,c3,c4,c5].drop 2).take (Tryz.prog.cellsOf 3))=xs[2]?:=hf 2 _ rfl;rw[zau]at g2;obtain⟨m2,e2,w2⟩:=zav Tryz.underlying3 g2 (by rw[List.getElem?_eq_getElem (by omega)];rfl);have g3:DataW.trod enc Tryz.prog w base spare held k 3 (([c0,c1,c2,c3,c4,c5].drop 3).take (Tryz.prog.cellsOf 3))=xs[3]?:=hf 3 _ rfl;rw[zau]at g3;obtain⟨m3,e3,w3⟩:=zav Tryz.underlying3 g3 (by rw[List.getElem?_eq_getElem (by omega)];rfl);have g4:DataW.trod enc Tryz.prog w base spare held k 3 (([c0,c1,c2,c3,c4,c5].drop 4).take (Tryz.prog.cellsOf 3))=xs[4]?:=hf 4 _ rfl;rw[zau]at g4;obtain⟨m4,e4,w4⟩:=zav Tryz.underlying3 g4 (by rw[List.getElem?_eq_getElem (by omega)];rfl);have g5:DataW.trod enc Tryz.prog w base spare held k 3 (([c0,c1,c2,c3,c4,c5].drop 5).take (Tryz.prog.cellsOf 3))=xs[5]?:=hf 5 _ rfl;rw[zau]at g5;obtain⟨m5,e5,w5⟩:=zav Tryz.underlying3 g5 (by rw[List.getElem?_eq_getElem (by omega)];rfl);simp at e0;subst e0;simp at e1;subst e1;simp at e2;subst e2;simp at e3;subst e3;simp at e4;subst e4;simp at e5;subst e5;exact⟨(m0,m1,m2,m3,m4,m5),rfl,⟨zb4 w0,zb4 w1,zb4 w2,zb4 w3,zb4 w4,zb4 w5⟩⟩
theorem ztx {m:Nat} {cs:List Value} {y:DataW H×List MemPlace} (h:DataW.trod enc Tryz.prog w base spare held m 207 cs=some y):∃a:Ent×Value,cs=zvp a∧(zae zdr 4 (fun _=>True) w a.2 a.1.lines∧I64 a.1.period∧I64 a.1.reverses∧∀l∈a.1.lines,I64 l.1∧I64 l.2.1∧I64 l.2.2.1∧I64 l.2.2.2):=by
 obtain⟨xs,k,_,_,hl,hlen,hf⟩:=DataW.trod_struct Tryz.underlying207 h;rw[zjx]at hl;have hlen':xs.length=3:=hlen;match cs,hl with
 |[c0,c1,c2],_=>
  have g0:DataW.trod enc Tryz.prog w base spare held k 3 (([c0,c1,c2].drop 0).take (Tryz.prog.cellsOf 3))=xs[0]?:=hf 0 _ rfl;have g1:DataW.trod enc Tryz.prog w base spare held k 3 (([c0,c1,c2].drop 1).take (Tryz.prog.cellsOf 3))=xs[1]?:=hf 1 _ rfl;have g2:DataW.trod enc Tryz.prog w base spare held k 204 (([c0,c1,c2].drop 2).take (Tryz.prog.cellsOf 204))=xs[2]?:=hf 2 _ rfl;rw[zau]at g0 g1;rw[zow]at g2;obtain⟨m0,e0,w0⟩:=zav Tryz.underlying3 g0 (by rw[List.getElem?_eq_getElem (by omega)];rfl);obtain⟨m1,e1,w1⟩:=zav Tryz.underlying3 g1 (by rw[List.getElem?_eq_getElem (by omega)];rfl)
  obtain⟨y2,hy2⟩:∃y,xs[2]?=some y:=⟨_,List.getElem?_eq_getElem (by omega)⟩
  rw[hy2]at g2;obtain⟨v,l,e2,hr,hk⟩:=zew zbg Tryz.underlying204 zk9 (by decide) (fun m cs y h=>zvt h) g2;simp at e0 e1 e2;subst e0 e1 e2;exact⟨(⟨m0,m1,l⟩,c2),rfl,hr,zb4 w0,zb4 w1,hk⟩
theorem zty {r:Reach} {base':Nat} {v:Value} {d:DataW H} {p:List MemPlace} (hval:Value.okWide Tryz.prog w r base' 29 v) (h:DataW.Trod enc Tryz.prog w base spare held 29 v d p):∃b,BooksIs (fun _=>True) w v b∧Bks64 b:=by
 obtain⟨cs,rfl,_⟩:=okWide_struct Tryz.underlying29 hval;obtain⟨fuel,hf0⟩:=h;obtain⟨xs,k,_,_,hl,hlen,hf⟩:=DataW.trod_struct Tryz.underlying29 hf0;rw[zov]at hl;have hlen':xs.length=6:=hlen;obtain⟨cs⟩:=cs;have hcells:(Value.agg ⟨cs⟩).cells.toList=cs:=rfl;rw[hcells]at hl hf;match cs,hl with
 |[c0,c1,c2,c3,c4,c5],_=>
  have g0:DataW.trod enc Tryz.prog w base spare held k 22 (([c0,c1,c2,c3,c4,c5].drop 0).take (Tryz.prog.cellsOf 22))=xs[0]?:=hf 0 _ rfl;have g1:DataW.trod enc Tryz.prog w base spare held k 23 (([c0,c1,c2,c3,c4,c5].drop 1).take (Tryz.prog.cellsOf 23))=xs[1]?:=hf 1 _ rfl;have g2:DataW.trod enc Tryz.prog w base spare held k 24 (([c0,c1,c2,c3,c4,c5].drop 2).take (Tryz.prog.cellsOf 24))=xs[2]?:=hf 2 _ rfl;have g3:DataW.trod enc Tryz.prog w base spare held k 25 (([c0,c1,c2,c3,c4,c5].drop 3).take (Tryz.prog.cellsOf 25))=xs[3]?:=hf 3 _ rfl;have g4:DataW.trod enc Tryz.prog w base spare held k 26 (([c0,c1,c2,c3,c4,c5].drop 4).take (Tryz.prog.cellsOf 26))=xs[4]?:=hf 4 _ rfl;have g5:DataW.trod enc Tryz.prog w base spare held k 27 (([c0,c1,c2,c3,c4,c5].drop 5).take (Tryz.prog.cellsOf 27))=xs[5]?:=hf 5 _ rfl
  have hs:∀i,i<6→∃y,xs[i]?=some y:=fun i hi=>⟨_,List.getElem?_eq_getElem (by omega)⟩
  obtain⟨y0,hy0⟩:=hs 0 (by decide);obtain⟨y1,hy1⟩:=hs 1 (by decide);obtain⟨y2,hy2⟩:=hs 2 (by decide);obtain⟨y3,hy3⟩:=hs 3 (by decide);obtain⟨y4,hy4⟩:=hs 4 (by decide);obtain⟨y5,hy5⟩:=hs 5 (by decide);rw[hy0,zq7]at g0;rw[hy1,zla]at g1;rw[hy2,znv]at g2;rw[hy3,zox]at g3;rw[hy4,zoy]at g4;rw[hy5,zmj]at g5;obtain⟨v0,l0,e0,r0,k0⟩:=zew zap Tryz.underlying22 zau (by decide) (fun m cs y h=>zvq h) g0;obtain⟨v1,l1,e1,r1,k1⟩:=zew zcm Tryz.underlying23 zhr (by decide) (fun m cs y h=>open_acc h) g1;obtain⟨v2,l2,e2,r2,k2⟩:=zew zbg Tryz.underlying24 zjw (by decide) (fun m cs y h=>open_stk h) g2;obtain⟨v3,l3,e3,r3,k3⟩:=zew zd3 Tryz.underlying25 zk7 (by decide) (fun m cs y h=>zvr h) g3;obtain⟨v4,l4,e4,r4,k4⟩:=zew zk1 Tryz.underlying26 zk8 (by decide) (fun m cs y h=>zvs h) g4;obtain⟨v5,l5,e5,r5,k5⟩:=zew zc6 Tryz.underlying27 zjx (by decide) (fun m cs y h=>ztx h) g5;simp at e0 e1 e2 e3 e4 e5;subst e0 e1 e2 e3 e4 e5;refine⟨⟨l0,l1,l2,l3,l4,l5.map (·.1)⟩,⟨_,_,_,_,_,_,rfl,r0,r1,r2,r3,r4,l5,rfl,r5,fun p hp=>(k5 p hp).1⟩,⟨k0,k1,k2,k3,k4,fun x hx=>?_⟩⟩;obtain⟨p,hp,rfl⟩:=List.mem_map.1 hx;exact(k5 p hp).2
theorem z5x {r:Reach} {base':Nat} {v:Value} {d:DataW H} {p:List MemPlace} (hval:Value.okWide Tryz.prog w r base' 31 v) (h:DataW.Trod enc Tryz.prog w base spare held 31 v d p):∃c:Rt6,v=zcq c∧(I64 c.1∧I64 c.2.1∧I64 c.2.2.1∧I64 c.2.2.2.1∧I64 c.2.2.2.2.1∧I64 c.2.2.2.2.2):=by
 obtain⟨cs,rfl,_⟩:=okWide_struct Tryz.underlying31 hval;obtain⟨fuel,hf⟩:=h;obtain⟨a,e,ha⟩:=zvu hf;obtain⟨cs⟩:=cs;have hcells:(Value.agg ⟨cs⟩).cells.toList=cs:=rfl;rw[hcells]at e;subst e;exact⟨a,rfl,ha⟩
