/-
  Plain: the pairs that meet at a node, and what is taken off there. No program in sight.
-/
import Derived.Test.YtoegobjnjljegaaGreatDoorZ59
namespace Go.Gk.V33
open Go.RowKit
theorem zi3 (n:Nat):(zal n).Pairwise (· < ·):=by
 unfold zal;rw[List.pairwise_map];exact List.pairwise_lt_range.imp fun h=>by omega
theorem zp1:∀{xs ys:List Int},xs.Pairwise (· < ·)→ys.Pairwise (· < ·)→(∀q,q∈xs↔q∈ys)→xs=ys
 |[],[],_,_,_=>rfl
 |[],y::ys,_,_,h=>by have:=(h y).2 (List.mem_cons_self ..);cases this
 |x::xs,[],_,_,h=>by have:=(h x).1 (List.mem_cons_self ..);cases this
 |x::xs,y::ys,hx,hy,h=>by
  obtain⟨hx1,hx2⟩:=List.pairwise_cons.1 hx;obtain⟨hy1,hy2⟩:=List.pairwise_cons.1 hy
  have e:x=y:=by
   rcases List.mem_cons.1 ((h x).1 (List.mem_cons_self ..))with e|e
   ·exact e
   ·rcases List.mem_cons.1 ((h y).2 (List.mem_cons_self ..))with e2|e2
    ·exact e2.symm
    ·have:=hy1 x e;have:=hx1 y e2;omega
  subst e;rw[zp1 hx2 hy2 fun q=>?_];constructor
  ·intro hq;rcases List.mem_cons.1 ((h q).1 (List.mem_cons_of_mem _ hq))with e|e
   ·have:=hx1 q hq;omega
   ·exact e
  ·intro hq;rcases List.mem_cons.1 ((h q).2 (List.mem_cons_of_mem _ hq))with e|e
   ·have:=hy1 q hq;omega
   ·exact e
def zic (b:Bks) (e a p:Int):List Int:=(zal b.ents.length).filter fun q=>decide (q∈zf1 (zay b.entries) e a p)
theorem zoi {zs:List Int} (h:zs.Pairwise (· < ·)):zs.Nodup:=h.imp fun h e=>by omega
theorem pts_are {b:Bks} (hok:zba b=true) {e a p:Int} {zs:List Int} (hl:zs.Pairwise (· < ·)) (hm:∀q,q∈zs↔q∈zf1 (zay b.entries) e a p):zs=zic b e a p:=by
 refine zp1 hl ((zi3 _).filter _) fun q=>?_
 unfold zic;rw[List.mem_filter];constructor
 ·intro h;exact⟨zgc.2 ((zxl hok (zoi hl) hm).2 q h).1,by simpa using(hm q).1 h⟩
 ·intro h;exact(hm q).2 (by simpa using h.2)
theorem pts_in {b:Bks} {e a p q:Int} (h:q∈zic b e a p):1≤q∧q≤b.ents.length:=zgc.1 (List.mem_filter.1 h).1
theorem zxf (b:Bks) (e a p:Int):(zic b e a p).length≤b.ents.length:=by
 unfold zic;exact Nat.le_trans (List.length_filter_le _ _) (by rw[za5];omega)
def zdz (b:Bks) (node a p x:Int):List (Int×Int):=((zic b x a p).filter fun y=>ze5 b.stakes p x y==node).map fun y=>(x,y)
def zeb (b:Bks) (node a p:Int):List (Int×Int):=(zal b.ents.length).flatMap (zdz b node a p)
theorem zu2 {l:List zbv} {p x y node:Int} (hn:1≤node) (h:ze5 l p x y=node):zbm l p node x=true:=by
 unfold ze5 at h
 cases hf:(x::zds l p x).find? fun t=>zbm l p t y with
 |none=>rw[hf]at h;have h:(0:Int)=node:=h;omega
 |some t=>
  rw[hf]at h;have h:t=node:=h;subst h;have:=List.mem_of_find?_eq_some hf;unfold zbm;rcases List.mem_cons.1 this with rfl|h2
  ·simp
  ·rw[List.contains_iff_mem.2 h2,Bool.or_true]
theorem zi4 {α:Type} (F:Int→Bool) (f:Int→List α):∀(l:List Int),(∀x∈l,F x=false→f x=[])→l.flatMap f=(l.filter F).flatMap f
 |[],_=>rfl
 |x::r,h=>by
  have ih:=zi4 F f r fun y hy=>h y (List.mem_cons_of_mem _ hy)
  rw[List.flatMap_cons,ih]
  cases hF:F x with
  |true=>rw[List.filter_cons_of_pos hF,List.flatMap_cons]
  |false=>rw[List.filter_cons_of_neg (by simp[hF]),h x (List.mem_cons_self ..) hF,List.nil_append]
theorem at_off {b:Bks} {node a p x:Int} (hn:1≤node) (h:zbm b.stakes p node x=false):zdz b node a p x=[]:=by
 unfold zdz;rw[List.filter_eq_nil_iff.2 fun y _=>?_]
 ·rfl
 ·intro e;have:=zu2 hn (by simpa using e:ze5 b.stakes p x y=node);rw[h]at this
  cases this
theorem zr1 {b:Bks} {node a p:Int} (hn:1≤node):zeb b node a p=((zal b.ents.length).filter (zbm b.stakes p node)).flatMap (zdz b node a p):=
 zi4 _ _ _ fun _ _ h=>at_off hn h
theorem at_len (b:Bks) (node a p x:Int):(zdz b node a p x).length≤b.ents.length:=by
 unfold zdz;rw[List.length_map];exact Nat.le_trans (List.length_filter_le _ _) (zxf _ _ _ _)
theorem zlz {α β:Type} {f:α→List β} {k:Nat}:∀(l:List α),(∀x∈l,(f x).length≤k)→(l.flatMap f).length≤l.length*k
 |[],_=>by simp
 |x::r,h=>by
  have:=zlz r fun y hy=>h y (List.mem_cons_of_mem _ hy)
  have:=h x (List.mem_cons_self ..);rw[List.flatMap_cons,List.length_append,List.length_cons,Nat.add_mul];omega
theorem zl0 {b:Bks} (h40:b.ents.length≤40) (node a p:Int):(zeb b node a p).length≤1600:=by
 have:=zlz (f:=zdz b node a p) (zal b.ents.length) fun x _=>at_len b node a p x
 rw[za5]at this;exact Nat.le_trans this (Nat.le_trans (Nat.mul_le_mul h40 h40) (by decide))
def zhq (acc c4 c5:Int) (q:Int×Int):Rt6:=(3,q.1,acc,c4,c5,q.2)
def zce (b:Bks) (c:Rt6) (acc:Int):List Rt6:=(zeb b c.2.1 acc c.2.2.2.1).map (zhq acc c.2.2.2.1 c.2.2.2.2.1)
theorem zp2 {b:Bks} (h40:b.ents.length≤40) (c:Rt6) (acc:Int):(zce b c acc).length≤1600:=by
 unfold zce;rw[List.length_map];exact zl0 h40 _ _ _
def zfh (b:Bks) (a:Int):Bool:=((b.accs[(a-1).toNat]?).map (·.2.2.2)).getD false
theorem ztf {b:Bks} {x:Int} {k:Nat} {hk:k<b.accs.length} (h:b.accs[(x-1).toNat]?=some b.accs[k]):zfh b x=b.accs[k].2.2.2:=by
 unfold zfh;rw[h];rfl
theorem zp3 {b:Bks} (h:zba b=true):zfh b 3=false:=by
 unfold zba at h;simp only[Bool.and_eq_true]at h;obtain⟨⟨⟨⟨⟨_,h⟩,_⟩,_⟩,_⟩,_⟩:=h;unfold zj2 at h;simp only[Bool.and_eq_true,decide_eq_true_eq]at h;have h3:=h.1.1.2.2;have h4:(b.accs.take 3)[2]?=zef[2]?:=by rw[h3]
 rw[List.getElem?_take]at h4;have h5:b.accs[2]?=some (0,1,false,false):=by simpa[zef]using h4
 unfold zfh;rw[show((3:Int)-1).toNat=2 by decide,h5];rfl
def zen (b:Bks):List Int:=(zag b.accs).filter (zfh b)
def zgb (b:Bks) (c:Rt6):List Rt6:=if c.2.2.1=3 then(zen b).flatMap (zce b c)else[]
def ze4 (b:Bks) (c:Rt6):List Rt6:=if zfh b c.2.2.1 then zce b c c.2.2.1 else[]
def zcf (b:Bks) (c:Rt6):Rcp×Int:=if za7 b c 6 6=0 then({Rcp.none with plus:=zgb b c,minus:=ze4 b c},0)else(Rcp.none,za7 b c 6 6)
def zfi (b:Bks) (c:Rt6) (w:World) (x:Ending) (w':World):Prop:=∃v,x=.returned (.tuple #[v,iV (zcf b c).2])∧RcpIs w' v (zcf b c).1∧Tf w w'
end Go.Gk.V33
namespace Go.Gk
open Go.RowKit
theorem Row.apart {P:Nat→Prop} {w:World} {v:Value} {n size:Nat} {cs:List Value} (h:Row P w v n size cs) {z:Nat} {T:TypeId} {cz:Array Value} (hz:Blk w z T cz) (hne:∀o,¬∀(j:Nat) (u:Value),cs[j]?=some u→cz[o+j]?=some u):Row (fun g=>g≠z) w v n size cs:=by
 obtain⟨A,c,rfl,h1,h2,h3,h4,h5⟩:=h;refine⟨A,c,rfl,h1,h2,h3,h4,fun hn=>?_⟩;obtain⟨g,o,ha,⟨_,hlt⟩,hc⟩:=h5 hn;refine⟨g,o,ha,⟨fun e=>hne o fun j u hu=>?_,hlt⟩,hc⟩;have h6:=hc j u hu;rw[e,hz.cell (o+j)]at h6;exact h6
theorem Row.none {P P':Nat→Prop} {w:World} {v:Value} {size:Nat} {cs:List Value} (h:Row P w v 0 size cs):Row P' w v 0 size cs:=by
 obtain⟨A,c,rfl,h1,h2,h3,h4,h5⟩:=h;exact⟨A,c,rfl,h1,h2,h3,h4,fun hn=>absurd hn (by omega)⟩
end Go.Gk
namespace Go.Proofs.YtoegobjnjljegaaGreatDoor
open Go.RowKit Go.Gk
def SumAt2 (T:TypeId) (y1 y:Nat) (w:World) (x:Int):Prop:=∃sg D n c,Blk w y T #[.bool sg,.slice D n c]∧BigIs (fun g=>g≠y1∧g≠y) w (.agg #[.bool sg,.slice D n c]) x
theorem BigIs.beside {w w':World} {v:Value} {x:Int} {B F:Nat→Prop} (h:BigIs B w v x) (t:Tch F w w') (hn:∀g,B g→¬F g):BigIs B w' v x:=
 let⟨dv,e,hd⟩:=h;⟨dv,e,hd.keepTo t fun _ _ hg=>⟨hn _ hg,hg⟩⟩
theorem SumAt2.keep {T:TypeId} {y1 y:Nat} {w w':World} {x:Int} (h:SumAt2 T y1 y w x) (t:Tch (fun g=>g=y1) w w') (hy:y≠y1):SumAt2 T y1 y w' x:=
 let⟨sg,D,n,c,h1,h2⟩:=h;⟨sg,D,n,c,h1.keep t hy,h2.beside t fun _ hg=>hg.1⟩
theorem SumAt2.zero {T:TypeId} {y1 y:Nat} {w:World} (h:Blk w y T #[.bool false,.slice none 0 0]):SumAt2 T y1 y w 0:=
 ⟨false,none,0,0,h,⟨.slice none 0 0,rfl,by rw[show dg (0:Int).natAbs=[] by simp[zcj]];exact Row.nil _ _ _⟩⟩
end Go.Proofs.YtoegobjnjljegaaGreatDoor
namespace Go.Gk.V32
open Go.RowKit
def z3b (b:Bks) (c:Rt6):Rcp×Int:=if c.1=3 then zd1 b c else zcr b c
def Proper (b:Bks) (c:Rt6):Prop:=((c.1=3∧za7 b c 3 3=0)∨((c.1=1∨c.1=2)∧za7 b c 1 2=0))∧0≤c.2.2.2.1∧c.2.2.2.1≤5
theorem Proper.ok {b:Bks} {c:Rt6} (h:Proper b c):(z3b b c).2=0:=by
 unfold z3b
 rcases h.1 with⟨h1,h2⟩|⟨h1,h2⟩
 ·rw[if_pos h1];unfold zd1;rw[if_pos h2]
 ·rw[if_neg (by omega)];unfold zcr;rw[if_pos h2]
theorem z2q {b:Bks} (h:zba b=true):b.accs.length≤60∧3≤b.accs.length:=by
 unfold zba at h;simp only[Bool.and_eq_true]at h;obtain⟨⟨⟨⟨⟨_,h⟩,_⟩,_⟩,_⟩,_⟩:=h;unfold zj2 at h;simp only[Bool.and_eq_true,decide_eq_true_eq]at h;omega
end Go.Gk.V32
namespace Go.Gk.V33
open Go.RowKit
theorem zxg {ps:List Pst} {e a p q:Int}:q∈zf1 ps e a p↔q≠0∧∃x∈ps,x.2.1=e∧x.2.2.1=a∧x.1≤p∧x.2.2.2.1=q:=by
 constructor
 ·intro h;unfold zf1 zr7 at h;obtain⟨r,_,h⟩:=List.mem_flatMap.1 h;obtain⟨x,hx,rfl⟩:=List.mem_map.1 h;obtain⟨hx,hf⟩:=List.mem_filter.1 hx;unfold zfa at hf;simp only[Bool.and_eq_true,decide_eq_true_eq,bne_iff_ne]at hf;obtain⟨y,hy,h1,h2⟩:=zi6 _ _ _ x hx;unfold zbd at h1;simp only[Prod.mk.injEq]at h1;exact⟨hf.2,y,hy,h1.1,h1.2.1,by rw[h1.2.2];exact hf.1,h2⟩
 ·rintro⟨h0,x,hx,rfl,rfl,hp,rfl⟩;unfold zf1 zr7;obtain⟨y,hy,h1⟩:=znk (zbd x) ps 0 x hx rfl;have h2:=zu8 ps ps.length x (by rw[List.take_length];exact hx);rw[List.take_length]at h2;refine List.mem_flatMap.2 ⟨x.1,h2,List.mem_map.2 ⟨y,List.mem_filter.2 ⟨hy,?_⟩,h1⟩⟩;unfold zfa;simp only[hp,decide_true,Bool.true_and,bne_iff_ne];rw[h1];exact h0
theorem ztg {α:Type} [DecidableEq α]:∀(a b:List α),a.Nodup→(∀x∈a,x∈b)→a.length≤b.length
 |[],_,_,_=>Nat.zero_le _
 |x::a,b,hn,hs=>by
  have hx:=hs x List.mem_cons_self
  have h1:=ztg a (b.erase x) (List.nodup_cons.1 hn).2 (fun y hy=>by
   have hne:y≠x:=fun e=>(List.nodup_cons.1 hn).1 (e▸hy)
   exact(List.mem_erase_of_ne hne).2 (hs y (List.mem_cons_of_mem _ hy)))
  rw[List.length_erase_of_mem hx]at h1;have h2:0<b.length:=List.length_pos_of_mem hx;simp only[List.length_cons];omega
theorem zp4 {α β:Type} {f:α→β} (hf:∀x y,f x=f y→x=y) {l:List α} (h:l.Nodup):(l.map f).Nodup:=by
 unfold List.Nodup;rw[List.pairwise_map];exact List.Pairwise.imp (fun hne e=>hne (hf _ _ e)) h
theorem zxh {b:Bks} {node a p x:Int} {q:Int×Int} (h:q∈zdz b node a p x):q.1=x∧q.2∈zic b x a p∧ze5 b.stakes p x q.2=node:=by
 unfold zdz at h;obtain⟨y,hy,rfl⟩:=List.mem_map.1 h;obtain⟨h1,h2⟩:=List.mem_filter.1 hy;exact⟨rfl,h1,by simpa using h2⟩
theorem zxi {b:Bks} {node a p:Int} {q:Int×Int} (h:q∈zeb b node a p):q.2∈zic b q.1 a p∧ze5 b.stakes p q.1 q.2=node:=by
 unfold zeb at h;obtain⟨x,_,hx⟩:=List.mem_flatMap.1 h;obtain⟨rfl,h1,h2⟩:=zxh hx;exact⟨h1,h2⟩
theorem at_nodup (b:Bks) (node a p x:Int):(zdz b node a p x).Nodup:=zp4 (fun _ _ e=>(Prod.mk.inj e).2) (List.Pairwise.filter _ (List.Pairwise.filter _ (zoi (zi3 _))))
theorem zr2 (b:Bks) (node a p:Int):(zeb b node a p).Nodup:=by
 unfold zeb List.Nodup;rw[List.pairwise_flatMap];refine⟨fun x _=>at_nodup b node a p x,(zi3 _).imp ?_⟩;intro x y hxy q hq r hr e;have h1:=(zxh hq).1;have h2:=(zxh hr).1;subst e;omega
theorem side_inj {acc c4 c5:Int} (x y:Int×Int) (h:zhq acc c4 c5 x=zhq acc c4 c5 y):x=y:=by
 unfold zhq at h;simp only[Prod.mk.injEq,true_and]at h;exact Prod.ext h.1 h.2
theorem zr3 (b:Bks) (c:Rt6) (acc:Int):(zce b c acc).Nodup:=zp4 side_inj (zr2 ..)
theorem zl1 {b:Bks} {c:Rt6} {acc:Int} {g:Rt6} (h:g∈zce b c acc):g.2.2.1=acc∧g∈(zay b.entries).map fun q=>((3,q.2.1,q.2.2.1,c.2.2.2.1,c.2.2.2.2.1,q.2.2.2.1):Rt6):=by
 unfold zce at h;obtain⟨q,hq,rfl⟩:=List.mem_map.1 h;refine⟨rfl,?_⟩;have h1:=(zxi hq).1;unfold zic at h1;have h2:=(List.mem_filter.1 h1).2;obtain⟨_,x,hx,e1,e2,_,e3⟩:=zxg.1 (by simpa using h2);refine List.mem_map.2 ⟨x,hx,?_⟩;unfold zhq;rw[e1,e2,e3]
theorem zr4 (b:Bks):(zen b).Nodup:=List.Pairwise.filter _ (List.Pairwise.filter _ (zoi (zi3 _)))
theorem zu3 (b:Bks) (c:Rt6):((zen b).flatMap (zce b c)).Nodup:=by
 unfold List.Nodup;rw[List.pairwise_flatMap];refine⟨fun x _=>zr3 b c x,List.Pairwise.imp ?_ (zr4 b)⟩;intro x y hxy q hq r hr e;have h1:=(zl1 hq).1;have h2:=(zl1 hr).1;subst e;exact hxy (h1.symm.trans h2)
theorem plus_len (b:Bks) (c:Rt6):((zen b).flatMap (zce b c)).length≤(zay b.entries).length:=by
 have:=ztg _ _ (zu3 b c) (fun g hg=>by
  obtain⟨x,_,hx⟩:=List.mem_flatMap.1 hg
  exact(zl1 hx).2)
 rwa [List.length_map]at this
theorem elim_len {b:Bks} (hok:zba b=true) (hpo:(zay b.entries).length≤3000) (c:Rt6):(zcf b c).1.plus.length+(zcf b c).1.minus.length≤5000:=by
 have h1:=plus_len b c;have h2:=zp2 (zec hok).1 c c.2.2.1
 have h3:(zgb b c).length≤3000:=by
  unfold zgb;split
  ·omega
  ·exact Nat.zero_le _
 have h4:(ze4 b c).length≤1600:=by
  unfold ze4;split
  ·exact h2
  ·exact Nat.zero_le _
 unfold zcf;split
 ·show(zgb b c).length+(ze4 b c).length≤5000;omega
 ·exact Nat.zero_le _
theorem z34 {b:Bks} (h:BksFew b):(zay b.entries).length≤3000:=by
 have h1:=h.entries;have h2:=zd6 b.entries 60 h.lines;have h3:b.entries.length*60≤30*60:=Nat.mul_le_mul_right _ h1;omega
end Go.Gk.V33
namespace Go.Gk.V32
open Go.RowKit
end Go.Gk.V32
namespace Go.Gk.V33
open Go.RowKit Go.Gk.V32
theorem z7t {b:Bks} (hok:zba b=true) {e a p q:Int} (h:q∈zic b e a p):(1≤q∧q≤(b.ents.length:Int))∧q≠e:=by
 unfold zic at h;have h9:=(List.mem_filter.1 h).2;obtain⟨h0,x,hx,he,hxq⟩:=z3c (by simpa using h9);have h1:=z3d hok x hx;unfold zgj at h1;simp only[Bool.and_eq_true,decide_eq_true_eq,Bool.not_eq_true',beq_eq_false_iff_ne,ne_eq]at h1;obtain⟨⟨⟨_,_⟩,⟨h3,h4⟩,h5⟩,_⟩:=h1;rw[hxq]at h3 h4 h5;rw[he]at h5;omega
