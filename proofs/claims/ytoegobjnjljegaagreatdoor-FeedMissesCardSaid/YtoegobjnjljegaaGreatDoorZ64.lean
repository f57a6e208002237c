/-
  Plain: the pairs that meet at a node, and what is taken off there. No program in sight.
-/
import Derived.Test.YtoegobjnjljegaaGreatDoorZ59
namespace Go.Gk.V33
open Go.RowKit
theorem zi3 (n:Nat):(zal n).Pairwise (· < ·):=by
 unfold zal;rw[List.pairwise_map];exact List.pairwise_lt_range.imp fun h=>by omega
theorem zp1:∀{xs ys:List Int},xs.Pairwise (· < ·)→ys.Pairwise (· < ·)→(∀q,q∈xs↔q∈ys)→xs=ys
 |[],[],_,_,_=>rfl
 |[],y::ys,_,_,h=>by have:=(h y).2 (List.mem_cons_self ..);cases this
 |x::xs,[],_,_,h=>by have:=(h x).1 (List.mem_cons_self ..);cases this
 |x::xs,y::ys,hx,hy,h=>by
  obtain⟨hx1,hx2⟩:=List.pairwise_cons.1 hx;obtain⟨hy1,hy2⟩:=List.pairwise_cons.1 hy
  have e:x=y:=by
   rcases List.mem_cons.1 ((h x).1 (List.mem_cons_self ..))with e|e
   ·exact e
   ·rcases List.mem_cons.1 ((h y).2 (List.mem_cons_self ..))with e2|e2
    ·exact e2.symm
    ·have:=hy1 x e;have:=hx1 y e2;omega
  subst e;rw[zp1 hx2 hy2 fun q=>?_];constructor
  ·intro hq;rcases List.mem_cons.1 ((h q).1 (List.mem_cons_of_mem _ hq))with e|e
   ·have:=hx1 q hq;omega
   ·exact e
  ·intro hq;rcases List.mem_cons.1 ((h q).2 (List.mem_cons_of_mem _ hq))with e|e
   ·have:=hy1 q hq;omega
   ·exact e
def zic (b:Bks) (e a p:Int):List Int:=(zal b.ents.length).filter fun q=>decide (q∈zf1 (zay b.entries) e a p)
theorem zoi {zs:List Int} (h:zs.Pairwise (· < ·)):zs.Nodup:=h.imp fun h e=>by omega
theorem pts_are {b:Bks} (hok:zba b=true) {e a p:Int} {zs:List Int} (hl:zs.Pairwise (· < ·)) (hm:∀q,q∈zs↔q∈zf1 (zay b.entries) e a p):zs=zic b e a p:=by
 refine zp1 hl ((zi3 _).filter _) fun q=>?_
 unfold zic;rw[List.mem_filter];constructor
 ·intro h;exact⟨zgc.2 ((zxl hok (zoi hl) hm).2 q h).1,by simpa using(hm q).1 h⟩
 ·intro h;exact(hm q).2 (by simpa using h.2)
theorem pts_in {b:Bks} {e a p q:Int} (h:q∈zic b e a p):1≤q∧q≤b.ents.length:=zgc.1 (List.mem_filter.1 h).1
theorem zxf (b:Bks) (e a p:Int):(zic b e a p).length≤b.ents.length:=by
 unfold zic;exact Nat.le_trans (List.length_filter_le _ _) (by rw[za5];omega)
def zdz (b:Bks) (node a p x:Int):List (Int×Int):=((zic b x a p).filter fun y=>ze5 b.stakes p x y==node).map fun y=>(x,y)
def zeb (b:Bks) (node a p:Int):List (Int×Int):=(zal b.ents.length).flatMap (zdz b node a p)
theorem zu2 {l:List zbv} {p x y node:Int} (hn:1≤node) (h:ze5 l p x y=node):zbm l p node x=true:=by
 unfold ze5 at h
 cases hf:(x::zds l p x).find? fun t=>zbm l p t y with
 |none=>rw[hf]at h;have h:(0:Int)=node:=h;omega
 |some t=>
  rw[hf]at h;have h:t=node:=h;subst h;have:=List.mem_of_find?_eq_some hf;unfold zbm;rcases List.mem_cons.1 this with rfl|h2
  ·simp
  ·rw[List.contains_iff_mem.2 h2,Bool.or_true]
theorem zi4 {α:Type} (F:Int→Bool) (f:Int→List α):∀(l:List Int),(∀x∈l,F x=false→f x=[])→l.flatMap f=(l.filter F).flatMap f
 |[],_=>rfl
 |x::r,h=>by
  have ih:=zi4 F f r fun y hy=>h y (List.mem_cons_of_mem _ hy)
  rw[List.flatMap_cons,ih]
  cases hF:F x with
  |true=>rw[List.filter_cons_of_pos hF,List.flatMap_cons]
  |false=>rw[List.filter_cons_of_neg (by simp[hF]),h x (List.mem_cons_self ..) hF,List.nil_append]
theorem at_off {b:Bks} {node a p x:Int} (hn:1≤node) (h:zbm b.stakes p node x=false):zdz b node a p x=[]:=by
 unfold zdz;rw[List.filter_eq_nil_iff.2 fun y _=>?_]
 ·rfl
 ·intro e;have:=zu2 hn (by simpa using e:ze5 b.stakes p x y=node);rw[h]at this
  cases this
theorem zr1 {b:Bks} {node a p:Int} (hn:1≤node):zeb b node a p=((zal b.ents.length).filter (zbm b.stakes p node)).flatMap (zdz b node a p):=
 zi4 _ _ _ fun _ _ h=>at_off hn h
theorem at_len (b:Bks) (node a p x:Int):(zdz b node a p x).length≤b.ents.length:=by
 unfold zdz;rw[List.length_map];exact Nat.le_trans (List.length_filter_le _ _) (zxf _ _ _ _)
theorem zlz {α β:Type} {f:α→List β} {k:Nat}:∀(l:List α),(∀x∈l,(f x).length≤k)→(l.flatMap f).length≤l.length*k
 |[],_=>by simp
 |x::r,h=>by
  have:=zlz r fun y hy=>h y (List.mem_cons_of_mem _ hy)
  have:=h x (List.mem_cons_self ..);rw[List.flatMap_cons,List.length_append,List.length_cons,Nat.add_mul];omega
theorem zl0 {b:Bks} (h40:b.ents.length≤40) (node a p:Int):(zeb b node a p).length≤1600:=by
 have:=zlz (f:=zdz b node a p) (zal b.ents.length) fun x _=>at_len b node a p x
 rw[za5]at this;exact Nat.le_trans this (Nat.le_trans (Nat.mul_le_mul h40 h40) (by decide))
def zhq (acc c4 c5:Int) (q:Int×Int):Rt6:=(3,q.1,acc,c4,c5,q.2)
def zce (b:Bks) (c:Rt6) (acc:Int):List Rt6:=(zeb b c.2.1 acc c.2.2.2.1).map (zhq acc c.2.2.2.1 c.2.2.2.2.1)
theorem zp2 {b:Bks} (h40:b.ents.length≤40) (c:Rt6) (acc:Int):(zce b c acc).length≤1600:=by
 unfold zce;rw[List.length_map];exact zl0 h40 _ _ _
def zfh (b:Bks) (a:Int):Bool:=((b.accs[(a-1).toNat]?).map (·.2.2.2)).getD false
theorem ztf {b:Bks} {x:Int} {k:Nat} {hk:k<b.accs.length} (h:b.accs[(x-1).toNat]?=some b.accs[k]):zfh b x=b.accs[k].2.2.2:=by
 unfold zfh;rw[h];rfl
theorem zp3 {b:Bks} (h:zba b=true):zfh b 3=false:=by
 unfold zba at h;simp only[Bool.and_eq_true]at h;obtain⟨⟨⟨⟨⟨_,h⟩,_⟩,_⟩,_⟩,_⟩:=h;unfold zj2 at h;simp only[Bool.and_eq_true,decide_eq_true_eq]at h;have h3:=h.1.1.2.2;have h4:(b.accs.take 3)[2]?=zef[2]?:=by rw[h3]
 rw[List.getElem?_take]at h4;have h5:b.accs[2]?=some (0,1,false,false):=by simpa[zef]using h4
 unfold zfh;rw[show((3:Int)-1).toNat=2 by decide,h5];rfl
def zen (b:Bks):List Int:=(zag b.accs).filter (zfh b)
def zgb (b:Bks) (c:Rt6):List Rt6:=if c.2.2.1=3 then(zen b).flatMap (zce b c)else[]
def ze4 (b:Bks) (c:Rt6):List Rt6:=if zfh b c.2.2.1 then zce b c c.2.2.1 else[]
def zcf (b:Bks) (c:Rt6):Rcp×Int:=if za7 b c 6 6=0 then({Rcp.none with plus:=zgb b c,minus:=ze4 b c},0)else(Rcp.none,za7 b c 6 6)
def zfi (b:Bks) (c:Rt6) (w:World) (x:Ending) (w':World):Prop:=∃v,x=.returned (.tuple #[v,iV (zcf b c).2])∧RcpIs w' v (zcf b c).1∧Tf w w'
end Go.Gk.V33
namespace Go.Gk
open Go.RowKit
theorem z48 {b:Bks} {r r' c2 c3 p q c6:Int} (h:za7 b (r,c2,c3,p,0,c6) 1 2=0) (hr:r'=1∨r'=2) (hq:0≤q∧q≤p):za7 b (r',c2,c3,q,0,c6) 1 2=0:=by
 unfold za7 at h⊢;by_cases h0:za3 (r,c2,c3,p,0,c6) b.ents.length b.accs.length=0
 ·rw[if_pos h0]at h
  have h1:za3 (r',c2,c3,q,0,c6) b.ents.length b.accs.length=0:=by
   unfold za3 at h0⊢;by_cases hc:zc2 (r,c2,c3,p,0,c6)=true
   ·rw[if_pos hc]at h0
    have hc2:zc2 (r',c2,c3,q,0,c6)=true:=by
     unfold zc2 at hc⊢;simp only[Bool.and_eq_true,wi,decide_eq_true_eq,Bool.not_eq_true']at hc⊢;simp only at h;by_cases hr2:r<1∨2<r
     ·rw[if_pos hr2]at h;cases h
     ·have e1:r=1∨r=2:=by omega
      rw[if_pos e1,if_pos e1]at hc;rw[if_pos hr,if_pos hr];have e3:r≤3:=by omega
      have e4:r'≤3:=by omega
      rw[if_pos e3]at hc;rw[if_pos e4];refine⟨⟨⟨⟨⟨⟨by omega,hc.1.1.1.1.1.2⟩,hc.1.1.1.1.2⟩,by omega⟩,by omega⟩,hc.1.2⟩,hc.2⟩
    rw[if_pos hc2];exact h0
   ·rw[if_neg hc]at h0;cases h0
  rw[if_pos h1];simp only at h⊢;by_cases hr2:r<1∨2<r
  ·rw[if_pos hr2]at h;cases h
  ·rw[if_neg hr2]at h;rw[if_neg (by omega)];exact h
 ·rw[if_neg h0]at h;exact absurd h h0
theorem Row.apart {P:Nat→Prop} {w:World} {v:Value} {n size:Nat} {cs:List Value} (h:Row P w v n size cs) {z:Nat} {T:TypeId} {cz:Array Value} (hz:Blk w z T cz) (hne:∀o,¬∀(j:Nat) (u:Value),cs[j]?=some u→cz[o+j]?=some u):Row (fun g=>g≠z) w v n size cs:=by
 obtain⟨A,c,rfl,h1,h2,h3,h4,h5⟩:=h;refine⟨A,c,rfl,h1,h2,h3,h4,fun hn=>?_⟩;obtain⟨g,o,ha,⟨_,hlt⟩,hc⟩:=h5 hn;refine⟨g,o,ha,⟨fun e=>hne o fun j u hu=>?_,hlt⟩,hc⟩;have h6:=hc j u hu;rw[e,hz.cell (o+j)]at h6;exact h6
theorem Row.none {P P':Nat→Prop} {w:World} {v:Value} {size:Nat} {cs:List Value} (h:Row P w v 0 size cs):Row P' w v 0 size cs:=by
 obtain⟨A,c,rfl,h1,h2,h3,h4,h5⟩:=h;exact⟨A,c,rfl,h1,h2,h3,h4,fun hn=>absurd hn (by omega)⟩
end Go.Gk
namespace Go.Proofs.YtoegobjnjljegaaGreatDoor
open Go.RowKit Go.Gk
def SumAt2 (T:TypeId) (y1 y:Nat) (w:World) (x:Int):Prop:=∃sg D n c,Blk w y T #[.bool sg,.slice D n c]∧BigIs (fun g=>g≠y1∧g≠y) w (.agg #[.bool sg,.slice D n c]) x
theorem BigIs.beside {w w':World} {v:Value} {x:Int} {B F:Nat→Prop} (h:BigIs B w v x) (t:Tch F w w') (hn:∀g,B g→¬F g):BigIs B w' v x:=
 let⟨dv,e,hd⟩:=h;⟨dv,e,hd.keepTo t fun _ _ hg=>⟨hn _ hg,hg⟩⟩
theorem SumAt2.keep {T:TypeId} {y1 y:Nat} {w w':World} {x:Int} (h:SumAt2 T y1 y w x) (t:Tch (fun g=>g=y1) w w') (hy:y≠y1):SumAt2 T y1 y w' x:=
 let⟨sg,D,n,c,h1,h2⟩:=h;⟨sg,D,n,c,h1.keep t hy,h2.beside t fun _ hg=>hg.1⟩
theorem SumAt2.zero {T:TypeId} {y1 y:Nat} {w:World} (h:Blk w y T #[.bool false,.slice none 0 0]):SumAt2 T y1 y w 0:=
 ⟨false,none,0,0,h,⟨.slice none 0 0,rfl,by rw[show dg (0:Int).natAbs=[] by simp[zcj]];exact Row.nil _ _ _⟩⟩
end Go.Proofs.YtoegobjnjljegaaGreatDoor
namespace Go.Gk.V32
open Go.RowKit
theorem z13 (f:Rt6→Vl):∀{l:List Rt6} {k:Rt6},l.Nodup→k∈l→zzz (l.zip (l.map f)) k=f k
 |[],k,_,h=>by cases h
 |x::r,k,hn,h=>by
  have h2:=List.nodup_cons.1 hn;rw[List.map_cons,List.zip_cons_cons];by_cases e:k=x
  ·subst e;refine z3v (k,f k) _ ?_;rw[List.map_fst_zip (by simp)];exact h2.1
  ·rw[z3w _ _ e];exact z13 f h2.2 ((List.mem_cons.1 h).resolve_left e)
theorem z0f (r:Rcp) (f:Rt6→Vl):zzv r ((zyk r).map f)=zy4 (r.base::(r.plus.map f++(if r.rated then[zyn (f r.scaled) r.ratio r.has]else[]))) (r.minus.map f):=by
 unfold zzv;rw[if_pos (by simp)];have hv:∀k∈zys r,zzi r ((zyk r).map f) k=f k:=fun k hk=>z13 f (z3t _) ((z1j _).2 hk)
 have hp:r.plus.map (zzi r ((zyk r).map f))=r.plus.map f:=List.map_congr_left fun k hk=>hv k (by unfold zys;simp[hk])
 have hm:r.minus.map (zzi r ((zyk r).map f))=r.minus.map f:=List.map_congr_left fun k hk=>hv k (by unfold zys;simp[hk])
 rw[hp,hm]
 cases hr:r.rated
 ·simp
 ·rw[hv r.scaled (by unfold zys;simp[hr])]
def z2o (v:Vl):Prop:=v.2=0∨v.2=10∨v.2=40
theorem z0w (x:Int):z2o (zda x):=by
 unfold zda z2o;split<;>simp
theorem z2p {l:List Rt6} {k:Rk4} {r:Int×Int} (h:zgf l k=some r):∃x∈l,x.2.2.2.2=r:=by
 have:∀(l:List Rt6) (o:Option (Int×Int)),l.foldl (fun o r=>if rkey r=k then some r.2.2.2.2 else o) o=some r→o=some r∨∃x∈l,x.2.2.2.2=r:=by
  intro l;induction l with
  |nil=>intro o h;exact .inl h
  |cons y t ih=>
   intro o h;rw[List.foldl_cons]at h
   rcases ih _ h with h1|⟨x,hx,e⟩
   ·by_cases hy:rkey y=k
    ·rw[if_pos hy]at h1;injection h1 with h1;exact .inr ⟨y,List.mem_cons_self ..,h1⟩
    ·rw[if_neg hy]at h1;exact .inl h1
   ·exact .inr ⟨x,List.mem_cons_of_mem _ hx,e⟩
 rcases this l none h with h1|h1
 ·cases h1
 ·exact h1
theorem find_ok {l:List Rt6} (hl:zh3 l=true) {k:Rk4} (h:(zbl l k).2=true):zb7 (zbl l k).1=true:=by
 unfold zbl at h⊢
 cases e:zgf l k with
 |none=>rw[e]at h;cases h
 |some r=>
  simp only;obtain⟨x,hx,rfl⟩:=z2p e;unfold zh3 at hl;have h1:=List.all_eq_true.1 (Bool.and_eq_true_iff.1 hl).2 x hx;unfold zii at h1;exact(Bool.and_eq_true_iff.1 h1).2
theorem z32 {r:Int×Int} (h:zb7 r=true):zb7 (r.2,r.1)=true:=by
 have:=zbp.1 h;exact zbp.2 ⟨this.2.1,this.1,this.2.2.2,this.2.2.1⟩
theorem inv_ok {r:Int×Int} (h:(zg9 r).2=0):zb7 (zg9 r).1=true:=by
 unfold zg9 at h⊢;by_cases h1:zb7 r=true
 ·rw[if_pos h1];exact zhx (z32 h1)
 ·rw[if_neg h1]at h;cases h
theorem times_ok {a b:Int×Int} (h:(zck a b).2=0):zb7 (zck a b).1=true:=by
 unfold zck at h⊢;by_cases h1:zb7 a=true∧zb7 b=true
 ·rw[if_pos h1]at h⊢;by_cases h2:(crs a b).1≤1000000000000∧(crs a b).2≤1000000000000
  ·rw[if_pos h2];have ka:=zhx h1.1;have kb:=zhx h1.2;have k1:=zbp.1 (zhx (zhl ka kb));have k2:=zbp.1 (zhx (zhl kb ka));refine zbp.2 ⟨?_,?_,h2.1,h2.2⟩
   ·exact Int.mul_pos (show(0:Int)<(nrm ((nrm a).1,(nrm b).2)).1 by omega) (show(0:Int)<(nrm ((nrm b).1,(nrm a).2)).1 by omega)
   ·exact Int.mul_pos (show(0:Int)<(nrm ((nrm a).1,(nrm b).2)).2 by omega) (show(0:Int)<(nrm ((nrm b).1,(nrm a).2)).2 by omega)
  ·rw[if_neg h2]at h;cases h
 ·rw[if_neg h1]at h;cases h
theorem leg_ok {l:List Rt6} (hl:zh3 l=true) {kd p f t:Int} (h:(zcy l kd p f t).2=true):zb7 (zcy l kd p f t).1=true:=by
 unfold zcy at h⊢;by_cases h1:(zbl l (f,t,kd,p)).2=true
 ·rw[if_pos h1];exact find_ok hl h1
 ·rw[if_neg h1]at h⊢;simp only[Bool.and_eq_true,decide_eq_true_eq]at h;exact inv_ok h.2
theorem z3a {l:List Rt6} {kd p f t:Int}:∀{cs:List Int},(zr8 l kd p f t cs).2=true→zb7 (zr8 l kd p f t cs).1=true
 |[],h=>by cases h
 |c::r,h=>by
  unfold zr8 at h⊢;split
  ·rename_i h1;exact times_ok h1.2.2
  ·rename_i h1
   rw[if_neg h1]at h;exact z3a h
theorem rate_ok {l:List Rt6} (hl:zh3 l=true) {f t kd p:Int} (h:(zee l f t kd p).2=true):zb7 (zee l f t kd p).1=true:=by
 unfold zee at h⊢;by_cases h1:f=t∧1≤f∧f≤8
 ·rw[if_pos h1];decide
 ·rw[if_neg h1]at h⊢;unfold zcw at h⊢;by_cases h2:(zcy l kd p f t).2=true
  ·rw[if_pos h2];exact leg_ok hl h2
  ·rw[if_neg h2]at h⊢;exact z3a h
def z3b (b:Bks) (c:Rt6):Rcp×Int:=if c.1=3 then zd1 b c else zcr b c
def z4f (b:Bks):Nat→Rt6→Vl
 |0,_=>(0,2)
 |d+1,c=>if(z3b b c).2=0 then zzv (z3b b c).1 ((zyk (z3b b c).1).map (z4f b d))else(0,2)
theorem z40 (b:Bks) (d:Nat) (c:Rt6):zz0 (z4f b d c):=by
 unfold z4f
 cases d with
 |zero=>simp[zz0,I64]
 |succ d=>
  simp only;split
  ·rw[z0f];exact z8k _ _
  ·simp[zz0,I64]
def Proper (b:Bks) (c:Rt6):Prop:=((c.1=3∧za7 b c 3 3=0)∨((c.1=1∨c.1=2)∧za7 b c 1 2=0))∧0≤c.2.2.2.1∧c.2.2.2.1≤5
def z0g (c:Rt6):Nat:=if c.1=1 then 0 else if c.1=2 then c.2.2.2.1.toNat+1 else if c.2.2.1=1 then 13 else 7+c.2.2.2.1.toNat
theorem Proper.ok {b:Bks} {c:Rt6} (h:Proper b c):(z3b b c).2=0:=by
 unfold z3b
 rcases h.1 with⟨h1,h2⟩|⟨h1,h2⟩
 ·rw[if_pos h1];unfold zd1;rw[if_pos h2]
 ·rw[if_neg (by omega)];unfold zcr;rw[if_pos h2]
theorem may_in {b:Bks} {c:Rt6} {lo hi:Int} (h:za7 b c lo hi=0):zc2 c=true∧¬(b.ents.length:Int)<max c.2.1 c.2.2.2.2.2∧¬(b.accs.length:Int)<c.2.2.1∧(lo≤c.1∧c.1≤hi)∧zas b.accs c.2.2.1=true:=by
 unfold za7 at h;by_cases h0:za3 c b.ents.length b.accs.length=0
 ·rw[if_pos h0]at h;by_cases h1:c.1<lo∨hi<c.1
  ·rw[if_pos h1]at h;cases h
  ·rw[if_neg h1]at h;unfold za3 at h0;by_cases h2:zc2 c=true
   ·rw[if_pos h2]at h0;by_cases h3:(b.ents.length:Int)<max c.2.1 c.2.2.2.2.2
    ·rw[if_pos h3]at h0;cases h0
    ·rw[if_neg h3]at h0;by_cases h4:(b.accs.length:Int)<c.2.2.1
     ·rw[if_pos h4]at h0;cases h0
     ·refine⟨h2,h3,h4,by omega,?_⟩;by_cases h5:zas b.accs c.2.2.1=true
      ·exact h5
      ·rw[if_neg h5]at h;cases h
   ·rw[if_neg h2]at h0;cases h0
 ·rw[if_neg h0]at h;exact absurd h h0
theorem may_of {b:Bks} {c:Rt6} {lo hi:Int} (h2:zc2 c=true) (h3:¬(b.ents.length:Int)<max c.2.1 c.2.2.2.2.2) (h4:¬(b.accs.length:Int)<c.2.2.1) (h1:lo≤c.1∧c.1≤hi) (h5:zas b.accs c.2.2.1=true):za7 b c lo hi=0:=by
 have h0:za3 c b.ents.length b.accs.length=0:=by
  unfold za3;rw[if_pos h2,if_neg h3,if_neg h4]
 unfold za7;rw[if_pos h0,if_neg (by omega),if_pos h5]
theorem z0o {l:List Acc} {a:Int} (h:zas l a=true):1≤a∧a≤l.length:=by
 unfold zas zdb at h;simp only[Bool.and_eq_true,decide_eq_true_eq]at h;omega
theorem z14 {b:Bks} {e a p u q a' p':Int} (h:zc2 (3,e,a,p,u,q)=true) (hn:¬(b.ents.length:Int)<max e q) (h60:b.accs.length≤60) (ha:zas b.accs a'=true) (hp:0≤p'∧p'≤p):za7 b (3,e,a',p',u,q) 3 3=0:=by
 have:=z0o ha;refine may_of ?_ hn (by simp only;omega) ⟨Int.le_refl _,Int.le_refl _⟩ ha;unfold zc2 at h⊢;simp only[Bool.and_eq_true,wi,decide_eq_true_eq,Bool.not_eq_true']at h⊢;simp only[show¬((3:Int)=1∨(3:Int)=2) by omega,if_false]at h⊢;exact⟨⟨⟨⟨⟨⟨by omega,h.1.1.1.1.1.2⟩,by omega⟩,by omega⟩,h.1.1.2⟩,h.1.2⟩,h.2⟩
theorem z0x {b:Bks} {e a p u q a' p' r:Int} (h:zc2 (3,e,a,p,u,q)=true) (hn:¬(b.ents.length:Int)<max e q) (h60:b.accs.length≤60) (ha:zas b.accs a'=true) (hp:0≤p'∧p'≤p) (hr:r=1∨r=2):za7 b (r,e,a',p',0,q) 1 2=0:=by
 have:=z0o ha;refine may_of ?_ hn (by simp only;omega) (by simp only;omega) ha;unfold zc2 at h⊢;simp only[Bool.and_eq_true,wi,decide_eq_true_eq,Bool.not_eq_true']at h⊢;simp only[show¬((3:Int)=1∨(3:Int)=2) by omega,if_false]at h;rw[if_pos hr,if_pos hr];rw[if_pos (show(3:Int)≤3 by omega)]at h;rw[if_pos (show r≤3 by omega)];exact⟨⟨⟨⟨⟨⟨by omega,h.1.1.1.1.1.2⟩,by omega⟩,by omega⟩,by omega⟩,h.1.2⟩,h.2⟩
theorem zzf {r:Rcp} {x:Rt6}:x∈zyk r↔x∈r.plus∨x∈r.minus∨(r.rated=true∧x=r.scaled):=by
 unfold zyk zys;rw[z1j,List.mem_append,List.mem_append]
 cases r.rated<;>simp[or_assoc]
theorem z0h {b:Bks} (h60:b.accs.length≤60) {c:Rt6} (h:Proper b c) {x:Rt6} (hx:x∈zyk (z3b b c).1):Proper b x∧z0g x<z0g c:=by
 obtain⟨r,e,a,p,u,q⟩:=c;obtain⟨hd,hp0,hp5⟩:=h;simp only at hp0 hp5;unfold z3b at hx
 rcases hd with⟨h1,h2⟩|⟨h1,h2⟩
 ·obtain rfl:r=3:=h1;rw[if_pos rfl]at hx;unfold zd1 at hx;rw[if_pos h2]at hx;obtain⟨k1,k2,k3,k4,k5⟩:=may_in h2;simp only at k2 k3 k5;unfold zcp at hx;simp only at hx;by_cases ha:a=1
  ·subst ha;rw[if_pos rfl]at hx;by_cases hq:q=0
   ·subst hq;rw[if_neg (fun h=>h rfl)]at hx;rw[zzf]at hx;simp only[Rcp.none,List.not_mem_nil,Bool.false_eq_true,false_and,or_false,false_or,List.mem_map,List.mem_filter,decide_eq_true_eq]at hx;obtain⟨a',⟨hl,hne⟩,rfl⟩:=hx;have hlf:zas b.accs a'=true:=by unfold zag at hl;exact(List.mem_filter.1 hl).2
    refine⟨⟨.inl ⟨rfl,z14 k1 k2 h60 hlf ⟨hp0,Int.le_refl _⟩⟩,hp0,hp5⟩,?_⟩;unfold z0g;simp only[show¬((3:Int)=1) by omega,show¬((3:Int)=2) by omega,if_false,if_neg hne,if_true];omega
   ·rw[if_pos hq]at hx;rw[zzf]at hx;simp[Rcp.none]at hx
  ·rw[if_neg ha]at hx;by_cases hc:zgg b e=u
   ·rw[if_pos hc]at hx;rw[zzf]at hx;simp only[Rcp.none,List.not_mem_nil,Bool.false_eq_true,false_and,or_false,List.mem_singleton]at hx;subst hx;refine⟨⟨.inr ⟨.inr rfl,z0x k1 k2 h60 k5 ⟨hp0,Int.le_refl _⟩ (.inr rfl)⟩,hp0,hp5⟩,?_⟩;unfold z0g;simp only[show¬((3:Int)=1) by omega,show¬((3:Int)=2) by omega,show¬((2:Int)=1) by omega,if_false,if_neg ha,if_true];omega
   ·rw[if_neg hc]at hx;rw[zzf]at hx;simp only[Rcp.none,List.not_mem_nil,false_or,true_and]at hx;rcases hx with hx|hx
    ·by_cases hk:zei b a≠1∧0<p
     ·rw[if_pos hk,List.mem_singleton]at hx;subst hx;have hp1:0≤p-1∧p-1≤p:=by omega
      refine⟨⟨.inl ⟨rfl,z14 k1 k2 h60 k5 hp1⟩,hp1.1,(show p-1≤5 by omega)⟩,?_⟩;unfold z0g;simp only[show¬((3:Int)=1) by omega,show¬((3:Int)=2) by omega,if_false,if_neg ha];omega
     ·rw[if_neg hk]at hx;cases hx
    ·subst hx;by_cases hk:zei b a=1
     ·rw[if_pos hk];refine⟨⟨.inr ⟨.inr rfl,z0x k1 k2 h60 k5 ⟨hp0,Int.le_refl _⟩ (.inr rfl)⟩,hp0,hp5⟩,?_⟩;unfold z0g;simp only[show¬((3:Int)=1) by omega,show¬((3:Int)=2) by omega,show¬((2:Int)=1) by omega,if_false,if_neg ha,if_true];omega
     ·rw[if_neg hk];refine⟨⟨.inr ⟨.inl rfl,z0x k1 k2 h60 k5 ⟨hp0,Int.le_refl _⟩ (.inl rfl)⟩,hp0,hp5⟩,?_⟩;unfold z0g;simp only[show¬((3:Int)=1) by omega,show¬((3:Int)=2) by omega,if_false,if_neg ha,if_true];omega
 ·have h3:¬r=3:=by simp only at h1;omega
  rw[if_neg h3]at hx;have hc:=(zv0 h2).2;simp only at hc;subst hc;unfold zcr at hx;rw[if_pos h2]at hx;simp only at hx h1;rcases h1 with rfl|rfl
  ·rw[if_pos rfl,zzf]at hx;simp[Rcp.none]at hx
  ·rw[if_neg (by omega),zzf]at hx;simp only[Rcp.none,List.not_mem_nil,Bool.false_eq_true,false_and,or_false]at hx;unfold zbo at hx;simp only at hx;rcases List.mem_append.1 hx with hx|hx
   ·by_cases hp:0<p
    ·rw[if_pos hp,List.mem_singleton]at hx;subst hx;have hp1:0≤p-1∧p-1≤p:=by omega
     refine⟨⟨.inr ⟨.inr rfl,z48 h2 (.inr rfl) hp1⟩,hp1.1,(show p-1≤5 by omega)⟩,?_⟩;unfold z0g;simp only[show¬((2:Int)=1) by omega,if_false,if_true];omega
    ·rw[if_neg hp]at hx;cases hx
   ·rw[List.mem_singleton]at hx;subst hx;refine⟨⟨.inr ⟨.inl rfl,z48 h2 (.inl rfl) ⟨hp0,Int.le_refl _⟩⟩,hp0,hp5⟩,?_⟩;unfold z0g;simp only[show¬((2:Int)=1) by omega,if_false,if_true];omega
theorem z33 {b:Bks} (h60:b.accs.length≤60):∀(n:Nat) (c:Rt6),Proper b c→z0g c≤n→∀d d',n<d→n<d'→z4f b d c=z4f b d' c:=by
 intro n;induction n with
 |zero=>
  intro c hc hn d d' hd hd'
  obtain⟨k,rfl⟩:∃k,d=k+1:=⟨d-1,by omega⟩
  obtain⟨k',rfl⟩:∃k,d'=k+1:=⟨d'-1,by omega⟩
  unfold z4f;rw[if_pos hc.ok,if_pos hc.ok];congr 1;refine List.map_congr_left fun x hx=>?_
  have:=(z0h h60 hc hx).2;omega
 |succ n ih=>
  intro c hc hn d d' hd hd'
  obtain⟨k,rfl⟩:∃k,d=k+1:=⟨d-1,by omega⟩
  obtain⟨k',rfl⟩:∃k,d'=k+1:=⟨d'-1,by omega⟩
  unfold z4f;rw[if_pos hc.ok,if_pos hc.ok];congr 1;refine List.map_congr_left fun x hx=>?_
  obtain⟨h1,h2⟩:=z0h h60 hc hx;exact ih x h1 (by omega) k k' (by omega) (by omega)
theorem rank_le {b:Bks} {c:Rt6} (h:Proper b c):z0g c≤13:=by
 have:=h.2;unfold z0g;split
 ·omega
 ·split
  ·omega
  ·split<;>omega
theorem z4z {b:Bks} (h60:b.accs.length≤60) {c:Rt6} (h:Proper b c):z4f b 20 c=zy4 ((z3b b c).1.base::((z3b b c).1.plus.map (z4f b 20)++(if(z3b b c).1.rated then[zyn (z4f b 20 (z3b b c).1.scaled) (z3b b c).1.ratio (z3b b c).1.has]else[]))) ((z3b b c).1.minus.map (z4f b 20)):=by
 rw[←z0f];conv=>lhs;unfold z4f
 rw[if_pos h.ok];congr 1;refine List.map_congr_left fun x hx=>?_
 obtain⟨h1,h2⟩:=z0h h60 h hx;have:=rank_le h;exact z33 h60 (z0g x) x h1 (Nat.le_refl _) 19 20 (by omega) (by omega)
theorem z2q {b:Bks} (h:zba b=true):b.accs.length≤60∧3≤b.accs.length:=by
 unfold zba at h;simp only[Bool.and_eq_true]at h;obtain⟨⟨⟨⟨⟨_,h⟩,_⟩,_⟩,_⟩,_⟩:=h;unfold zj2 at h;simp only[Bool.and_eq_true,decide_eq_true_eq]at h;omega
theorem z2r {b:Bks} (h:zba b=true):zh3 b.rates=true:=by
 unfold zba at h;simp only[Bool.and_eq_true]at h;exact h.1.1.2
end Go.Gk.V32
namespace Go.Gk.V33
open Go.RowKit
theorem zxg {ps:List Pst} {e a p q:Int}:q∈zf1 ps e a p↔q≠0∧∃x∈ps,x.2.1=e∧x.2.2.1=a∧x.1≤p∧x.2.2.2.1=q:=by
 constructor
 ·intro h;unfold zf1 zr7 at h;obtain⟨r,_,h⟩:=List.mem_flatMap.1 h;obtain⟨x,hx,rfl⟩:=List.mem_map.1 h;obtain⟨hx,hf⟩:=List.mem_filter.1 hx;unfold zfa at hf;simp only[Bool.and_eq_true,decide_eq_true_eq,bne_iff_ne]at hf;obtain⟨y,hy,h1,h2⟩:=zi6 _ _ _ x hx;unfold zbd at h1;simp only[Prod.mk.injEq]at h1;exact⟨hf.2,y,hy,h1.1,h1.2.1,by rw[h1.2.2];exact hf.1,h2⟩
 ·rintro⟨h0,x,hx,rfl,rfl,hp,rfl⟩;unfold zf1 zr7;obtain⟨y,hy,h1⟩:=znk (zbd x) ps 0 x hx rfl;have h2:=zu8 ps ps.length x (by rw[List.take_length];exact hx);rw[List.take_length]at h2;refine List.mem_flatMap.2 ⟨x.1,h2,List.mem_map.2 ⟨y,List.mem_filter.2 ⟨hy,?_⟩,h1⟩⟩;unfold zfa;simp only[hp,decide_true,Bool.true_and,bne_iff_ne];rw[h1];exact h0
theorem ztg {α:Type} [DecidableEq α]:∀(a b:List α),a.Nodup→(∀x∈a,x∈b)→a.length≤b.length
 |[],_,_,_=>Nat.zero_le _
 |x::a,b,hn,hs=>by
  have hx:=hs x List.mem_cons_self
  have h1:=ztg a (b.erase x) (List.nodup_cons.1 hn).2 (fun y hy=>by
   have hne:y≠x:=fun e=>(List.nodup_cons.1 hn).1 (e▸hy)
   exact(List.mem_erase_of_ne hne).2 (hs y (List.mem_cons_of_mem _ hy)))
  rw[List.length_erase_of_mem hx]at h1;have h2:0<b.length:=List.length_pos_of_mem hx;simp only[List.length_cons];omega
theorem zp4 {α β:Type} {f:α→β} (hf:∀x y,f x=f y→x=y) {l:List α} (h:l.Nodup):(l.map f).Nodup:=by
 unfold List.Nodup;rw[List.pairwise_map];exact List.Pairwise.imp (fun hne e=>hne (hf _ _ e)) h
theorem zxh {b:Bks} {node a p x:Int} {q:Int×Int} (h:q∈zdz b node a p x):q.1=x∧q.2∈zic b x a p∧ze5 b.stakes p x q.2=node:=by
 unfold zdz at h;obtain⟨y,hy,rfl⟩:=List.mem_map.1 h;obtain⟨h1,h2⟩:=List.mem_filter.1 hy;exact⟨rfl,h1,by simpa using h2⟩
theorem zxi {b:Bks} {node a p:Int} {q:Int×Int} (h:q∈zeb b node a p):q.2∈zic b q.1 a p∧ze5 b.stakes p q.1 q.2=node:=by
 unfold zeb at h;obtain⟨x,_,hx⟩:=List.mem_flatMap.1 h;obtain⟨rfl,h1,h2⟩:=zxh hx;exact⟨h1,h2⟩
theorem at_nodup (b:Bks) (node a p x:Int):(zdz b node a p x).Nodup:=zp4 (fun _ _ e=>(Prod.mk.inj e).2) (List.Pairwise.filter _ (List.Pairwise.filter _ (zoi (zi3 _))))
theorem zr2 (b:Bks) (node a p:Int):(zeb b node a p).Nodup:=by
 unfold zeb List.Nodup;rw[List.pairwise_flatMap];refine⟨fun x _=>at_nodup b node a p x,(zi3 _).imp ?_⟩;intro x y hxy q hq r hr e;have h1:=(zxh hq).1;have h2:=(zxh hr).1;subst e;omega
theorem side_inj {acc c4 c5:Int} (x y:Int×Int) (h:zhq acc c4 c5 x=zhq acc c4 c5 y):x=y:=by
 unfold zhq at h;simp only[Prod.mk.injEq,true_and]at h;exact Prod.ext h.1 h.2
theorem zr3 (b:Bks) (c:Rt6) (acc:Int):(zce b c acc).Nodup:=zp4 side_inj (zr2 ..)
theorem zl1 {b:Bks} {c:Rt6} {acc:Int} {g:Rt6} (h:g∈zce b c acc):g.2.2.1=acc∧g∈(zay b.entries).map fun q=>((3,q.2.1,q.2.2.1,c.2.2.2.1,c.2.2.2.2.1,q.2.2.2.1):Rt6):=by
 unfold zce at h;obtain⟨q,hq,rfl⟩:=List.mem_map.1 h;refine⟨rfl,?_⟩;have h1:=(zxi hq).1;unfold zic at h1;have h2:=(List.mem_filter.1 h1).2;obtain⟨_,x,hx,e1,e2,_,e3⟩:=zxg.1 (by simpa using h2);refine List.mem_map.2 ⟨x,hx,?_⟩;unfold zhq;rw[e1,e2,e3]
theorem zr4 (b:Bks):(zen b).Nodup:=List.Pairwise.filter _ (List.Pairwise.filter _ (zoi (zi3 _)))
theorem zu3 (b:Bks) (c:Rt6):((zen b).flatMap (zce b c)).Nodup:=by
 unfold List.Nodup;rw[List.pairwise_flatMap];refine⟨fun x _=>zr3 b c x,List.Pairwise.imp ?_ (zr4 b)⟩;intro x y hxy q hq r hr e;have h1:=(zl1 hq).1;have h2:=(zl1 hr).1;subst e;exact hxy (h1.symm.trans h2)
theorem plus_len (b:Bks) (c:Rt6):((zen b).flatMap (zce b c)).length≤(zay b.entries).length:=by
 have:=ztg _ _ (zu3 b c) (fun g hg=>by
  obtain⟨x,_,hx⟩:=List.mem_flatMap.1 hg
  exact(zl1 hx).2)
 rwa [List.length_map]at this
theorem elim_len {b:Bks} (hok:zba b=true) (hpo:(zay b.entries).length≤3000) (c:Rt6):(zcf b c).1.plus.length+(zcf b c).1.minus.length≤5000:=by
 have h1:=plus_len b c;have h2:=zp2 (zec hok).1 c c.2.2.1
 have h3:(zgb b c).length≤3000:=by
  unfold zgb;split
  ·omega
  ·exact Nat.zero_le _
 have h4:(ze4 b c).length≤1600:=by
  unfold ze4;split
  ·exact h2
  ·exact Nat.zero_le _
 unfold zcf;split
 ·show(zgb b c).length+(ze4 b c).length≤5000;omega
 ·exact Nat.zero_le _
theorem z34 {b:Bks} (h:BksFew b):(zay b.entries).length≤3000:=by
 have h1:=h.entries;have h2:=zd6 b.entries 60 h.lines;have h3:b.entries.length*60≤30*60:=Nat.mul_le_mul_right _ h1;omega
end Go.Gk.V33
namespace Go.Gk.V32
open Go.RowKit
end Go.Gk.V32
namespace Go.Gk.V33
open Go.RowKit Go.Gk.V32
theorem z7t {b:Bks} (hok:zba b=true) {e a p q:Int} (h:q∈zic b e a p):(1≤q∧q≤(b.ents.length:Int))∧q≠e:=by
 unfold zic at h;have h9:=(List.mem_filter.1 h).2;obtain⟨h0,x,hx,he,hxq⟩:=z3c (by simpa using h9);have h1:=z3d hok x hx;unfold zgj at h1;simp only[Bool.and_eq_true,decide_eq_true_eq,Bool.not_eq_true',beq_eq_false_iff_ne,ne_eq]at h1;obtain⟨⟨⟨_,_⟩,⟨h3,h4⟩,h5⟩,_⟩:=h1;rw[hxq]at h3 h4 h5;rw[he]at h5;omega
