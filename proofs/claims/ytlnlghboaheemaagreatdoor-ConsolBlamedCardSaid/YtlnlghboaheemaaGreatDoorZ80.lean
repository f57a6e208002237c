/-
  Plain: the values of all cells, by their recipes. No program in sight.
-/
import Derived.Test.YtlnlghboaheemaaGreatDoorRk
import Derived.Test.YtlnlghboaheemaaGreatDoorZ42
namespace Go.Gk.V38
open Go.RowKit Go.Gk.V33 Go.Gk.V37
theorem z0s {r:Rcp} {k:Rt6} (h:k∈zyk r):k∈zys r:=(z1j _).1 h
theorem zz8 {b:Bks} {c:Rt6}:(zfg b c).2=za3 c b.ents.length b.accs.length:=by
 unfold zfg;by_cases h:za3 c b.ents.length b.accs.length=0
 ·rw[if_pos h,h];split
  ·exact zxc h (by assumption)
  ·rfl
 ·rw[if_neg h]
def valN (b:Bks):Nat→Rt6→Vl
 |0,_=>(0,0)
 |n+1,c=>if(zfg b c).2≠0 then(0,(zfg b c).2)else zzv (zfg b c).1 ((zyk (zfg b c).1).map (valN b n))
theorem z0t {b:Bks} (hok:zba b=true):∀(n m:Nat) (c:Rt6),zzj b c<n→zzj b c<m→valN b n c=valN b m c
 |0,_,_,h,_=>by omega
 |_+1,0,_,_,h=>by omega
 |n+1,m+1,c,h1,h2=>by
  unfold valN;by_cases he:(zfg b c).2≠0
  ·rw[if_pos he,if_pos he]
  ·rw[if_neg he,if_neg he];congr 1;refine List.map_congr_left fun k hk=>?_
   have hc:za3 c b.ents.length b.accs.length=0:=by rw[←zz8];simpa using he
   have:=(zz9 hok hc (z0s hk)).2;exact z0t hok n m k (by omega) (by omega)
def zyq (b:Bks) (c:Rt6):Vl:=valN b (zzj b c+1) c
theorem val_at {b:Bks} (hok:zba b=true) {n:Nat} {c:Rt6} (h:zzj b c<n):valN b n c=zyq b c:=z0t hok _ _ _ h (Nat.lt_succ_self _)
theorem z4y {b:Bks} {c:Rt6} (h:za3 c b.ents.length b.accs.length≠0):zyq b c=(0,za3 c b.ents.length b.accs.length):=by
 unfold zyq valN;rw[zz8,if_pos h]
theorem z4z {b:Bks} (hok:zba b=true) {c:Rt6} (h:za3 c b.ents.length b.accs.length=0):zyq b c=zzv (zfg b c).1 ((zyk (zfg b c).1).map (zyq b)):=by
 unfold zyq;rw[valN,zz8,if_neg (by simpa using h)];congr 1;refine List.map_congr_left fun k hk=>?_
 exact val_at hok (zz9 hok h (z0s hk)).2
open Go.RowKit Go.Gk.V32 Go.Gk.V33 Go.Gk.V37
theorem zz1 {b:Bks} (hok:zba b=true) {c:Rt6} (h:za3 c b.ents.length b.accs.length=0):
 zyq b c=zy4 ((zfg b c).1.base::((zfg b c).1.plus.map (zyq b)++(if(zfg b c).1.rated then[zyn (zyq b (zfg b c).1.scaled) (zfg b c).1.ratio (zfg b c).1.has]else[]))) ((zfg b c).1.minus.map (zyq b)):=by
 rw[z4z hok h,z0f]
theorem z40 {b:Bks} (hok:zba b=true) (c:Rt6):zz0 (zyq b c):=by
 by_cases h:za3 c b.ents.length b.accs.length=0
 ·rw[zz1 hok h];exact net_64 _ _
 ·rw[z4y h];simp[zz0,I64]
theorem zzl {b:Bks} {c:Rt6} (h:za3 c b.ents.length b.accs.length=0) (hl:zas b.accs c.2.2.1=true):(zfg b c).1=(zcz b c).1:=by
 unfold zfg;rw[if_pos h,if_pos hl]
theorem z1a {b:Bks} (hok:zba b=true) (c:Rt6):z2o (zfg b c).1.base∧zz0 (zfg b c).1.base∧((zfg b c).1.rated=true→(zfg b c).1.has=true→zb7 (zfg b c).1.ratio=true):=by
 have h0:z2o (0,0)∧zz0 (0,0):=⟨.inl rfl,by simp[zz0,I64]⟩
 have hn:z2o Rcp.none.base∧zz0 Rcp.none.base∧(Rcp.none.rated=true→Rcp.none.has=true→zb7 Rcp.none.ratio=true):=⟨h0.1,h0.2,fun h=>by cases h⟩
 unfold zfg;split
 ·split
  ·unfold zcz;split
   ·unfold zcr;split
    ·simp only;split
     ·exact⟨z0w _,z1k _,fun h=>by cases h⟩
     ·exact⟨h0.1,h0.2,fun h=>by cases h⟩
    ·exact hn
   ·split
    ·unfold zd1;split
     ·unfold zcp;simp only;split
      ·split
       ·exact hn
       ·exact⟨h0.1,h0.2,fun h=>by cases h⟩
      ·split
       ·exact⟨h0.1,h0.2,fun h=>by cases h⟩
       ·exact⟨h0.1,h0.2,fun _ h=>rate_ok (z2r hok) h⟩
     ·exact hn
    ·split
     ·unfold zcc;split
      ·unfold zc8;split
       ·exact⟨h0.1,h0.2,fun h=>by cases h⟩
       ·split
        ·exact⟨h0.1,h0.2,fun h=>by cases h⟩
        ·split
         ·rename_i hs
          have h1:=(part_bd (zec hok).2.2 c).2;exact⟨h0.1,h0.2,fun _ _=>zbp.2 ⟨show 1≤zcg b c by omega,show(1:Int)≤10000 by decide,show zcg b c≤1000000000000 by omega,show(10000:Int)≤1000000000000 by decide⟩⟩
         ·exact hn
      ·exact hn
     ·split
      ·unfold zcf;split
       ·exact⟨h0.1,h0.2,fun h=>by cases h⟩
       ·exact hn
      ·unfold zfz;split
       ·exact⟨h0.1,h0.2,fun h=>by cases h⟩
       ·exact hn
  ·exact⟨h0.1,h0.2,fun h=>by cases h⟩
 ·exact hn
theorem z1z {b:Bks} (hok:zba b=true):∀(n:Nat) {c:Rt6},zzj b c<n→za3 c b.ents.length b.accs.length=0→z2o (zyq b c)
 |0,_,h,_=>by omega
 |n+1,c,h,hc=>by
  have hs:=z1a hok c
  have hr:∀k∈zys (zfg b c).1,z2o (zyq b k):=fun k hk=>by
   have:=zz9 hok hc hk;exact z1z hok n (by omega) this.1
  rw[zz1 hok hc];unfold zys at hr;refine net_fine (fun v hv=>?_) (fun v hv=>?_)
  ·rcases List.mem_cons.1 hv with rfl|hv
   ·exact hs.1
   ·rcases List.mem_append.1 hv with hv|hv
    ·obtain⟨k,hk,rfl⟩:=List.mem_map.1 hv;exact hr k (by simp[hk])
    ·by_cases hd:(zfg b c).1.rated=true
     ·rw[if_pos hd]at hv hr;rw[List.mem_singleton]at hv;subst hv;exact z31 (hr _ (by simp)) (hs.2.2 hd)
     ·rw[if_neg hd]at hv;cases hv
  ·obtain⟨k,hk,rfl⟩:=List.mem_map.1 hv;exact hr k (by simp[hk])
theorem z3x (l:List Acc):(zag l).length≤l.length:=by
 unfold zag;exact Nat.le_trans (List.length_filter_le _ _) (by rw[za5];omega)
theorem z1l {b:Bks} (hok:zba b=true) (hpo:(zay b.entries).length≤3000) (c:Rt6):(zfg b c).1.plus.length+(zfg b c).1.minus.length≤5000:=by
 have h60:=(z2q hok).1;have hl:=z3x b.accs;have hn:Rcp.none.plus.length+Rcp.none.minus.length≤5000:=by decide
 unfold zfg;split
 ·split
  ·unfold zcz;split
   ·unfold zcr;split
    ·simp only;split
     ·exact hn
     ·simp only[Rcp.none,List.length_nil];unfold zbo;split<;>simp
    ·exact hn
   ·split
    ·unfold zd1;split
     ·unfold zcp;simp only;split
      ·split
       ·exact hn
       ·simp only[Rcp.none,List.length_nil,List.length_map];have:=List.length_filter_le (fun a=>decide (a≠(1:Int))) (zag b.accs);omega
      ·split
       ·simp[Rcp.none]
       ·simp only[Rcp.none,List.length_nil];split<;>simp
     ·exact hn
    ·split
     ·unfold zcc;split
      ·unfold zc8;split
       ·simp
       ·split
        ·simp[Rcp.none]
        ·split<;>exact hn
      ·exact hn
     ·split
      ·exact elim_len hok hpo c
      ·unfold zfz;split
       ·have h1:(zgk b c.2.1 c.2.2.2.1).length≤40:=Nat.le_trans (Go.Gk.zi1 b _ _) (zec hok).1;have h2:=zni b
        have h3:(zd0 c (zgk b c.2.1 c.2.2.2.1) (zcn b)).length≤40*60:=by
         unfold zd0;rw[List.length_flatMap];simp only[List.length_map];rw[List.map_const',List.sum_replicate_nat];exact Nat.mul_le_mul h1 (by omega)
        simp only[Rcp.none,List.length_nil,zco,List.length_cons,List.length_append,List.length_map];split
        ·omega
        ·simp only[List.length_nil];omega
       ·exact hn
  ·have:=V37.zi1 b.accs c.2.2.1;simp only[zkh,Rcp.none,List.length_map,List.length_nil];omega
 ·exact hn
theorem z0u {p m:List Vl} (h:(zy4 p m).2=0):(∀v∈p,v.2=0)∧(∀v∈m,v.2=0)∧(zy4 p m).1=(p.map (·.1)).sum-(m.map (·.1)).sum:=by
 refine⟨?_,?_,net_amt h⟩<;>unfold zy4 at h<;>by_cases h0:zzy 0 (p++m)=0
 ·exact fun v hv=>z1y.1 h0 v (List.mem_append_left _ hv)
 ·rw[if_neg h0]at h;exact absurd h h0
 ·exact fun v hv=>z1y.1 h0 v (List.mem_append_right _ hv)
 ·rw[if_neg h0]at h;exact absurd h h0
def z1m (b:Bks) (e p u:Int):Prop:=(1≤e∧e≤(b.ents.length:Int))∧(0≤p∧p≤23)∧(1≤u∧u≤8)
theorem z0e {b:Bks} (hok:zba b=true) {e p u a r:Int} (h:z1m b e p u) (ha:zas b.accs a=true) (hr:3≤r∧r≤7):za3 (r,e,a,p,u,0) b.ents.length b.accs.length=0:=by
 have h40:=(zec hok).1;have h60:=(z2q hok).1;have hl:=z0o ha;obtain⟨h1,h2,h3⟩:=h;exact zyp.2 (by omega)
theorem z41 {b:Bks} {e a p u r:Int} (hr:3≤r) (h:za3 (r,e,a,p,u,0) b.ents.length b.accs.length=0):z1m b e p u:=by
 have:=zyp.1 h;exact⟨by omega,by omega,by omega⟩
theorem z1n {b:Bks} (h:zba b=true) {k:Int} (hk:1≤k∧k≤3):zas b.accs k=true:=by
 have h3:=(z2q h).2;unfold zba at h;simp only[Bool.and_eq_true]at h;obtain⟨⟨⟨⟨⟨_,h⟩,_⟩,_⟩,_⟩,_⟩:=h;unfold zj2 at h;simp only[Bool.and_eq_true]at h;have hall:=h.1.2;unfold zas zdb zm5;simp only[Bool.and_eq_true,decide_eq_true_eq,Bool.not_eq_true'];refine⟨by omega,?_⟩;rw[List.any_eq_false];intro x hx;have:=List.all_eq_true.1 hall x hx;simp only[Bool.and_eq_true]at this;have h1:=this.1;unfold zgp at h1;simp only[Bool.and_eq_true,decide_eq_true_eq,Bool.not_eq_true',Bool.and_eq_false_iff,decide_eq_false_iff_not]at h1;simp only[beq_iff_eq];omega
theorem z42 {b:Bks} (hok:zba b=true) {e p u:Int} (h:z1m b e p u) (hz:∀a∈zag b.accs,(zyq b (3,e,a,p,u,0)).2=0):((zag b.accs).map fun a=>(zyq b (3,e,a,p,u,0)).1).sum=0:=by
 have hl:=z1n hok (k:=1) (by omega);have h1:(1:Int)∈zag b.accs:=zy1.2 hl;have hc:=z0e hok h hl (r:=3) (by omega);have hv:=zz1 hok hc
 have hr:(zfg b (3,e,1,p,u,0)).1={Rcp.none with minus:=((zag b.accs).filter fun x=>decide (x≠1)).map fun a=>(3,e,a,p,u,0)}:=by
  rw[zzl hc hl];unfold zcz;rw[if_neg (by simp),if_pos (show(3:Int)=3 from rfl)];unfold zd1;rw[if_pos (zi2 hc hl (show(3:Int)≤3∧(3:Int)≤3 by decide))];unfold zcp;rw[if_pos (show(1:Int)=1 from rfl),if_neg (show¬(0:Int)≠0 from fun h=>h rfl)]
 rw[hr]at hv;simp only[Rcp.none,List.map_nil,List.map_map,Bool.false_eq_true,if_false,List.append_nil]at hv;have h2:=hz 1 h1;rw[hv]at h2;have h3:=(z0u h2).2.2;rw[←hv]at h3;rw[z15 _ (zzo _) h1,h3];simp only[List.map_cons,List.map_nil,List.sum_cons,List.sum_nil,List.map_map];have e1:(fun x:Vl=>x.1)∘zyq b∘(fun a=>((3,e,a,p,u,0):Rt6))=fun a=>(zyq b (3,e,a,p,u,0)).1:=rfl
 rw[e1];omega
theorem sum_mneg (f:Int→Int) (l:List Int):(l.map fun a=> -f a).sum= -(l.map f).sum:=by
 induction l with
 |nil=>rfl
 |cons x r ih=>simp only[List.map_cons,List.sum_cons,ih];omega
theorem el_sum {b:Bks} (hok:zba b=true) {e p u:Int} (h:z1m b e p u) (hz:∀a∈zag b.accs,(zyq b (6,e,a,p,u,0)).2=0):((zag b.accs).map fun a=>(zyq b (6,e,a,p,u,0)).1).sum=0:=by
 obtain⟨S,hS⟩:∃S:Int→Int,(fun a=>((zce b (6,e,1,p,u,0) a).map fun g=>(zyq b g).1).sum)=S:=⟨_,rfl⟩
 have hSa:∀a,((zce b (6,e,1,p,u,0) a).map fun g=>(zyq b g).1).sum=S a:=fun a=>by rw[←hS]
 have h1:((zag b.accs).map fun a=>(zyq b (6,e,a,p,u,0)).1)=(zag b.accs).map fun a=>(if 3=a then((zen b).map S).sum else 0)+ -(if zfh b a=true then S a else 0):=by
  refine List.map_congr_left fun a ha=>?_
  have hl:=zy1.1 ha;have h2:=hz a ha;have hc:=z0e hok h hl (r:=6) (by omega)
  have hr:(zfg b (6,e,a,p,u,0)).1={Rcp.none with plus:=zgb b (6,e,a,p,u,0),minus:=ze4 b (6,e,a,p,u,0)}:=by
   rw[zzl hc hl];unfold zcz;rw[if_neg (by simp),if_neg (by simp),if_neg (by simp),if_pos (show(6:Int)=6 from rfl)];unfold zcf;rw[if_pos (zi2 hc hl (show(6:Int)≤6∧(6:Int)≤6 by decide))]
  have hv:=zz1 hok hc;rw[hr]at hv;simp only[Rcp.none,Bool.false_eq_true,if_false,List.append_nil]at hv;rw[hv]at h2⊢;rw[(z0u h2).2.2,List.map_cons,List.sum_cons,List.map_map,List.map_map,Int.zero_add]
  have e1:((zgb b (6,e,a,p,u,0)).map ((fun x=>x.1)∘zyq b)).sum=if 3=a then((zen b).map S).sum else 0:=by
   unfold zgb;by_cases h3:a=3
   ·rw[if_pos (show a=3 from h3),if_pos h3.symm];have:=z1p (fun g=>(zyq b g).1) (zce b (6,e,1,p,u,0)) (zen b);simp only[hSa]at this;exact this
   ·rw[if_neg (show¬a=3 from h3),if_neg (fun h=>h3 h.symm)];rfl
  have e2:((ze4 b (6,e,a,p,u,0)).map ((fun x=>x.1)∘zyq b)).sum=if zfh b a=true then S a else 0:=by
   unfold ze4;by_cases h3:zfh b a=true
   ·rw[if_pos (show zfh b a=true from h3),if_pos h3];exact hSa a
   ·rw[if_neg (show¬zfh b a=true from h3),if_neg h3];rfl
  rw[e1,e2];omega
 rw[h1,zzg,z2s _ (zzo _) (zy1.2 (z1n hok (by omega))),sum_mneg (fun a=>if zfh b a=true then S a else 0)];unfold zen;rw[zzs];omega
theorem z3y {b:Bks} (hok:zba b=true) {e p u a:Int} (h:z1m b e p u) (ha:zas b.accs a=true) (hp:(zyq b (4,e,a,p,u,0)).2=0) (hm:zfj b a=true→(zyq b (5,e,a,p,u,0)).2=0):
 (zyq b (7,e,a,p,u,0)).2=0∧(zyq b (7,e,a,p,u,0)).1=(zyq b (4,e,a,p,u,0)).1+(if zfj b a=true then(zyq b (5,e,a,p,u,0)).1 else 0):=by
 by_cases hs:zfj b a=true
 ·have h5:=hm hs;have hc:=z0e hok h ha (r:=5) (by omega)
  have hr:(zfg b (5,e,a,p,u,0)).1={Rcp.none with plus:=[(7,e,a,p,u,0)],minus:=[(4,e,a,p,u,0)]}:=by
   rw[zzl hc ha];unfold zcz;rw[if_neg (by simp),if_neg (by simp),if_pos (.inr rfl)];unfold zcc;rw[if_pos (zi2 hc ha (show(4:Int)≤5∧(5:Int)≤5 by decide))];unfold zc8;rw[if_pos (show(5:Int)=5 from rfl)]
  have hv:=zz1 hok hc;rw[hr]at hv;simp only[Rcp.none,Bool.false_eq_true,if_false,List.append_nil,List.map_cons,List.map_nil]at hv;rw[if_pos hs];rw[hv]at h5;have h9:=z0u h5;rw[←hv]at h9;refine⟨h9.1 _ (by simp),?_⟩;have:=h9.2.2;simp only[List.map_cons,List.map_nil,List.sum_cons,List.sum_nil]at this;omega
 ·have hc:=z0e hok h ha (r:=4) (by omega)
  have hr:(zfg b (4,e,a,p,u,0)).1={Rcp.none with plus:=[(7,e,a,p,u,0)]}:=by
   rw[zzl hc ha];unfold zcz;rw[if_neg (by simp),if_neg (by simp),if_pos (.inl rfl)];unfold zcc;rw[if_pos (zi2 hc ha (show(4:Int)≤4∧(4:Int)≤5 by decide))];unfold zc8 zcg;rw[if_neg (by simp),if_neg (show¬zfj b a=true from hs),if_pos rfl]
  have hv:=zz1 hok hc;rw[hr]at hv;simp only[Rcp.none,Bool.false_eq_true,if_false,List.append_nil,List.map_cons,List.map_nil]at hv;rw[if_neg hs];rw[hv]at hp;have h9:=z0u hp;rw[←hv]at h9;refine⟨h9.1 _ (by simp),?_⟩;have:=h9.2.2;simp only[List.map_cons,List.map_nil,List.sum_cons,List.sum_nil]at this;omega
theorem z27 (f:Int→Int→Int) (K:List Int):∀L:List Int,(L.map fun a=>(K.map fun x=>f x a).sum).sum=(K.map fun x=>(L.map fun a=>f x a).sum).sum
 |[]=>by
  have:(K.map fun x=>(([]:List Int).map fun a=>f x a).sum)=K.map fun _=>(0:Int):=rfl
  rw[this]
  have h0:∀K:List Int,(K.map fun _=>(0:Int)).sum=0:=by
   intro K;induction K with
   |nil=>rfl
   |cons x r ih=>simpa using ih
  rw[h0];rfl
 |y::r=>by
  have ih:=z27 f K r;rw[List.map_cons,List.sum_cons,ih,←zzg (fun x=>f x y)];rfl
theorem z29 {f:Int→Int}:∀{l:List Int},(∀x∈l,f x=0)→(l.map f).sum=0
 |[],_=>rfl
 |x::r,h=>by rw[List.map_cons,List.sum_cons,h x (List.mem_cons_self ..),z29 fun y hy=>h y (List.mem_cons_of_mem _ hy)];rfl
theorem cons_is {b:Bks} (hok:zba b=true) {e p u a:Int} (h:z1m b e p u) (ha:zas b.accs a=true) (hz:(zyq b (7,e,a,p,u,0)).2=0):
 (zyq b (3,e,a,p,u,0)).2=0∧(zyq b (6,e,a,p,u,0)).2=0∧(∀x∈zgk b e p,(zyq b (4,x,a,p,u,0)).2=0)∧(a=2→∀x∈zgk b e p,∀s∈zcn b,(zyq b (5,x,s,p,u,0)).2=0)∧
  (zyq b (7,e,a,p,u,0)).1=(zyq b (3,e,a,p,u,0)).1+((zgk b e p).map fun x=>(zyq b (4,x,a,p,u,0)).1).sum+(if 2=a then((zgk b e p).map fun x=>((zcn b).map fun s=>(zyq b (5,x,s,p,u,0)).1).sum).sum else 0)+(zyq b (6,e,a,p,u,0)).1:=by
 have hc:=z0e hok h ha (r:=7) (by omega)
 have hr:(zfg b (7,e,a,p,u,0)).1={Rcp.none with plus:=zco (7,e,a,p,u,0) (zgk b e p) (zcn b)}:=by
  rw[zzl hc ha];unfold zcz;rw[if_neg (by simp),if_neg (by simp),if_neg (by simp),if_neg (by simp)];unfold zfz;rw[if_pos (zi2 hc ha (show(7:Int)≤7∧(7:Int)≤7 by decide))]
 have hv:=zz1 hok hc;rw[hr]at hv;simp only[Rcp.none,Bool.false_eq_true,if_false,List.append_nil,List.map_nil]at hv;rw[hv]at hz;have h9:=z0u hz;rw[←hv]at h9;obtain⟨h1,_,h2⟩:=h9;have h1:∀k∈zco (7,e,a,p,u,0) (zgk b e p) (zcn b),(zyq b k).2=0:=fun k hk=>h1 _ (List.mem_cons_of_mem _ (List.mem_map.2 ⟨k,hk,rfl⟩))
 unfold zco at h1 h2;refine⟨h1 (3,e,a,p,u,0) (by simp[ofC]),h1 (6,e,a,p,u,0) (by simp[ofC]),fun x hx=>h1 (4,x,a,p,u,0) (List.mem_cons_of_mem _ (List.mem_append_left _ (List.mem_map.2 ⟨x,hx,rfl⟩))),fun h2 x hx s hs=>?_,?_⟩
 ·refine h1 (5,x,s,p,u,0) (List.mem_cons_of_mem _ (List.mem_append_right _ (List.mem_append_left _ ?_)));rw[if_pos (show a=2 from h2)];unfold zd0;exact List.mem_flatMap.2 ⟨x,hx,List.mem_map.2 ⟨s,hs,rfl⟩⟩
 ·rw[h2];simp only[List.map_cons,List.map_nil,List.map_append,List.sum_cons,List.sum_nil,List.sum_append,List.map_map];have e1:((fun x:Vl=>x.1)∘zyq b∘fun k=>ofC (7,e,a,p,u,0) 4 k a)=fun x=>(zyq b (4,x,a,p,u,0)).1:=rfl
  have e2:(((if a=2 then zd0 (7,e,a,p,u,0) (zgk b e p) (zcn b)else[]).map ((fun x:Vl=>x.1)∘zyq b)).sum)=if 2=a then((zgk b e p).map fun x=>((zcn b).map fun s=>(zyq b (5,x,s,p,u,0)).1).sum).sum else 0:=by
   by_cases h2:a=2
   ·rw[if_pos h2,if_pos h2.symm];unfold zd0;have:=z1p (fun g=>(zyq b g).1) (fun k=>(zcn b).map fun s=>ofC (7,e,a,p,u,0) 5 k s) (zgk b e p);simp only[List.map_map]at this;exact this
   ·rw[if_neg h2,if_neg (fun h=>h2 h.symm)];rfl
  rw[e1,e2];show 0+((zyq b (3,e,a,p,u,0)).1+(_+(_+((zyq b (6,e,a,p,u,0)).1+0))))-0=_;omega
theorem trial {b:Bks} (hok:zba b=true) {p u:Int}:∀(n:Nat) {e:Int},41-z2m b e p<n→z1m b e p u→(∀a∈zag b.accs,(zyq b (7,e,a,p,u,0)).2=0)→((zag b.accs).map fun a=>(zyq b (7,e,a,p,u,0)).1).sum=0
 |0,_,h,_,_=>by omega
 |n+1,e,hn,h,hz=>by
  have hC:=fun a ha=>cons_is hok h (zy1.1 ha) (hz a ha)
  have h2:(2:Int)∈zag b.accs:=zy1.2 (z1n hok (by omega))
  obtain⟨pn,hpn⟩:∃pn:Nat,p=(pn:Int):=⟨p.toNat,by have:=h.2.1;omega⟩
  have hp24:pn<24:=by have:=h.2.1;omega
  have hkid:∀x∈zgk b e p,z1m b x p u∧((zag b.accs).map fun a=>(zyq b (4,x,a,p,u,0)).1).sum+((zcn b).map fun s=>(zyq b (5,x,s,p,u,0)).1).sum=0:=by
   intro x hx;have hxk:=hx;unfold zgk at hx;rw[if_pos h.1]at hx;have h1:=List.mem_filter.1 hx
   have hup:zam b.stakes x p=e:=by
    have h2:=h1.2;unfold isKid at h2;simpa using h2
   have hsx:z1m b x p u:=⟨zgc.1 h1.1,h.2⟩
   subst hpn;have hd:=z12 hok hp24 hup (show e≠0 by have:=h.1;omega);have hd2:=z0v hok hp24 x;have hw:=fun a (ha:a∈zag b.accs)=>z3y hok hsx (zy1.1 ha) ((hC a ha).2.2.1 x hxk) fun hs=>(hC 2 h2).2.2.2.1 rfl x hxk a (List.mem_filter.2 ⟨ha,hs⟩)
   have ih:=trial hok n (e:=x) (by omega) hsx fun a ha=>(hw a ha).1
   refine⟨hsx,?_⟩;rw[List.map_congr_left fun a ha=>(hw a ha).2,zzg]at ih;unfold zcn;rw[zzs];exact ih
  rw[List.map_congr_left fun a ha=>(hC a ha).2.2.2.2,zzg,zzg,zzg,z42 hok h fun a ha=>(hC a ha).1,el_sum hok h fun a ha=>(hC a ha).2.1,z2s _ (zzo _) h2,z27 fun x a=>(zyq b (4,x,a,p,u,0)).1];have h3:=zzg (fun x=>((zag b.accs).map fun a=>(zyq b (4,x,a,p,u,0)).1).sum) (fun x=>((zcn b).map fun s=>(zyq b (5,x,s,p,u,0)).1).sum) (zgk b e p);rw[z29 fun x hx=>(hkid x hx).2]at h3;omega
