/-
  Plain: how many cells there may be in small books; where a fault comes from. No program in sight.
-/
import Derived.Test.YtlnlghboaheemaaGreatDoorZ85
set_option maxRecDepth 100000
set_option maxHeartbeats 25600000
namespace Go.Gk.V38
open Go.RowKit Go.Gk.V32 Go.Gk.V33 Go.Gk.V37
theorem z57 (f:Int) (a b:List Vl):zzy f (a++b)=zzy (zzy f a) b:=by
 unfold zzy;rw[List.foldl_append]
theorem z6d {b:Bks} (hok:zba b=true) {l:List Rt6} (hl:∀c∈l,za3 c b.ents.length b.accs.length=0) {k:Rt6} (h:Need b l k):za3 k b.ents.length b.accs.length=0:=by
 induction h with
 |base h=>exact hl _ h
 |step _ hk ih=>exact(zz9 hok ih (z0s hk)).1
theorem rule_per {b:Bks} {c:Rt6}:∀k∈zys (zfg b c).1,k.2.2.2.1≤c.2.2.2.1:=by
 have hn:∀k∈zys Rcp.none,k.2.2.2.1≤c.2.2.2.1:=fun k hk=>by simp[zys,Rcp.none]at hk
 unfold zfg;split
 ·split
  ·unfold zcz;split
   ·unfold zcr;split
    ·simp only;split
     ·intro k hk;simp[zys,Rcp.none]at hk
     ·intro k hk;simp only[zys,Rcp.none,zbo,List.append_nil,List.mem_append,List.mem_singleton,if_false,Bool.false_eq_true]at hk;rcases hk with hk|rfl
      ·split at hk
       ·rw[List.mem_singleton]at hk;subst hk;show c.2.2.2.1-1≤c.2.2.2.1;omega
       ·cases hk
      ·exact Int.le_refl _
    ·exact hn
   ·split
    ·unfold zd1;split
     ·unfold zcp;simp only;split
      ·split
       ·exact hn
       ·intro k hk;simp only[zys,Rcp.none,List.nil_append,List.append_nil,if_false,Bool.false_eq_true,List.mem_map]at hk;obtain⟨x,_,rfl⟩:=hk;exact Int.le_refl _
      ·split
       ·intro k hk;simp only[zys,Rcp.none,List.append_nil,if_false,Bool.false_eq_true,List.mem_singleton]at hk;subst hk;exact Int.le_refl _
       ·intro k hk;simp only[zys,Rcp.none,List.append_nil,if_true,List.mem_append,List.mem_singleton]at hk;rcases hk with hk|rfl
        ·split at hk
         ·rw[List.mem_singleton]at hk;subst hk;show c.2.2.2.1-1≤c.2.2.2.1;omega
         ·cases hk
        ·exact Int.le_refl _
     ·exact hn
    ·split
     ·unfold zcc;split
      ·unfold zc8;split
       ·intro k hk;simp only[zys,Rcp.none,List.append_nil,if_false,Bool.false_eq_true,List.mem_append,List.mem_singleton]at hk;rcases hk with rfl|rfl<;>exact Int.le_refl _
       ·split
        ·intro k hk;simp only[zys,Rcp.none,List.append_nil,if_false,Bool.false_eq_true,List.mem_singleton]at hk;subst hk;exact Int.le_refl _
        ·split
         ·intro k hk;simp only[zys,Rcp.none,List.append_nil,List.nil_append,if_true,List.mem_singleton]at hk;subst hk;exact Int.le_refl _
         ·exact hn
      ·exact hn
     ·split
      ·unfold zcf;split
       ·have hsd:∀acc,∀k∈zce b c acc,k.2.2.2.1≤c.2.2.2.1:=fun acc k hk=>by
         unfold zce at hk;obtain⟨pr,_,rfl⟩:=List.mem_map.1 hk;exact Int.le_refl _
        intro k hk;simp only[zys,Rcp.none,List.append_nil,if_false,Bool.false_eq_true,List.mem_append]at hk;rcases hk with hk|hk
        ·unfold zgb at hk;split at hk
         ·obtain⟨acc,_,hk⟩:=List.mem_flatMap.1 hk;exact hsd acc k hk
         ·cases hk
        ·unfold ze4 at hk;split at hk
         ·exact hsd _ k hk
         ·cases hk
       ·exact hn
      ·unfold zfz;split
       ·intro k hk;simp only[zys,Rcp.none,List.append_nil,if_false,Bool.false_eq_true,zco,List.mem_cons,List.mem_append,List.mem_map,List.not_mem_nil,or_false]at hk;rcases hk with rfl|⟨x,hx,rfl⟩|hk|rfl
        ·exact Int.le_refl _
        ·exact Int.le_refl _
        ·split at hk
         ·unfold zd0 at hk;obtain⟨x,hx,hk⟩:=List.mem_flatMap.1 hk;obtain⟨s,hs,rfl⟩:=List.mem_map.1 hk;exact Int.le_refl _
         ·cases hk
        ·exact Int.le_refl _
       ·exact hn
  ·intro k hk;simp only[zys,zkh,Rcp.none,List.append_nil,if_false,Bool.false_eq_true,List.mem_map]at hk;obtain⟨x,hx,rfl⟩:=hk;exact Int.le_refl _
 ·exact hn
theorem need_per {b:Bks} {c k:Rt6} (h:Need b [c] k):k.2.2.2.1≤c.2.2.2.1:=by
 induction h with
 |base h=>rw[List.mem_singleton]at h;subst h;exact Int.le_refl _
 |step _ hk ih=>exact Int.le_trans (rule_per _ (z0s hk)) ih
theorem z6h (b:Bks) (c:Rt6):((zfg b c).1.base.2≠0→zys (zfg b c).1=[])∧((zfg b c).1.rated=true→(zfg b c).1.minus=[]):=by
 have hn:(Rcp.none.base.2≠0→zys Rcp.none=[])∧(Rcp.none.rated=true→Rcp.none.minus=[]):=⟨fun h=>absurd rfl h,fun h=>by cases h⟩
 unfold zfg;split
 ·split
  ·unfold zcz;split
   ·unfold zcr;split
    ·simp only;split
     ·exact⟨fun _=>by simp[zys,Rcp.none],fun h=>by cases h⟩
     ·exact⟨fun h=>absurd rfl h,fun h=>by cases h⟩
    ·exact hn
   ·split
    ·unfold zd1;split
     ·unfold zcp;simp only;split
      ·split
       ·exact hn
       ·exact⟨fun h=>absurd rfl h,fun h=>by cases h⟩
      ·split
       ·exact⟨fun h=>absurd rfl h,fun h=>by cases h⟩
       ·exact⟨fun h=>absurd rfl h,fun _=>rfl⟩
     ·exact hn
    ·split
     ·unfold zcc;split
      ·unfold zc8;split
       ·exact⟨fun h=>absurd rfl h,fun h=>by cases h⟩
       ·split
        ·exact⟨fun h=>absurd rfl h,fun h=>by cases h⟩
        ·split
         ·exact⟨fun h=>absurd rfl h,fun _=>rfl⟩
         ·exact hn
      ·exact hn
     ·split
      ·unfold zcf;split
       ·exact⟨fun h=>absurd rfl h,fun h=>by cases h⟩
       ·exact hn
      ·unfold zfz;split
       ·exact⟨fun h=>absurd rfl h,fun h=>by cases h⟩
       ·exact hn
  ·exact⟨fun h=>absurd rfl h,fun h=>by cases h⟩
 ·exact hn
def z6a (e q:Int):Int:=if q=0 then 0 else if q<e then q else q-1
def z6j (r u t:Int):Int:=if r=1 then t else if r=2 then 6+t else if r=3 then 12+(u-1)*6+t else 60+(r-4)*8+(u-1)
def z6b (c:Rt6):Int:=(((c.2.1-1)*9+(c.2.2.1-1))*4+c.2.2.2.1)*92+z6j c.1 c.2.2.2.2.1 (z6a c.2.1 c.2.2.2.2.2)
def z6c (c:Rt6):Prop:=(1≤c.1∧c.1≤7)∧(1≤c.2.1∧c.2.1≤6)∧(1≤c.2.2.1∧c.2.2.1≤9)∧(0≤c.2.2.2.1∧c.2.2.2.1≤3)∧((c.1=1∨c.1=2)∧c.2.2.2.2.1=0∨¬(c.1=1∨c.1=2)∧1≤c.2.2.2.2.1∧c.2.2.2.2.1≤8)∧(c.1≤3∧0≤c.2.2.2.2.2∧c.2.2.2.2.2≤6∨¬c.1≤3∧c.2.2.2.2.2=0)∧c.2.2.2.2.2≠c.2.1
theorem z58 {e q:Int} (h1:1≤e∧e≤6) (h2:0≤q∧q≤6) (_:q≠e):0≤z6a e q∧z6a e q≤5:=by
 unfold z6a;split
 ·omega
 ·split<;>omega
theorem ptn_inj {e q q':Int} (h1:1≤e) (_:0≤q) (_:0≤q') (h3:q≠e) (h3':q'≠e) (h:z6a e q=z6a e q'):q=q':=by
 unfold z6a at h;split at h<;>split at h<;>(try split at h)<;>(try split at h)<;>omega
theorem z59 {r u t:Int} (hr:1≤r∧r≤7) (hu:(r=1∨r=2)∨1≤u∧u≤8) (ht:0≤t∧t≤5):0≤z6j r u t∧z6j r u t<92:=by
 unfold z6j;split
 ·omega
 ·split
  ·omega
  ·split<;>omega
theorem idx_inj {r u t r' u' t':Int} (hr:1≤r∧r≤7) (hu:(r=1∨r=2)∧u=0∨¬(r=1∨r=2)∧1≤u∧u≤8) (ht:0≤t∧t≤5) (h0:r≤3∨t=0)
 (hr':1≤r'∧r'≤7) (hu':(r'=1∨r'=2)∧u'=0∨¬(r'=1∨r'=2)∧1≤u'∧u'≤8) (ht':0≤t'∧t'≤5) (h0':r'≤3∨t'=0) (h:z6j r u t=z6j r' u' t'):r=r'∧u=u'∧t=t':=by
 unfold z6j at h;by_cases a1:r=1
 ·rw[if_pos a1]at h;by_cases b1:r'=1
  ·rw[if_pos b1]at h;omega
  ·rw[if_neg b1]at h;by_cases b2:r'=2
   ·rw[if_pos b2]at h;omega
   ·rw[if_neg b2]at h;split at h<;>omega
 ·rw[if_neg a1]at h;by_cases a2:r=2
  ·rw[if_pos a2]at h;by_cases b1:r'=1
   ·rw[if_pos b1]at h;omega
   ·rw[if_neg b1]at h;by_cases b2:r'=2
    ·rw[if_pos b2]at h;omega
    ·rw[if_neg b2]at h;split at h<;>omega
  ·rw[if_neg a2]at h;by_cases b1:r'=1
   ·rw[if_pos b1]at h;split at h<;>omega
   ·rw[if_neg b1]at h;by_cases b2:r'=2
    ·rw[if_pos b2]at h;split at h<;>omega
    ·rw[if_neg b2]at h;split at h<;>split at h<;>omega
theorem z52 {c:Rt6} (h:z6c c):0≤z6b c∧z6b c<19872:=by
 obtain⟨r,e,a,p,u,q⟩:=c;unfold z6c at h;simp only at h;have ht:=z58 (e:=e) (q:=q) (by omega) (by omega) (by omega);have hi:=z59 (r:=r) (u:=u) (t:=z6a e q) (by omega) (by omega) ht;unfold z6b;simp only;generalize z6j r u (z6a e q)=i at *;omega
theorem code_inj {c k:Rt6} (hc:z6c c) (hk:z6c k) (h:z6b c=z6b k):c=k:=by
 obtain⟨r,e,a,p,u,q⟩:=c;obtain⟨r',e',a',p',u',q'⟩:=k;unfold z6c at hc hk;simp only at hc hk;have ht:=z58 (e:=e) (q:=q) (by omega) (by omega) (by omega);have hi:=z59 (r:=r) (u:=u) (t:=z6a e q) (by omega) (by omega) ht;have ht':=z58 (e:=e') (q:=q') (by omega) (by omega) (by omega);have hi':=z59 (r:=r') (u:=u') (t:=z6a e' q') (by omega) (by omega) ht'
 have hz:r≤3∨z6a e q=0:=by
  by_cases h3:r≤3
  ·exact .inl h3
  ·right;have:q=0:=by omega
   unfold z6a;rw[if_pos this]
 have hz':r'≤3∨z6a e' q'=0:=by
  by_cases h3:r'≤3
  ·exact .inl h3
  ·right;have:q'=0:=by omega
   unfold z6a;rw[if_pos this]
 unfold z6b at h;simp only at h
 have hij:z6j r u (z6a e q)=z6j r' u' (z6a e' q')∧e=e'∧a=a'∧p=p':=by
  generalize z6j r u (z6a e q)=i at *;generalize z6j r' u' (z6a e' q')=i' at *;omega
 obtain⟨h1,rfl,rfl,rfl⟩:=hij;obtain⟨rfl,rfl,h4⟩:=idx_inj (by omega) (by omega) ht hz (by omega) (by omega) ht' hz' h1;obtain rfl:=ptn_inj (by omega) (by omega) (by omega) (by omega) (by omega) h4;rfl
theorem z6k {n:Nat} {l:List Nat} (hn:l.Nodup) (h:∀x∈l,x<n):l.length≤n:=by
 have:=List.Nodup.length_le_of_subset hn (l₂:=List.range n) (fun x hx=>List.mem_range.2 (h x hx));rwa [List.length_range]at this
theorem z6l {S:List Rt6} (hn:S.Nodup) (h:∀k∈S,z6c k):S.length≤19872:=by
 have h1:(S.map fun c=>(z6b c).toNat).Nodup:=by
  unfold List.Nodup;rw[List.pairwise_map];refine List.Pairwise.imp_of_mem (fun{x y} hx hy hxy e=>hxy ?_) hn;have r1:=z52 (h x hx);have r2:=z52 (h y hy);exact code_inj (h x hx) (h y hy) (by omega)
 have h2:=z6k h1 (n:=19872) fun x hx=>by
  obtain⟨c,hc,rfl⟩:=List.mem_map.1 hx;have:=z52 (h c hc);omega
 rwa [List.length_map]at h2
theorem z6e {b:Bks} (hok:zba b=true) (he:b.ents.length≤6) (ha:b.accs.length≤9) {c:Rt6} (hp:c.2.2.2.1≤3) (hc:za3 c b.ents.length b.accs.length=0) {S:List Rt6} (hn:S.Nodup) (hs:∀k∈S,Need b [c] k):S.length≤19872:=by
 refine z6l hn fun k hk=>?_
 have h1:=z6d hok (l:=[c]) (fun x hx=>by rw[List.mem_singleton]at hx;exact hx▸hc) (hs k hk);have h2:=need_per (hs k hk);obtain⟨r,e,a,p,u,q⟩:=k;have h3:=zyp.1 h1;unfold z6c;simp only at h2⊢;omega
theorem z6m:∀{l:List Vl},zzy 0 l≠0→∃v∈l,v.2=zzy 0 l:=by
 have go:∀(l:List Vl) (f:Int),f=0→zzy f l≠0→∃v∈l,v.2=zzy f l:=by
  intro l;induction l with
  |nil=>intro f hf h;exact absurd hf h
  |cons x r ih=>
   intro f hf h
   have e:zzy f (x::r)=zzy x.2 r:=by
    subst hf;rfl
   rw[e]at h⊢;by_cases hx:x.2=0
   ·rw[hx]at h⊢;obtain⟨v,hv,hv2⟩:=ih 0 rfl h;exact⟨v,List.mem_cons_of_mem _ hv,hv2⟩
   ·exact⟨x,List.mem_cons_self ..,(z1x hx r).symm⟩
 exact fun{l} h=>go l 0 rfl h
theorem net_zero {p m:List Vl} (h:(zy4 p m).2≠0):(zy4 p m).1=0:=by
 unfold zy4 at h⊢;by_cases h0:zzy 0 (p++m)=0
 ·rw[if_pos h0]at h⊢;generalize(p.map (·.1)).sum-(m.map (·.1)).sum=x at *;unfold zda at h⊢;split
  ·next h1=>rw[if_pos h1]at h;exact absurd rfl h
  ·rfl
 ·rw[if_neg h0]
theorem net_err {p m:List Vl} (h:(zy4 p m).2=0):zzy 0 (p++m)=0:=by
 false_or_by_contra
 rename_i h9
 unfold zy4 at h;rw[if_neg h9]at h;exact h9 h
theorem z6f {b:Bks} (hok:zba b=true) {c:Rt6} (h:(zyq b c).2≠0):(zyq b c).1=0:=by
 by_cases hc:za3 c b.ents.length b.accs.length=0
 ·rw[zz1 hok hc]at h⊢;exact net_zero h
 ·rw[z4y hc]
theorem z6n {b:Bks} (hok:zba b=true) {c:Rt6} (hc:za3 c b.ents.length b.accs.length=0) (h:(zyq b c).2=0):∀k∈zyk (zfg b c).1,(zyq b k).2=0:=fun k hk=>by
 have hk:=z0s hk;rw[zz1 hok hc]at h;have h0:=net_err h;unfold zys at hk;rcases List.mem_append.1 hk with hk|hk
 ·rcases List.mem_append.1 hk with hk|hk
  ·exact z1y.1 h0 _ (by simp only[List.cons_append,List.mem_cons,List.mem_append,List.mem_map];exact .inr (.inl (.inl ⟨k,hk,rfl⟩)))
  ·exact z1y.1 h0 _ (by simp only[List.cons_append,List.mem_cons,List.mem_append,List.mem_map];exact .inr (.inr ⟨k,hk,rfl⟩))
 ·by_cases hd:(zfg b c).1.rated=true
  ·rw[if_pos hd,List.mem_singleton]at hk;subst hk;have h1:=z1y.1 h0 (zyn (zyq b (zfg b c).1.scaled) (zfg b c).1.ratio (zfg b c).1.has) (by rw[if_pos hd];simp);unfold zyn at h1;by_cases h2:(zyq b (zfg b c).1.scaled).2=0
   ·exact h2
   ·rw[if_pos h2]at h1;exact absurd h1 h2
  ·rw[if_neg hd]at hk;cases hk
theorem val_from {b:Bks} (hok:zba b=true) {c:Rt6} (hc:za3 c b.ents.length b.accs.length=0) (h:(zyq b c).2≠0):(∀k∈zyk (zfg b c).1,(zyq b k).2=0)∨∃k∈zyk (zfg b c).1,zyq b k=zyq b c:=by
 by_cases hall:∀k∈zyk (zfg b c).1,(zyq b k).2=0
 ·exact .inl hall
 right;have hz:=z6f hok h
 have key:∃k∈zys (zfg b c).1,(zyq b k).2=(zyq b c).2:=by
  have hsh:=z6h b c;have hnet:=zz1 hok hc
  obtain⟨k0,hk0,hk1⟩:∃k∈zyk (zfg b c).1,(zyq b k).2≠0:=by
   false_or_by_contra
   rename_i hno
   exact hall fun k hk=>by
    false_or_by_contra
    rename_i h9
    exact hno ⟨k,hk,h9⟩
  have hk0:=z0s hk0
  have hb0:(zfg b c).1.base.2=0:=by
   false_or_by_contra
   rename_i h9
   rw[hsh.1 h9]at hk0
   cases hk0
  generalize(zfg b c).1=R at *
  obtain⟨P,hP⟩:∃P,R.base::R.plus.map (zyq b)=P:=⟨_,rfl⟩
  have hl:∀X,R.base::(R.plus.map (zyq b)++X)=P++X:=fun X=>by rw[←hP];rfl
  rw[hl]at hnet
  have hall:k0∈R.plus∨k0∈R.minus∨(R.rated=true∧k0=R.scaled):=by
   unfold zys at hk0;rcases List.mem_append.1 hk0 with h9|h9
   ·rcases List.mem_append.1 h9 with h9|h9
    ·exact .inl h9
    ·exact .inr (.inl h9)
   ·by_cases hd:R.rated=true
    ·rw[if_pos hd,List.mem_singleton]at h9;exact .inr (.inr ⟨hd,h9⟩)
    ·rw[if_neg hd]at h9;cases h9
  by_cases h1:zzy 0 P=0
  ·have hplus:∀k∈R.plus,(zyq b k).2=0:=fun k hk=>z1y.1 h1 _ (by rw[←hP];exact List.mem_cons_of_mem _ (List.mem_map.2 ⟨k,hk,rfl⟩))
   by_cases hd:R.rated=true
   ·have hm:=hsh.2 hd
    have hks:k0=R.scaled:=by
     rcases hall with h9|h9|h9
     ·exact absurd (hplus _ h9) hk1
     ·rw[hm]at h9;cases h9
     ·exact h9.2
    subst hks
    have hs:zzy 0 [zyn (zyq b R.scaled) R.ratio R.has]=(zyq b R.scaled).2:=by
     unfold zyn;rw[if_pos hk1];rfl
    refine⟨R.scaled,hk0,?_⟩;rw[hnet,if_pos hd,hm];unfold zy4;rw[List.map_nil,List.append_nil,z57,h1,hs,if_neg hk1]
   ·rw[if_neg hd,List.append_nil]at hnet
    have hkm:k0∈R.minus:=by
     rcases hall with h9|h9|h9
     ·exact absurd (hplus _ h9) hk1
     ·exact h9
     ·exact absurd h9.1 hd
    by_cases h2:zzy 0 (R.minus.map (zyq b))=0
    ·exact absurd (z1y.1 h2 _ (List.mem_map.2 ⟨k0,hkm,rfl⟩)) hk1
    ·obtain⟨v,hv,hv2⟩:=z6m h2;obtain⟨k,hk,rfl⟩:=List.mem_map.1 hv;refine⟨k,by unfold zys;simp[hk],?_⟩;rw[hnet];unfold zy4;rw[z57,h1,if_neg h2];exact hv2
  ·obtain⟨v,hv,hv2⟩:=z6m h1;rw[←hP]at hv;rcases List.mem_cons.1 hv with rfl|hv
   ·rw[hb0]at hv2;exact absurd hv2.symm h1
   ·obtain⟨k,hk,rfl⟩:=List.mem_map.1 hv;refine⟨k,by unfold zys;simp[hk],?_⟩;have hst:∀X,zzy 0 (P++X)=zzy 0 P:=fun X=>by rw[z57];exact z1x h1 X
    rw[hnet];unfold zy4;rw[List.append_assoc,hst,if_neg h1];exact hv2
 obtain⟨k,hk,he⟩:=key;refine⟨k,(z1j _).2 hk,?_⟩;have h1:=z6f hok (c:=k) (by rw[he];exact h);exact Prod.ext (h1.trans hz.symm) he
theorem z6o {b:Bks} {c k y:Rt6} (hk:k∈zyk (zfg b c).1) (h:Need b [k] y):Need b [c] y:=by
 induction h with
 |base h=>rw[List.mem_singleton]at h;subst h;exact .step (.base (List.mem_singleton.2 rfl)) hk
 |step _ h ih=>exact .step ih h
theorem z6g {b:Bks} (hok:zba b=true):∀(n:Nat) {c:Rt6},zzj b c<n→za3 c b.ents.length b.accs.length=0→(zyq b c).2≠0→∃y,Need b [c] y∧zyq b y=zyq b c∧∀k∈zyk (zfg b y).1,(zyq b k).2=0
 |0,_,h,_,_=>by omega
 |n+1,c,h,hc,hv=>by
  rcases val_from hok hc hv with h1|⟨k,hk,he⟩
  ·exact⟨c,.base (List.mem_singleton.2 rfl),rfl,h1⟩
  ·have hd:=zz9 hok hc (z0s hk);obtain⟨y,h2,h3,h4⟩:=z6g hok n (by omega) hd.1 (by rw[he];exact hv);exact⟨y,z6o hk h2,h3.trans he,h4⟩
theorem z6i {b:Bks} (hok:zba b=true) {c:Rt6} (hc:za3 c b.ents.length b.accs.length=0) (h:(zyq b c).2=0) {k:Rt6} (hk:Need b [c] k):za3 k b.ents.length b.accs.length=0∧(zyq b k).2=0:=by
 induction hk with
 |base h9=>rw[List.mem_singleton]at h9;subst h9;exact⟨hc,h⟩
 |step _ h9 ih=>exact⟨(zz9 hok ih.1 (z0s h9)).1,z6n hok ih.1 ih.2 _ h9⟩
theorem blamed {b:Bks} (hok:zba b=true) (hen:b.ents.length≤6) (hac:b.accs.length≤9) {c:Rt6} (hp:c.2.2.2.1≤3) {L:List Rt6} {er:Int} (h:BlameAns b c L er):
 (er≠0→L=[]∧zyq b c=(0,er))∧(er=0→L.length≤19872∧(∀y∈L,za3 y b.ents.length b.accs.length=0∧((zyq b y).2=10∨(zyq b y).2=40)∧∀k∈zyk (zfg b y).1,(zyq b k).2=0)∧((zyq b c).2=0→L=[])∧((zyq b c).2≠0→∃y∈L,zyq b y=zyq b c)):=by
 by_cases hc:za3 c b.ents.length b.accs.length=0
 ·rcases h.ans hc with⟨_,_,S,h1,h2,h3⟩|⟨rfl,S,h1,h3,rfl⟩
  ·have:=z6e hok hen hac hp hc h1 h2;omega
  ·have hm:∀k,k∈zza S↔Need b [c] k:=fun k=>(zzc S).mem_iff.trans (h3 k)
   have hin:∀k,Need b [c] k→za3 k b.ents.length b.accs.length=0:=fun k hk=>z6d hok (l:=[c]) (fun x hx=>by rw[List.mem_singleton]at hx;exact hx▸hc) hk
   have hbd:∀k,k∈zzu b (zza S)↔Need b [c] k∧(zyq b k).2≠0:=fun k=>by
    unfold zzu;rw[List.mem_filter,hm];simp
   have hdel:∀x,(!delB b (zzu b (zza S)) x)=true↔(Need b [c] x∧(zyq b x).2≠0)∧∀k∈zyk (zfg b x).1,¬(Need b [c] k∧(zyq b k).2≠0):=fun x=>by
    unfold delB;simp only[Bool.not_eq_true',Bool.or_eq_false_iff,Bool.not_eq_false',decide_eq_true_eq,List.any_eq_false,hbd]
   refine⟨fun h9=>absurd rfl h9,fun _=>⟨?_,fun y hy=>?_,fun h0=>?_,fun h0=>?_⟩⟩
   ·refine Nat.le_trans (List.length_filter_le _ _) ?_;rw[z0n];exact z6e hok hen hac hp hc h1 fun k hk=>(h3 k).1 hk
   ·obtain⟨⟨hn,hv⟩,hr⟩:=(hdel y).1 (List.mem_filter.1 hy).2;have hy0:=hin y hn;have hf:=z1z hok _ (Nat.lt_succ_self _) hy0;unfold z2o at hf;refine⟨hy0,by omega,fun k hk=>?_⟩;false_or_by_contra
    rename_i h9
    exact hr k hk ⟨.step hn hk,h9⟩
   ·refine List.filter_eq_nil_iff.2 fun x _ hx=>?_
    have:=(hdel x).1 hx;exact this.1.2 (z6i hok hc h0 this.1.1).2
   ·obtain⟨y,h4,h5,h6⟩:=z6g hok _ (Nat.lt_succ_self _) hc h0;refine⟨y,List.mem_filter.2 ⟨(hm y).2 h4,(hdel y).2 ⟨⟨h4,by rw[h5];exact h0⟩,fun k hk h9=>h9.2 (h6 k hk)⟩⟩,h5⟩
 ·obtain⟨rfl,rfl⟩:=h.bad hc;exact⟨fun _=>⟨rfl,z4y hc⟩,fun h9=>absurd h9 hc⟩
end Go.Gk.V38
namespace Go.Proofs.YtlnlghboaheemaaGreatDoor
open Go.RowKit Go.Gk Go.Gk.V32 Go.Gk.V33 Go.Gk.V37 Go.Gk.V38
theorem z54 {w:World} {e a s r l n:Value} {b:Bks} {us:List (Ent×Value)} (h:BksAt w e a s r l n b us) (h64:Bks64 b) (hT:Tab64 3 w) (c1 c2 c3 c4 c5 c6:Int):
 Calls Tryz.prog 5 #[.agg #[e,a,s,r,l,n],.agg #[.int .i64 c1,.int .i64 c2,.int .i64 c3,.int .i64 c4,.int .i64 c5,.int .i64 c6]] w fun x w'=>x=.returned (.bool true)∧Tf w w':=by
 have HTA:=Lib.hid (fun w' (t9:Tf w w')=>hT.keep t9);clear hT;obtain⟨W,hW,tw,hbB,hbC⟩:=al2 w #[e,a,s,r,l,n] #[.int .i64 c1,.int .i64 c2,.int .i64 c3,.int .i64 c4,.int .i64 c5,.int .i64 c6] 29 31;have HF:=Lib.hid (z2e (h.keep tw) c1 c2 c3 c4 c5 c6);have HW:=Lib.hid (h.keep tw);obtain⟨Ae,ce,rfl,_,_⟩:=h.ents.form;obtain⟨Aa,ca,rfl,_,_⟩:=h.accs.form;obtain⟨As,cs,rfl,_,_⟩:=h.stakes.form;obtain⟨Ar,cr,rfl,_,_⟩:=h.rates.form;obtain⟨Al,cl,rfl,_,_⟩:=h.locks.form;obtain⟨An,cn,rfl,_,_⟩:=h.ent.row.form;clear h;obtain⟨g0,g1,g2,g3,g4,g5⟩:=hbB.f6;obtain⟨k0,k1,k2,k3,k4,k5⟩:=hbC.f6;go_enter Tryz.func5,Tryz.ntmps5;go_wp2_with fail;generalize hzw:w.heap.size=z at *;clear hzw;refine HF.out.mono ?_;rintro _ w1 ⟨fw,rfl,hfw,t1⟩;clear HF k0 k1 k2 k3 k4 k5 g0 g1 g2 g3 g4 g5 hW;have tt1:=tw.trans t1
 cases fw
 ·clear hfw;go_wp2_with fail;refine(zy0 w1 (HTA.out w1 tt1)).mono ?_;rintro _ w2 ⟨rfl,t2⟩;go_wp2;go_ret;exact⟨rfl,tt1.trans t2⟩
 have hfew:=zwv (hfw rfl).1;have HSM:=Lib.hid (hfw rfl).2;have hB1:=hbB.keep t1 id;have hC1:=hbC.keep t1 id;have h1:=HW.out.keep t1;clear hbB hbC HW tw t1 hfw;obtain⟨g0,g1,g2,g3,g4,g5⟩:=hB1.f6;go_wp2_with fail;refine(zwu h1 hfew h64).mono ?_;rintro _ w2 ⟨hsee,t2⟩;have tt2:=tt1.trans t2
 rcases hsee with⟨_,m,rfl,hm⟩|⟨hok,bv,bi,B,t,mr,mp,e',a',s',r',l',n',lv,fs,us',rfl,hV⟩
 ·have hm2:(m !=0)=true:=by simpa using hm
  clear g0 g1 g2 g3 g4 g5 hm;go_wp2_with fail;refine(zy0 w2 (HTA.out w2 tt2)).mono ?_;rintro _ w3 ⟨rfl,t3⟩;go_wp2;go_ret;exact⟨rfl,tt2.trans t3⟩
 have hC2:=hC1.keep t2 id;clear g0 g1 g2 g3 g4 g5 hB1 hC1 h1 tt1 t2;have hpl:=z34 hfew;have FACTS:=Lib.hid (show RuleFacts b from⟨zvc hfew,zxs hfew,ztj h64,by have:=hfew.rates;omega,(zec hok).1,by have:=hfew.accs;omega,hok⟩);have HOK:=Lib.hid hok;have HPL:=Lib.hid hpl;have HV:=Lib.hid (fun w' (t9:Tf w2 w')=>hV.keep t9);have HTT:=Lib.hid (fun w' (t9:Tf w2 w')=>HTA.out w' (tt2.trans t9));have T2:=Lib.hid tt2;clear hfew h64 hok hpl hV HTA tt2;obtain⟨q0,q1,q2,q3,q4,q5⟩:=hC2.f6;have HBL:=Lib.hid (z4p (HV.out w2 (Tch.refl _ _)) FACTS.out HPL.out (HTT.out w2 (Tch.refl _ _)) c1 c2 c3 c4 c5 c6);go_wp2_with fail;refine HBL.out.mono ?_;rintro _ w3 ⟨L,u,er,rfl,hrow,t3,hA⟩;have hlaw:=blamed HOK.out HSM.out.1 HSM.out.2.1 (c:=(c1,c2,c3,c4,c5,c6)) HSM.out.2.2 hA;clear HBL q0 q1 q2 q3 q4 q5 hA;obtain⟨A3,k3,rfl,_,_⟩:=hrow.form;have hrow:=hrow.weak (P':=fun _=>True) (fun _ _=>trivial);have hC3:=hC2.keep t3 id;obtain⟨q0,q1,q2,q3,q4,q5⟩:=hC3.f6;have HVL:=Lib.hid (z5q (HV.out w3 t3) FACTS.out HPL.out (HTT.out w3 t3) c1 c2 c3 c4 c5 c6)
 obtain⟨vx,hvx⟩:∃vx,zyq b (c1,c2,c3,c4,c5,c6)=vx:=⟨_,rfl⟩
 rw[hvx]at HVL hlaw;clear hvx;obtain⟨x1,x2⟩:=vx;unfold vlV at HVL;simp only at HVL;go_wp2_with fail;refine HVL.out.mono ?_;rintro _ w4 ⟨rfl,t4⟩;clear HVL q0 q1 q2 q3 q4 q5 hC2 hC3;have tX:=tal w4 (.cells #[.int .i64 x1,.int .i64 x2] 39);have bX:=Blk.new w4 39 #[.int .i64 x1,.int .i64 x2];have t34:=t4.trans tX;have T5:=t3.trans t34;have HROW:=Lib.hid (fun w' (t9:Tf (w4.alloc (.cells #[.int .i64 x1,.int .i64 x2] 39)) w')=>hrow.keep (t34.trans t9));obtain⟨z0,z1⟩:=bX.f2;clear hrow tX t34 t4 t3;by_cases her:er=0
 rotate_left
 ·have hx:(er !=0)=true:=by simpa using her
  obtain⟨rfl,hv⟩:=hlaw.1 her;obtain⟨rfl,rfl⟩:x1=0∧x2=er:=by simpa using hv
  clear her hv hlaw HROW bX;(try simp only[List.length_nil]);go_wp2_with fail;refine(zy0 _ (HTT.out _ T5)).mono ?_;rintro _ w6 ⟨rfl,t6⟩;go_wp2;(try simp only[Exit.inBlock,Exit.then]);(try rw[Exit.noGoto_ret]);go_ret;exact⟨rfl,(T2.out.trans T5).trans t6⟩
 subst her;obtain⟨hlen,hin,hno,hyes⟩:=hlaw.2 rfl;have HIN:=Lib.hid hin;have HNO:=Lib.hid hno;have HYES:=Lib.hid hyes;clear hlaw hin hno hyes
 obtain⟨P,hP⟩:∃P:Rt6→Bool,P=fun y=>decide (zyq b y=(x1,x2)):=⟨_,rfl⟩
 have HP:=Lib.hid hP;clear hP
 obtain⟨f0,hf0⟩:∃f0:Bool,(x2==0)=f0:=⟨_,rfl⟩
 have HF0:=Lib.hid hf0;go_wp2_with fail;generalize hW5:w4.alloc _=W5 at *;generalize w4.heap.size=xb at *;clear hW5 hf0;(try rw[HF0.out]);go_loopw [10,11] (fun o i wr=>∃(j:Nat) (fo:Bool),j≤L.length∧i=.int .i64 j∧o=.bool fo∧fo=(f0||(L.take j).any P)∧Tf W5 wr) (fun _ i _=>L.length-(intOf i).toNat)
 case atStart=>exact⟨0,f0,Nat.zero_le _,rfl,rfl,by simp,Tch.refl _ _⟩
 case round=>
  obtain⟨j,fo,hj,rfl,rfl,hfo,ht⟩:=hrel;have HFO:=Lib.hid hfo;clear hfo;have hj0:=znn j;have Tr:=T5.trans ht;by_cases hlt:j<L.length
  ·have hlt':(j:Int)<(L.length:Int):=by omega
   have hl9:=HROW.out wr ht;obtain⟨g,o9,rfl⟩:=hl9.head (by omega);have HQ:=Lib.hid (fun w' (t9:Tf wr w')=>Row.six (HROW.out w' (ht.trans t9)) zd3 hlt rfl);obtain⟨q0,q1,q2,q3,q4,q5⟩:=Row.six hl9 zd3 hlt rfl;obtain⟨hck,h1040,hreads⟩:=HIN.out _ (List.getElem_mem hlt);have HTK:=Lib.hid (show L.take (j+1)=L.take j++[L[j]]from List.take_succ_eq_append_getElem hlt);generalize L[j]=k at *;obtain⟨e1,e2,e3,e4,e5,e6⟩:=k;simp only at q0 q1 q2 q3 q4 q5 HQ;have HVL:=Lib.hid (z5q (HV.out wr Tr) FACTS.out HPL.out (HTT.out wr Tr) e1 e2 e3 e4 e5 e6)
   obtain⟨vy,hvy⟩:∃vy,zyq b (e1,e2,e3,e4,e5,e6)=vy:=⟨_,rfl⟩
   have HPK:=Lib.hid (show P (e1,e2,e3,e4,e5,e6)=decide (vy=(x1,x2)) by rw[HP.out];simp only[hvy]);rw[hvy]at HVL h1040;clear hvy hl9;obtain⟨y1,y2⟩:=vy;unfold vlV at HVL;simp only at HVL h1040;have H1040:=Lib.hid h1040;have HRE2:=Lib.hid ((zz8 (b:=b) (c:=(e1,e2,e3,e4,e5,e6))).trans hck);have HRL2:=Lib.hid (z1l FACTS.out.hok HPL.out (e1,e2,e3,e4,e5,e6));clear hck h1040;go_wp2_with fail;refine HVL.out.mono ?_;rintro _ wa ⟨rfl,ta⟩;clear HVL q0 q1 q2 q3 q4 q5;have tY:=tal wa (.cells #[.int .i64 y1,.int .i64 y2] 39);have bY:=Blk.new wa 39 #[.int .i64 y1,.int .i64 y2];have tab:=ta.trans tY;have Tb:=Tr.trans tab;have HREC:=Lib.hid (zga (HV.out _ Tb) FACTS.out (HTT.out _ Tb) e1 e2 e3 e4 e5 e6);obtain⟨q0,q1,q2,q3,q4,q5⟩:=HQ.out _ tab;clear HQ ta tY;go_wp2_with fail;generalize wa.alloc _=wb at *;generalize wa.heap.size=yb at *;refine HREC.out.mono ?_;rintro _ wc ⟨v2,rfl,hr2,tc⟩;clear HREC q0 q1 q2 q3 q4 q5
   obtain⟨RQ2,hRQ2⟩:∃q,zfg b (e1,e2,e3,e4,e5,e6)=q:=⟨_,rfl⟩
   rw[hRQ2]at hr2 HRE2 HRL2 hreads⊢;clear hRQ2;obtain⟨R2,er2⟩:=RQ2;simp only at hr2 HRE2 HRL2 hreads⊢;obtain rfl:er2=0:=HRE2.out;have HRI2:=Lib.hid (fun w' (t9:Tf wc w')=>hr2.keep t9)
   obtain⟨RR2,hRR2⟩:∃RR,R2=RR:=⟨_,rfl⟩
   rw[hRR2]at HRI2 HRL2 hreads;have HRDS:=Lib.hid hreads;clear hRR2 HRE2 hreads;obtain⟨⟨yb1,yb2⟩,ql,ni,⟨ys1,ys2,ys3,ys4,ys5,ys6⟩,yrd,⟨yr1,yr2⟩,yhs⟩:=R2;obtain⟨p2,m2,rfl,hp2,hm2⟩:=hr2;obtain⟨P3,k4,rfl,_,_⟩:=hp2.form;obtain⟨M3,d3,rfl,_,_⟩:=hm2.form;unfold z4g at HRI2⊢;simp only at HRI2⊢;have tR:=tal wc (.cells #[.int .i64 yb1,.int .i64 yb2,.slice P3 ql.length k4,.slice M3 ni.length d3,.int .i64 ys1,.int .i64 ys2,.int .i64 ys3,.int .i64 ys4,.int .i64 ys5,.int .i64 ys6,.bool yrd,.int .i64 yr1,.int .i64 yr2,.bool yhs] 46);have bR:=Blk.new wc 46 #[.int .i64 yb1,.int .i64 yb2,.slice P3 ql.length k4,.slice M3 ni.length d3,.int .i64 ys1,.int .i64 ys2,.int .i64 ys3,.int .i64 ys4,.int .i64 ys5,.int .i64 ys6,.bool yrd,.int .i64 yr1,.int .i64 yr2,.bool yhs];have tbd:=tc.trans tR;have Td:=Tb.trans tbd;have HRA:=Lib.hid (zz5 (HRI2.out _ tR) (show RR2.plus.length+RR2.minus.length≤50000 by have:=HRL2.out;omega))
   have HLN:=Lib.hid (show(zyk RR2).length≤5001 by
    unfold zyk zys;refine Nat.le_trans (zzr _) ?_;rw[List.length_append,List.length_append];have:=HRL2.out
    split<;>simp <;>omega)
   obtain⟨LR,hLR⟩:∃LR,zyk RR2=LR:=⟨_,rfl⟩
   rw[hLR]at HRA HLN HRDS;obtain⟨f0',f1,f2,f3,f4,f5,f6,f7,f8,f9,f10,f11,f12,f13⟩:=bR.f14;clear hLR hp2 hm2 tc tR bR HRI2 HRL2;go_wp2_with fail;generalize wc.alloc _=wd at *;generalize wc.heap.size=rb at *;refine HRA.out.mono ?_;rintro _ we ⟨u9,rfl,hr9,te⟩;clear HRA f0' f1 f2 f3 f4 f5 f6 f7 f8 f9 f10 f11 f12 f13;have Te:=Td.trans te;have HVS:=Lib.hid (z0i (HV.out we Te) FACTS.out HPL.out (HTT.out we Te) (hr9.weak (P':=fun _=>True) (fun _ _=>trivial)) (by have:=HLN.out;omega));clear hr9;go_wp2_with fail;refine HVS.out.mono ?_;rintro _ wf ⟨u10,rfl,hrv,tf⟩;have hrv:=hrv.weak (P':=fun _=>True) (fun _ _=>trivial);obtain⟨A10,k10,rfl,_,_⟩:=hrv.form;have HRV:=Lib.hid (fun w' (t9:Tf wf w')=>hrv.keep t9);have tbf:=(tbd.trans te).trans tf;have bYf:=bY.keep tbf id;have htf:=ht.trans (tab.trans tbf);have bXf:=bX.keep htf id;have hln:=HLN.out;rw[List.length_map];clear HVS hrv tbd te tf tbf bY tab Tb Td Te ht Tr;go_wp2_with fail;go_loopw [16] (fun m wr=>∃i:Nat,i≤LR.length∧m=.int .i64 i∧Tf wf wr) (fun m _=>LR.length-(intOf m).toNat)
   case atStart=>exact⟨0,Nat.zero_le _,rfl,Tch.refl _ _⟩
   case round=>
    obtain⟨i,hi,rfl,hti⟩:=hrel;have hi0:=znn i;by_cases hlti:i<LR.length
    ·have hlti':(i:Int)<(LR.length:Int):=by omega
     have hlm:(LR.map (zyq b)).length=LR.length:=List.length_map _;have hrw:=HRV.out _ hti;obtain⟨g9,o8,rfl⟩:=hrw.head (by omega);obtain⟨m0,m1⟩:=Row.two (i:=i) (l:=LR.map (zyq b)) hrw zyt (by omega) (by rw[List.getElem_map];rfl);have hz:(zyq b LR[i]).2=0:=HRDS.out _ (List.getElem_mem hlti);generalize zyq b LR[i]=mv at *;obtain⟨mv1,mv2⟩:=mv;simp only at hz m0 m1;subst hz;clear hrw hlm bYf bXf;go_wp2;go_roundw
     case rel=>exact⟨i+1,by omega,by go_num,hti⟩
     case measure=>simp[intOf]<;>omega
    ·obtain rfl:i=LR.length:=by omega
     have hlti':¬(LR.length:Int)<(LR.length:Int):=by omega
     have htz:=htf.trans hti;obtain⟨z0,z1⟩:=(bXf.keep hti id).f2;obtain⟨n0,n1⟩:=(bYf.keep hti id).f2
     have hcmp:∀w':World,(binOp .eql 39 (.agg #[.int .i64 y1,.int .i64 y2]) (.agg #[.int .i64 x1,.int .i64 x2])).run Tryz.prog w'=.ok (.bool (decide (((y1,y2):Vl)=(x1,x2)))) w':=fun w'=>by
      rw[zt8];congr 2;rw[Bool.eq_iff_iff];simp
     have HNX:=Lib.hid (show(f0||(L.take (j+1)).any P)=(fo||decide (((y1,y2):Vl)=(x1,x2))) by
      rw[HFO.out,HTK.out,List.any_append,List.any_cons,List.any_nil,HPK.out,Bool.or_false,Bool.or_assoc])
     obtain⟨dd,hdd⟩:∃dd,decide (((y1,y2):Vl)=(x1,x2))=dd:=⟨_,rfl⟩
     rw[hdd]at HNX;simp only[hdd]at hcmp;have h1040:=H1040.out;clear hdd bYf bXf HTK HFO HPK H1040 HRV HRDS HLN hti;rcases h1040 with rfl|rfl
     all_goals
      cases fo
      all_goals
       go_wp2;go_roundw
       case rel=>exact⟨j+1,_,by omega,by go_num,rfl,by rw[HNX.out];simp,htz⟩
       case measure=>simp[intOf]<;>omega
  ·obtain rfl:j=L.length:=by omega
   have hlt':¬(L.length:Int)<(L.length:Int):=by omega
   have hfo:=HFO.out;rw[List.take_length]at hfo;obtain⟨z0,z1⟩:=(bX.keep ht id).f2;by_cases hx2:x2=0
   ·subst hx2;obtain rfl:L=[]:=HNO.out rfl;obtain rfl:fo=true:=by rw[hfo,←HF0.out];rfl
    clear HF0 HNO HYES HIN HROW bX ht hfo HFO;(try simp only[List.length_nil]);go_wp2_with fail;refine(zy0 wr (HTT.out wr Tr)).mono ?_;rintro _ wz ⟨rfl,tz⟩;go_wp2;(try rw[Exit.noGoto_ret]);go_ret;exact⟨rfl,(T2.out.trans Tr).trans tz⟩
   ·obtain⟨y,hy,hye⟩:=HYES.out hx2;have hpos:(L.length:Int)>0:=by have:=List.length_pos_of_mem hy;omega
    have hany:L.any P=true:=List.any_eq_true.2 ⟨y,hy,by rw[HP.out];exact decide_eq_true hye⟩;have hx2':(x2 !=0)=true:=by simpa using hx2
    obtain rfl:fo=true:=by rw[hfo,hany];simp
    clear HF0 HNO HYES HIN HROW bX ht hy hye hany hfo HFO;go_wp2_with fail;refine(zy0 wr (HTT.out wr Tr)).mono ?_;rintro _ wz ⟨rfl,tz⟩;go_wp2;(try rw[Exit.noGoto_ret]);go_ret;exact⟨rfl,(T2.out.trans Tr).trans tz⟩
theorem z56 {w:World} {u v:Value} (hT:Tab64 3 w) (hu:∃b,BooksIs (fun _=>True) w u b∧Bks64 b) (hv:∃c:Rt6,v=zcq c∧(I64 c.1∧I64 c.2.1∧I64 c.2.2.1∧I64 c.2.2.2.1∧I64 c.2.2.2.2.1∧I64 c.2.2.2.2.2)):
 Calls Tryz.prog 5 #[u,v] w fun x w'=>x=.returned (.bool true)∧Tf w w':=by
 obtain⟨b,hb,h64⟩:=hu;obtain⟨⟨c1,c2,c3,c4,c5,c6⟩,rfl,_⟩:=hv;obtain⟨e,a,s,r,l,n,us,rfl,h⟩:=hb.at;exact z54 h h64 hT c1 c2 c3 c4 c5 c6
