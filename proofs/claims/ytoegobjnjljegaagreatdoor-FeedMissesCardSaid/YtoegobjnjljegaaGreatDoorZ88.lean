/-
  Plain: how many cells there may be in small books; where a fault comes from. No program in sight.
-/
import Derived.Test.YtoegobjnjljegaaGreatDoorZ83
namespace Go.Gk.V38
open Go.RowKit Go.Gk.V32 Go.Gk.V33 Go.Gk.V37
theorem z6d {b:Bks} (hok:zba b=true) {l:List Rt6} (hl:∀c∈l,za3 c b.ents.length b.accs.length=0) {k:Rt6} (h:Need b l k):za3 k b.ents.length b.accs.length=0:=by
 induction h with
 |base h=>exact hl _ h
 |step _ hk ih=>exact(zz9 hok ih (z0s hk)).1
theorem rule_per {b:Bks} {c:Rt6}:∀k∈zys (zfg b c).1,k.2.2.2.1≤c.2.2.2.1:=by
 have hn:∀k∈zys Rcp.none,k.2.2.2.1≤c.2.2.2.1:=fun k hk=>by simp[zys,Rcp.none]at hk
 unfold zfg;split
 ·split
  ·unfold zcz;split
   ·unfold zcr;split
    ·simp only;split
     ·intro k hk;simp[zys,Rcp.none]at hk
     ·intro k hk;simp only[zys,Rcp.none,zbo,List.append_nil,List.mem_append,List.mem_singleton,if_false,Bool.false_eq_true]at hk;rcases hk with hk|rfl
      ·split at hk
       ·rw[List.mem_singleton]at hk;subst hk;show c.2.2.2.1-1≤c.2.2.2.1;omega
       ·cases hk
      ·exact Int.le_refl _
    ·exact hn
   ·split
    ·unfold zd1;split
     ·unfold zcp;simp only;split
      ·split
       ·exact hn
       ·intro k hk;simp only[zys,Rcp.none,List.nil_append,List.append_nil,if_false,Bool.false_eq_true,List.mem_map]at hk;obtain⟨x,_,rfl⟩:=hk;exact Int.le_refl _
      ·split
       ·intro k hk;simp only[zys,Rcp.none,List.append_nil,if_false,Bool.false_eq_true,List.mem_singleton]at hk;subst hk;exact Int.le_refl _
       ·intro k hk;simp only[zys,Rcp.none,List.append_nil,if_true,List.mem_append,List.mem_singleton]at hk;rcases hk with hk|rfl
        ·split at hk
         ·rw[List.mem_singleton]at hk;subst hk;show c.2.2.2.1-1≤c.2.2.2.1;omega
         ·cases hk
        ·exact Int.le_refl _
     ·exact hn
    ·split
     ·unfold zcc;split
      ·unfold zc8;split
       ·intro k hk;simp only[zys,Rcp.none,List.append_nil,if_false,Bool.false_eq_true,List.mem_append,List.mem_singleton]at hk;rcases hk with rfl|rfl<;>exact Int.le_refl _
       ·split
        ·intro k hk;simp only[zys,Rcp.none,List.append_nil,if_false,Bool.false_eq_true,List.mem_singleton]at hk;subst hk;exact Int.le_refl _
        ·split
         ·intro k hk;simp only[zys,Rcp.none,List.append_nil,List.nil_append,if_true,List.mem_singleton]at hk;subst hk;exact Int.le_refl _
         ·exact hn
      ·exact hn
     ·split
      ·unfold zcf;split
       ·have hsd:∀acc,∀k∈zce b c acc,k.2.2.2.1≤c.2.2.2.1:=fun acc k hk=>by
         unfold zce at hk;obtain⟨pr,_,rfl⟩:=List.mem_map.1 hk;exact Int.le_refl _
        intro k hk;simp only[zys,Rcp.none,List.append_nil,if_false,Bool.false_eq_true,List.mem_append]at hk;rcases hk with hk|hk
        ·unfold zgb at hk;split at hk
         ·obtain⟨acc,_,hk⟩:=List.mem_flatMap.1 hk;exact hsd acc k hk
         ·cases hk
        ·unfold ze4 at hk;split at hk
         ·exact hsd _ k hk
         ·cases hk
       ·exact hn
      ·unfold zfz;split
       ·intro k hk;simp only[zys,Rcp.none,List.append_nil,if_false,Bool.false_eq_true,zco,List.mem_cons,List.mem_append,List.mem_map,List.not_mem_nil,or_false]at hk;rcases hk with rfl|⟨x,hx,rfl⟩|hk|rfl
        ·exact Int.le_refl _
        ·exact Int.le_refl _
        ·split at hk
         ·unfold zd0 at hk;obtain⟨x,hx,hk⟩:=List.mem_flatMap.1 hk;obtain⟨s,hs,rfl⟩:=List.mem_map.1 hk;exact Int.le_refl _
         ·cases hk
        ·exact Int.le_refl _
       ·exact hn
  ·intro k hk;simp only[zys,zkh,Rcp.none,List.append_nil,if_false,Bool.false_eq_true,List.mem_map]at hk;obtain⟨x,hx,rfl⟩:=hk;exact Int.le_refl _
 ·exact hn
theorem need_per {b:Bks} {c k:Rt6} (h:Need b [c] k):k.2.2.2.1≤c.2.2.2.1:=by
 induction h with
 |base h=>rw[List.mem_singleton]at h;subst h;exact Int.le_refl _
 |step _ hk ih=>exact Int.le_trans (rule_per _ (z0s hk)) ih
def z6a (e q:Int):Int:=if q=0 then 0 else if q<e then q else q-1
def z6j (r u t:Int):Int:=if r=1 then t else if r=2 then 6+t else if r=3 then 12+(u-1)*6+t else 60+(r-4)*8+(u-1)
def z6b (c:Rt6):Int:=(((c.2.1-1)*9+(c.2.2.1-1))*4+c.2.2.2.1)*92+z6j c.1 c.2.2.2.2.1 (z6a c.2.1 c.2.2.2.2.2)
def z6c (c:Rt6):Prop:=(1≤c.1∧c.1≤7)∧(1≤c.2.1∧c.2.1≤6)∧(1≤c.2.2.1∧c.2.2.1≤9)∧(0≤c.2.2.2.1∧c.2.2.2.1≤3)∧((c.1=1∨c.1=2)∧c.2.2.2.2.1=0∨¬(c.1=1∨c.1=2)∧1≤c.2.2.2.2.1∧c.2.2.2.2.1≤8)∧(c.1≤3∧0≤c.2.2.2.2.2∧c.2.2.2.2.2≤6∨¬c.1≤3∧c.2.2.2.2.2=0)∧c.2.2.2.2.2≠c.2.1
theorem z58 {e q:Int} (h1:1≤e∧e≤6) (h2:0≤q∧q≤6) (_:q≠e):0≤z6a e q∧z6a e q≤5:=by
 unfold z6a;split
 ·omega
 ·split<;>omega
theorem ptn_inj {e q q':Int} (h1:1≤e) (_:0≤q) (_:0≤q') (h3:q≠e) (h3':q'≠e) (h:z6a e q=z6a e q'):q=q':=by
 unfold z6a at h;split at h<;>split at h<;>(try split at h)<;>(try split at h)<;>omega
theorem z59 {r u t:Int} (hr:1≤r∧r≤7) (hu:(r=1∨r=2)∨1≤u∧u≤8) (ht:0≤t∧t≤5):0≤z6j r u t∧z6j r u t<92:=by
 unfold z6j;split
 ·omega
 ·split
  ·omega
  ·split<;>omega
theorem idx_inj {r u t r' u' t':Int} (hr:1≤r∧r≤7) (hu:(r=1∨r=2)∧u=0∨¬(r=1∨r=2)∧1≤u∧u≤8) (ht:0≤t∧t≤5) (h0:r≤3∨t=0)
 (hr':1≤r'∧r'≤7) (hu':(r'=1∨r'=2)∧u'=0∨¬(r'=1∨r'=2)∧1≤u'∧u'≤8) (ht':0≤t'∧t'≤5) (h0':r'≤3∨t'=0) (h:z6j r u t=z6j r' u' t'):r=r'∧u=u'∧t=t':=by
 unfold z6j at h;by_cases a1:r=1
 ·rw[if_pos a1]at h;by_cases b1:r'=1
  ·rw[if_pos b1]at h;omega
  ·rw[if_neg b1]at h;by_cases b2:r'=2
   ·rw[if_pos b2]at h;omega
   ·rw[if_neg b2]at h;split at h<;>omega
 ·rw[if_neg a1]at h;by_cases a2:r=2
  ·rw[if_pos a2]at h;by_cases b1:r'=1
   ·rw[if_pos b1]at h;omega
   ·rw[if_neg b1]at h;by_cases b2:r'=2
    ·rw[if_pos b2]at h;omega
    ·rw[if_neg b2]at h;split at h<;>omega
  ·rw[if_neg a2]at h;by_cases b1:r'=1
   ·rw[if_pos b1]at h;split at h<;>omega
   ·rw[if_neg b1]at h;by_cases b2:r'=2
    ·rw[if_pos b2]at h;split at h<;>omega
    ·rw[if_neg b2]at h;split at h<;>split at h<;>omega
theorem z52 {c:Rt6} (h:z6c c):0≤z6b c∧z6b c<19872:=by
 obtain⟨r,e,a,p,u,q⟩:=c;unfold z6c at h;simp only at h;have ht:=z58 (e:=e) (q:=q) (by omega) (by omega) (by omega);have hi:=z59 (r:=r) (u:=u) (t:=z6a e q) (by omega) (by omega) ht;unfold z6b;simp only;generalize z6j r u (z6a e q)=i at *;omega
theorem code_inj {c k:Rt6} (hc:z6c c) (hk:z6c k) (h:z6b c=z6b k):c=k:=by
 obtain⟨r,e,a,p,u,q⟩:=c;obtain⟨r',e',a',p',u',q'⟩:=k;unfold z6c at hc hk;simp only at hc hk;have ht:=z58 (e:=e) (q:=q) (by omega) (by omega) (by omega);have hi:=z59 (r:=r) (u:=u) (t:=z6a e q) (by omega) (by omega) ht;have ht':=z58 (e:=e') (q:=q') (by omega) (by omega) (by omega);have hi':=z59 (r:=r') (u:=u') (t:=z6a e' q') (by omega) (by omega) ht'
 have hz:r≤3∨z6a e q=0:=by
  by_cases h3:r≤3
  ·exact .inl h3
  ·right;have:q=0:=by omega
   unfold z6a;rw[if_pos this]
 have hz':r'≤3∨z6a e' q'=0:=by
  by_cases h3:r'≤3
  ·exact .inl h3
  ·right;have:q'=0:=by omega
   unfold z6a;rw[if_pos this]
 unfold z6b at h;simp only at h
 have hij:z6j r u (z6a e q)=z6j r' u' (z6a e' q')∧e=e'∧a=a'∧p=p':=by
  generalize z6j r u (z6a e q)=i at *;generalize z6j r' u' (z6a e' q')=i' at *;omega
 obtain⟨h1,rfl,rfl,rfl⟩:=hij;obtain⟨rfl,rfl,h4⟩:=idx_inj (by omega) (by omega) ht hz (by omega) (by omega) ht' hz' h1;obtain rfl:=ptn_inj (by omega) (by omega) (by omega) (by omega) (by omega) h4;rfl
theorem z6k {n:Nat} {l:List Nat} (hn:l.Nodup) (h:∀x∈l,x<n):l.length≤n:=by
 have:=List.Nodup.length_le_of_subset hn (l₂:=List.range n) (fun x hx=>List.mem_range.2 (h x hx));rwa [List.length_range]at this
theorem z6l {S:List Rt6} (hn:S.Nodup) (h:∀k∈S,z6c k):S.length≤19872:=by
 have h1:(S.map fun c=>(z6b c).toNat).Nodup:=by
  unfold List.Nodup;rw[List.pairwise_map];refine List.Pairwise.imp_of_mem (fun{x y} hx hy hxy e=>hxy ?_) hn;have r1:=z52 (h x hx);have r2:=z52 (h y hy);exact code_inj (h x hx) (h y hy) (by omega)
 have h2:=z6k h1 (n:=19872) fun x hx=>by
  obtain⟨c,hc,rfl⟩:=List.mem_map.1 hx;have:=z52 (h c hc);omega
 rwa [List.length_map]at h2
theorem z6e {b:Bks} (hok:zba b=true) (he:b.ents.length≤6) (ha:b.accs.length≤9) {c:Rt6} (hp:c.2.2.2.1≤3) (hc:za3 c b.ents.length b.accs.length=0) {S:List Rt6} (hn:S.Nodup) (hs:∀k∈S,Need b [c] k):S.length≤19872:=by
 refine z6l hn fun k hk=>?_
 have h1:=z6d hok (l:=[c]) (fun x hx=>by rw[List.mem_singleton]at hx;exact hx▸hc) (hs k hk);have h2:=need_per (hs k hk);obtain⟨r,e,a,p,u,q⟩:=k;have h3:=zyp.1 h1;unfold z6c;simp only at h2⊢;omega
theorem z6m:∀{l:List Vl},zzy 0 l≠0→∃v∈l,v.2=zzy 0 l:=by
 have go:∀(l:List Vl) (f:Int),f=0→zzy f l≠0→∃v∈l,v.2=zzy f l:=by
  intro l;induction l with
  |nil=>intro f hf h;exact absurd hf h
  |cons x r ih=>
   intro f hf h
   have e:zzy f (x::r)=zzy x.2 r:=by
    subst hf;rfl
   rw[e]at h⊢;by_cases hx:x.2=0
   ·rw[hx]at h⊢;obtain⟨v,hv,hv2⟩:=ih 0 rfl h;exact⟨v,List.mem_cons_of_mem _ hv,hv2⟩
   ·exact⟨x,List.mem_cons_self ..,(z1x hx r).symm⟩
 exact fun{l} h=>go l 0 rfl h
