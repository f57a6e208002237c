/-
  Plain: what a cell reads stands lower than it; all that it reads may be. No program in sight.
-/
import Derived.Test.YtoegobjnjljegaaGreatDoorZ76
namespace Go.Gk.V38
open Go.RowKit Go.Gk.V33 Go.Gk.V37
theorem zvo {f:Int→Int} {N:Nat} (hnew:∀{e x:Int} {out:List Int},Chain f e out x→x≠0→x∉out) (hlen:∀{e x:Int} {out:List Int},Chain f e out x→out.length≤N):
 ∀(k:Nat) {e x:Int} {out:List Int},Chain f e out x→N-out.length≤k→∃out',Chain f e out' 0
 |0,e,x,out,h,hk=>by
  by_cases hx:x=0
  ·exact⟨out,hx▸h⟩
  ·have h1:=hlen (h.step hx (hnew h hx));rw[List.length_append,List.length_singleton]at h1;omega
 |k+1,e,x,out,h,hk=>by
  by_cases hx:x=0
  ·exact⟨out,hx▸h⟩
  ·have h1:=h.step hx (hnew h hx);have h2:=hlen h1;rw[List.length_append,List.length_singleton]at h2;exact zvo hnew hlen k h1 (by rw[List.length_append,List.length_singleton];omega)
theorem ztt {f:Int→Int} {N:Nat} (hnew:∀{e x:Int} {out:List Int},Chain f e out x→x≠0→x∉out) (hlen:∀{e x:Int} {out:List Int},Chain f e out x→out.length≤N) {a x:Int} (h:f x=a) (ha:a≠0):
 (zq4 f (N+1) (f x)).length=(zq4 f (N+1) (f a)).length+1∧(zq4 f (N+1) (f x)).length≤N+1:=by
 obtain⟨out,ho⟩:=zvo hnew hlen N (Chain.start (f:=f) (e:=a)) (by simp);have hl:=hlen ho;have h1:=zp5 ho (N-out.length);have h2:=zp5 ho (N+1-out.length);rw[show out.length+(N-out.length)=N by omega,zg3,List.append_nil]at h1;rw[show out.length+(N+1-out.length)=N+1 by omega,zg3,List.append_nil]at h2
 have h3:zq4 f (N+1) (f x)=a::zq4 f N (f a):=by
  rw[h];conv=>lhs;unfold zq4
  rw[if_neg ha]
 rw[h3,h1,h2,List.length_cons];exact⟨rfl,by omega⟩
def depA (l:List Acc) (a:Int):Nat:=(zq4 (zgl l) (l.length+1) (zgl l a)).length
def z2m (b:Bks) (e p:Int):Nat:=(zds b.stakes p e).length
theorem zzm {b:Bks} (h:zba b=true):b.accs.length≤60∧(∀x∈b.accs,zgp x.1 b.accs.length=true)∧∀a,1≤a∧a≤(b.accs.length:Int)→zih b.accs a=false:=by
 unfold zba zj2 at h;simp only[Bool.and_eq_true,decide_eq_true_eq,List.all_eq_true,List.isEmpty_iff,List.filter_eq_nil_iff]at h;obtain⟨⟨⟨⟨⟨_,⟨⟨h1,_⟩,h2⟩,h3⟩,_⟩,_⟩,_⟩,_⟩:=h;refine⟨h1,fun x hx=>(h2 x hx).1,fun a ha=>?_⟩;have:=h3 a (zgc.2 ha);simpa using this
theorem z2n {b:Bks} (h:zba b=true) (y:Int):zgl b.accs y=0∨(4≤zgl b.accs y∧zgl b.accs y≤(b.accs.length:Int)):=by
 unfold zgl
 cases hg:b.accs[(y-1).toNat]? with
 |none=>exact .inl rfl
 |some x=>
  have:=(zzm h).2.1 x (List.mem_of_getElem? hg);unfold zgp at this;simp only[Bool.and_eq_true,decide_eq_true_eq,Bool.not_eq_true',Bool.and_eq_false_iff,decide_eq_false_iff_not]at this;show x.1=0∨4≤x.1∧x.1≤(b.accs.length:Int);omega
theorem z10 (l:List Acc) (a:Int):∀(d k:Nat) (y:Int),1≤d→d≤k→zg6 (zgl l) d y=a→(∀j,1≤j→j<d→zg6 (zgl l) j y≠a∧zdb l (zg6 (zgl l) j y)=true)→zh2 l a k y=a
 |0,k,y,h,_,_,_=>by omega
 |d+1,0,y,_,h,_,_=>by omega
 |d+1,k+1,y,_,hk,he,hj=>by
  unfold zh2;by_cases hd:d=0
  ·subst hd;have he:zgl l y=a:=he;rw[he];simp
  ·have h1:=hj 1 (by omega) (by omega);have h1':zgl l y≠a∧zdb l (zgl l y)=true:=h1;rw[if_neg (by simp[h1'.1,h1'.2])];exact z10 l a d k (zgl l y) (by omega) (by omega) he (fun j j1 j2=>hj (j+1) (by omega) (by omega))
theorem zeo (f:Int→Int):∀(m n:Nat) (x:Int),zg6 f (m+n) x=zg6 f n (zg6 f m x)
 |0,n,x=>by rw[Nat.zero_add];rfl
 |m+1,n,x=>by rw[show m+1+n=(m+n)+1 by omega];exact zeo f m n (f x)
theorem z11 {n:Nat}:∀{l:List Int},l.Nodup→(∀y∈l,1≤y∧y≤(n:Int))→l.length≤n:=by
 intro l hn hr;have h1:l ⊆ zal n:=fun y hy=>zgc.2 (hr y hy)
 have h2:=List.Nodup.length_le_of_subset hn h1;rwa [za5]at h2
theorem z0l {b:Bks} (h:zba b=true) {e x:Int} {out:List Int} (hc:Chain (zgl b.accs) e out x):∀y∈out,4≤y∧y≤(b.accs.length:Int):=fun y hy=>by
 obtain⟨z,hz⟩:=hc.image.2 y hy;have h0:=hc.nonzero y hy;rcases z2n h z with h1|h1
 ·rw[←hz]at h1;exact(h0 h1).elim
 ·rw[←hz]at h1;exact h1
theorem z1b {b:Bks} (h:zba b=true) {e x:Int} {out:List Int} (hc:Chain (zgl b.accs) e out x):out.length≤b.accs.length:=
 z11 hc.nodup fun y hy=>by have:=z0l h hc y hy;omega
theorem z3z {b:Bks} (h:zba b=true) {e x:Int} {out:List Int} (hc:Chain (zgl b.accs) e out x) (_:x≠0):x∉out:=by
 intro hm;obtain⟨i,hi,he⟩:=List.getElem_of_mem hm;have hg:=hc.get;have hat:=hc.at;have hi1:=hg i hi;have hr:=z0l h hc;have hl:=z1b h hc;rw[he]at hi1
 have hback:zg6 (zgl b.accs) (out.length-i) x=x:=by
  have h1:=zeo (zgl b.accs) (i+1) (out.length-i) e;rw[show i+1+(out.length-i)=out.length+1 by omega,←hat,←hi1]at h1;exact h1.symm
 have hturn:zh2 b.accs x b.accs.length x=x:=z10 b.accs x (out.length-i) b.accs.length x (by omega) (by omega) hback fun j j1 j2=>by
  have h1:=zeo (zgl b.accs) (i+1) j e;rw[←hi1]at h1;have h2:=hg (i+j) (by omega);rw[show i+j+1=i+1+j by omega,h1]at h2;rw[←h2];have h3:=hr out[i+j] (List.getElem_mem _);refine⟨fun e'=>?_,by unfold zdb;simp only[Bool.and_eq_true,decide_eq_true_eq];omega⟩;have h4:=(List.getElem_inj (xs:=out) (h₀:=by omega) (h₁:=hi) hc.nodup).1 (e'.trans he.symm);omega
 have hrx:=hr x hm;have:=(zzm h).2.2 x ⟨by omega,hrx.2⟩;unfold zih at this;rw[hturn]at this;simp at this
theorem z43 {b:Bks} (h:zba b=true) {a x:Int} (hx:x∈zhp b.accs a) (ha:a≠0):depA b.accs x=depA b.accs a+1∧depA b.accs x≤61∧x≠1:=by
 have hu:zgl b.accs x=a:=by simpa using(List.mem_filter.1 hx).2
 have h1:=ztt (N:=b.accs.length) (fun hc h0=>z3z h hc h0) (fun hc=>z1b h hc) hu ha;have h60:=(zzm h).1;refine⟨h1.1,by unfold depA;omega,fun e=>?_⟩;subst e;unfold zba zj2 at h;simp only[Bool.and_eq_true,decide_eq_true_eq]at h;obtain⟨⟨⟨⟨⟨_,⟨⟨_,h3,h2⟩,_⟩,_⟩,_⟩,_⟩,_⟩,_⟩:=h;unfold zgl at hu
 have h0:b.accs[0]?=some (0,1,true,false):=by
  have:=congrArg (fun l:List Acc=>l[0]?) h2;simpa[zef,List.getElem?_take]using this
 rw[show((1:Int)-1).toNat=0 by rfl,h0]at hu;exact ha hu.symm
theorem z12 {b:Bks} (h:zba b=true) {p:Nat} (hp:p<24) {e x:Int} (hx:zam b.stakes x p=e) (he:e≠0):z2m b x p=z2m b e p+1:=by
 have hs:=(zec h).2.2;unfold z2m zds;exact(ztt (f:=fun y=>zam b.stakes y p) (N:=b.stakes.length) (fun hc _=>zl2 hp hs hc) (fun hc=>zf0 hc) hx he).1
theorem z0v {b:Bks} (h:zba b=true) {p:Nat} (hp:p<24) (e:Int):z2m b e p≤40:=by
 have hs:=(zec h).2.2;obtain⟨out,ho⟩:=zvo (f:=fun y=>zam b.stakes y p) (N:=b.stakes.length) (fun hc _=>zl2 hp hs hc) (fun hc=>zf0 hc) b.stakes.length (Chain.start (e:=e)) (by simp);unfold z2m;rw[zl3 ho];refine Nat.le_trans (z11 (n:=b.ents.length) ho.nodup fun y hy=>?_) (zec h).1;obtain⟨z,hz⟩:=ho.image.2 y hy;have h0:=ho.nonzero y hy;rw[hz]at h0⊢;exact zti hs h0
def zyw (b:Bks) (c:Rt6):Nat:=
 if c.1=1 then 0 else if c.1=2 then 1+c.2.2.2.1.toNat else if c.1=3 then 30+c.2.2.2.1.toNat else if c.1=6 then 60 else 61+3*(50-z2m b c.2.1 c.2.2.2.1)+(if c.1=7 then 0 else if c.1=4 then 1 else 2)
def z1o (b:Bks) (a:Int):Nat:=if a=1 then 100 else 62-depA b.accs a
def zzj (b:Bks) (c:Rt6):Nat:=zyw b c*128+z1o b c.2.2.1
theorem rankA_lt (b:Bks) (a:Int):z1o b a<128:=by unfold z1o;split<;>omega
theorem zyo {b:Bks} {k c:Rt6} (h:zyw b k<zyw b c):zzj b k<zzj b c:=by
 unfold zzj;have:=rankA_lt b k.2.2.1;omega
theorem zone1 {b:Bks} {e a p u q:Int}:zyw b (1,e,a,p,u,q)=0:=by unfold zyw;rfl
theorem z44 {b:Bks} {e a p u q:Int}:zyw b (2,e,a,p,u,q)=1+p.toNat:=by unfold zyw;rfl
theorem zyp {r e a p u q ne na:Int}:za3 (r,e,a,p,u,q) ne na=0↔((1≤r∧r≤7)∧(1≤e∧e≤40)∧(1≤a∧a≤60)∧(0≤p∧p≤23)∧((r=1∨r=2)∧u=0∨¬(r=1∨r=2)∧1≤u∧u≤8)∧(r≤3∧0≤q∧q≤40∨¬r≤3∧q=0)∧q≠e)∧e≤ne∧q≤ne∧a≤na:=by
 have hOK:zc2 (r,e,a,p,u,q)=true↔((1≤r∧r≤7)∧(1≤e∧e≤40)∧(1≤a∧a≤60)∧(0≤p∧p≤23)∧((r=1∨r=2)∧u=0∨¬(r=1∨r=2)∧1≤u∧u≤8)∧(r≤3∧0≤q∧q≤40∨¬r≤3∧q=0)∧q≠e):=by
  unfold zc2;simp only[Bool.and_eq_true,wi,decide_eq_true_eq,Bool.not_eq_true',beq_eq_false_iff_ne,ne_eq];by_cases h1:r=1∨r=2<;>by_cases h3:r≤3<;>simp only[h1,h3,if_true,if_false,true_and,not_true_eq_false,false_and,or_false,not_false_eq_true,false_or]<;>omega
 unfold za3;by_cases hk:zc2 (r,e,a,p,u,q)=true
 ·rw[if_pos hk];have h1:=hOK.1 hk;by_cases h2:ne<max e q
  ·rw[if_pos h2];constructor
   ·intro h;cases h
   ·rintro⟨_,h3,h4,_⟩;omega
  ·rw[if_neg h2];by_cases h3:na<a
   ·rw[if_pos h3];constructor
    ·intro h;cases h
    ·rintro⟨_,_,_,h4⟩;omega
   ·rw[if_neg h3];exact⟨fun _=>⟨h1,by omega,by omega,by omega⟩,fun _=>rfl⟩
 ·rw[if_neg hk];constructor
  ·intro h;cases h
  ·intro h;exact(hk (hOK.2 h.1)).elim
theorem z1c {l:List Acc} {a:Int} (h:zas l a=true):1≤a∧a≤(l.length:Int):=by
 unfold zas zdb at h;simp only[Bool.and_eq_true,decide_eq_true_eq]at h;exact h.1
theorem zzn {l:List Acc} {a:Int} (h:a∈zag l):1≤a∧a≤(l.length:Int):=z1c (List.mem_filter.1 h).2
theorem z47 {b:Bks} (hok:zba b=true) {c:Rt6} (h:za3 c b.ents.length b.accs.length=0) (hl:zas b.accs c.2.2.1=true) {k:Rt6} (hk:k∈zys (zcz b c).1):za3 k b.ents.length b.accs.length=0∧zzj b k<zzj b c:=by
 obtain⟨r,e,a,p,u,q⟩:=c;have h0:=zyp.1 h;have h60:=(zzm hok).1;have hents:=(zec hok).1;have hmay:∀lo hi:Int,lo≤r→r≤hi→za7 b (r,e,a,p,u,q) lo hi=0:=fun lo hi h1 h2=>zi2 h hl ⟨h1,h2⟩
 have hla:=z1c hl;simp only at hla;unfold zcz at hk;simp only at hk;by_cases h12:r=1∨r=2
 ·rw[if_pos h12]at hk;unfold zcr at hk;rw[if_pos (hmay 1 2 (by omega) (by omega))]at hk;simp only at hk;by_cases h1:r=1
  ·rw[if_pos h1]at hk;simp[zys,Rcp.none]at hk
  ·rw[if_neg h1]at hk;obtain rfl:r=2:=by omega
   simp only[zys,Rcp.none,zbo,List.append_nil,List.mem_append,List.mem_singleton,if_false,Bool.false_eq_true]at hk;rcases hk with hk|rfl
   ·split at hk
    ·rw[List.mem_singleton]at hk;subst hk;refine⟨zyp.2 (by omega),zyo ?_⟩;rw[z44,z44];omega
    ·cases hk
   ·refine⟨zyp.2 (by omega),zyo ?_⟩;rw[zone1,z44];omega
 rw[if_neg h12]at hk;by_cases h3:r=3
 ·rw[if_pos h3]at hk;subst h3;unfold zd1 at hk;rw[if_pos (hmay 3 3 (by omega) (by omega))]at hk;simp only at hk;unfold zcp at hk;simp only at hk;have hz:zyw b (3,e,a,p,u,q)=30+p.toNat:=by unfold zyw;rfl
  by_cases ha:a=1
  ·rw[if_pos ha]at hk;subst ha;split at hk
   ·simp[zys,Rcp.none]at hk
   ·simp only[zys,Rcp.none,List.nil_append,List.append_nil,if_false,Bool.false_eq_true,List.mem_map,List.mem_filter,decide_eq_true_eq]at hk;obtain⟨x,⟨hx,hx1⟩,rfl⟩:=hk;have hxr:=zzn hx;refine⟨zyp.2 (by omega),?_⟩;unfold zzj;have e1:zyw b (3,e,x,p,u,q)=zyw b (3,e,1,p,u,q):=by unfold zyw;rfl
    rw[e1];show _*128+z1o b x<_*128+z1o b 1;unfold z1o;rw[if_neg hx1,if_pos rfl];omega
  ·rw[if_neg ha]at hk;split at hk
   ·simp only[zys,Rcp.none,List.append_nil,if_false,Bool.false_eq_true,List.mem_singleton]at hk;subst hk;refine⟨zyp.2 (by omega),zyo ?_⟩;rw[hz,z44];omega
   ·simp only[zys,Rcp.none,List.append_nil,if_true,List.mem_append,List.mem_singleton]at hk;rcases hk with hk|rfl
    ·split at hk
     ·rw[List.mem_singleton]at hk;subst hk;refine⟨zyp.2 (by omega),zyo ?_⟩;rw[hz];have e1:zyw b (3,e,a,p-1,u,q)=30+(p-1).toNat:=by unfold zyw;rfl
      rw[e1];omega
     ·cases hk
    ·split
     ·refine⟨zyp.2 (by omega),zyo ?_⟩;rw[hz,z44];omega
     ·refine⟨zyp.2 (by omega),zyo ?_⟩;rw[hz,zone1];omega
 rw[if_neg h3]at hk;by_cases h45:r=4∨r=5
 ·rw[if_pos h45]at hk;unfold zcc at hk;rw[if_pos (hmay 4 5 (by omega) (by omega))]at hk;simp only at hk;have h7:za3 (7,e,a,p,u,q) b.ents.length b.accs.length=0:=zyp.2 (by omega);have z7:zyw b (7,e,a,p,u,q)=61+3*(50-z2m b e p)+0:=by unfold zyw;rfl
  have z4:zyw b (4,e,a,p,u,q)=61+3*(50-z2m b e p)+1:=by unfold zyw;rfl
  have z5:zyw b (5,e,a,p,u,q)=61+3*(50-z2m b e p)+2:=by unfold zyw;rfl
  unfold zc8 at hk;simp only at hk;rcases h45 with rfl|rfl
  ·rw[if_neg (by decide)]at hk;split at hk
   ·simp only[zys,Rcp.none,List.append_nil,if_false,Bool.false_eq_true,List.mem_singleton]at hk;subst hk;exact⟨h7,zyo (by rw[z7,z4];omega)⟩
   ·split at hk
    ·simp only[zys,Rcp.none,List.append_nil,List.nil_append,if_true,List.mem_singleton]at hk;subst hk;exact⟨h7,zyo (by rw[z7,z4];omega)⟩
    ·simp[zys,Rcp.none]at hk
  ·rw[if_pos rfl]at hk;simp only[zys,Rcp.none,List.append_nil,if_false,Bool.false_eq_true,List.mem_append,List.mem_singleton]at hk;rcases hk with rfl|rfl
   ·exact⟨h7,zyo (by rw[z7,z5];omega)⟩
   ·exact⟨zyp.2 (by omega),zyo (by rw[z4,z5];omega)⟩
 rw[if_neg h45]at hk;have hside:∀x y acc:Int,1≤x→x≤(b.ents.length:Int)→1≤y→y≤(b.ents.length:Int)→y≠x→1≤acc→acc≤(b.accs.length:Int)→(r=6∨r=7)→za3 (3,x,acc,p,u,y) b.ents.length b.accs.length=0:=fun x y acc h1 h2 h3 h4 h5 h6 h7 h8=>zyp.2 (by omega)
 have z3:∀x y acc:Int,zyw b (3,x,acc,p,u,y)=30+p.toNat:=fun x y acc=>by unfold zyw;rfl
 by_cases h6:r=6
 ·rw[if_pos h6]at hk;subst h6;unfold zcf at hk;rw[if_pos (hmay 6 6 (by omega) (by omega))]at hk;have hz:zyw b (6,e,a,p,u,q)=60:=by unfold zyw;rfl
  have hsd:∀acc:Int,1≤acc→acc≤(b.accs.length:Int)→∀k∈zce b (6,e,a,p,u,q) acc,za3 k b.ents.length b.accs.length=0∧zzj b k<zzj b (6,e,a,p,u,q):=by
   intro acc ha1 ha2 k hk;unfold zce zeb at hk;obtain⟨pr,hpr,rfl⟩:=List.mem_map.1 hk;obtain⟨x,hx,hpr⟩:=List.mem_flatMap.1 hpr;unfold zdz at hpr;obtain⟨y,hy,rfl⟩:=List.mem_map.1 hpr;have hy1:=z7t hok (List.mem_filter.1 hy).1;have hx1:=zgc.1 hx;exact⟨hside x y acc hx1.1 hx1.2 hy1.1.1 hy1.1.2 hy1.2 ha1 ha2 (.inl rfl),zyo (by rw[hz];show zyw b (3,x,acc,p,u,y)<60;rw[z3];omega)⟩
  simp only[zys,Rcp.none,List.append_nil,if_false,Bool.false_eq_true,List.mem_append]at hk;rcases hk with hk|hk
  ·unfold zgb at hk;split at hk
   ·obtain⟨acc,hacc,hk⟩:=List.mem_flatMap.1 hk;have:=zzn (List.mem_filter.1 hacc).1;exact hsd acc this.1 this.2 k hk
   ·cases hk
  ·unfold ze4 at hk;split at hk
   ·exact hsd a hla.1 hla.2 k hk
   ·cases hk
 ·rw[if_neg h6]at hk;obtain rfl:r=7:=by omega
  unfold zfz at hk;rw[if_pos (hmay 7 7 (by omega) (by omega))]at hk;have hz:zyw b (7,e,a,p,u,q)=61+3*(50-z2m b e p)+0:=by unfold zyw;rfl
  obtain⟨pn,rfl⟩:∃pn:Nat,p=(pn:Int):=⟨p.toNat,by omega⟩
  have hkid:∀x∈zgk b e pn,(1≤x∧x≤(b.ents.length:Int))∧z2m b x pn=z2m b e pn+1:=by
   intro x hx;unfold zgk at hx;split at hx
   ·have h1:=List.mem_filter.1 hx
    have h2:zam b.stakes x pn=e:=by
     have h2:=h1.2;unfold isKid at h2;simpa using h2
    exact⟨zgc.1 h1.1,z12 hok (by omega) h2 (by omega)⟩
   ·cases hx
  simp only[zys,Rcp.none,List.append_nil,if_false,Bool.false_eq_true,zco,List.mem_cons,List.mem_append,List.mem_map,List.not_mem_nil,or_false]at hk;rcases hk with rfl|⟨x,hx,rfl⟩|hk|rfl
  ·exact⟨show za3 (3,e,a,(pn:Int),u,0) _ _=0 from zyp.2 (by omega),zyo (by rw[hz];show zyw b (3,e,a,pn,u,0)<_;rw[z3];omega)⟩
  ·obtain⟨h1,h2⟩:=hkid x hx;have hm:=z0v hok (p:=pn) (by omega) x;refine⟨show za3 (4,x,a,(pn:Int),u,0) _ _=0 from zyp.2 (by omega),zyo ?_⟩;rw[hz];have z4:zyw b (ofC (7,e,a,pn,u,q) 4 x a)=61+3*(50-z2m b x pn)+1:=by unfold zyw ofC;rfl
   rw[z4];omega
  ·split at hk
   ·unfold zd0 at hk;obtain⟨x,hx,hk⟩:=List.mem_flatMap.1 hk;obtain⟨s,hs,rfl⟩:=List.mem_map.1 hk;obtain⟨h1,h2⟩:=hkid x hx;have hsr:=zzn (List.mem_filter.1 hs).1;have hm:=z0v hok (p:=pn) (by omega) x;refine⟨show za3 (5,x,s,(pn:Int),u,0) _ _=0 from zyp.2 (by omega),zyo ?_⟩;rw[hz];have z5:zyw b (ofC (7,e,a,pn,u,q) 5 x s)=61+3*(50-z2m b x pn)+2:=by unfold zyw ofC;rfl
    rw[z5];omega
   ·cases hk
  ·refine⟨show za3 (6,e,a,(pn:Int),u,0) _ _=0 from zyp.2 (by omega),zyo ?_⟩;rw[hz];have z6:zyw b (ofC (7,e,a,pn,u,q) 6 e a)=60:=by unfold zyw ofC;rfl
   rw[z6];omega
theorem zz9 {b:Bks} (hok:zba b=true) {c:Rt6} (h:za3 c b.ents.length b.accs.length=0) {k:Rt6} (hk:k∈zys (zfg b c).1):za3 k b.ents.length b.accs.length=0∧zzj b k<zzj b c:=by
 unfold zfg at hk;rw[if_pos h]at hk;by_cases hl:zas b.accs c.2.2.1=true
 ·rw[if_pos hl]at hk;exact z47 hok h hl hk
 ·rw[if_neg hl]at hk;simp only[zys,zkh,Rcp.none,List.append_nil,if_false,Bool.false_eq_true,List.mem_map]at hk;obtain⟨x,hx,rfl⟩:=hk;have h60:=(zzm hok).1;refine⟨child_in h h60 hx,?_⟩;obtain⟨r,e,a,p,u,q⟩:=c;have h0:=zyp.1 h;have hx:x∈zhp b.accs a:=hx;obtain⟨h1,h2,h3⟩:=z43 hok hx (by omega);unfold zzj;have e1:zyw b (zkg (r,e,a,p,u,q) x)=zyw b (r,e,a,p,u,q):=by unfold zyw zkg;rfl
  rw[e1];show _*128+z1o b x<_*128+z1o b a;unfold z1o;rw[if_neg h3];split<;>omega
