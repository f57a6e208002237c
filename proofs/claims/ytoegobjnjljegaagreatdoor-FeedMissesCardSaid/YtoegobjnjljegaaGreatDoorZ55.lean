/-
  Plain: what a recipe reads: each cell once, in the order in which they come. No program in sight.
-/
import Derived.Test.YtoegobjnjljegaaGreatDoorZ9
import Derived.Test.YtoegobjnjljegaaGreatDoorGc
namespace Go.Gk
open Go.RowKit
def zz6 (s:List Rt6):List Rt6→List Rt6
 |[]=>[]
 |x::r=>if x∈s then zz6 s r else x::zz6 (x::s) r
def uniq (l:List Rt6):List Rt6:=zz6 [] l
theorem z0d (x:Rt6):∀(l s:List Rt6),zz6 s (l++[x])=zz6 s l++(if x∈s∨x∈l then[]else[x])
 |[],s=>by by_cases h:x∈s<;>simp[zz6,h]
 |y::r,s=>by
  simp only[List.cons_append,zz6];by_cases h:y∈s
  ·rw[if_pos h,if_pos h,z0d x r s];by_cases hx:x=y
   ·subst hx;simp[h]
   ·simp[hx]
  ·rw[if_neg h,if_neg h,z0d x r (y::s)];simp only[List.cons_append,List.mem_cons];congr 2;by_cases hx:x=y
   ·simp[hx]
   ·simp[hx]
theorem z1w (l:List Rt6) (x:Rt6):uniq (l++[x])=uniq l++(if x∈l then[]else[x]):=by
 unfold uniq;rw[z0d];simp
theorem z0r:∀(l s:List Rt6),(zz6 s l).length≤l.length
 |[],_=>Nat.le_refl _
 |y::r,s=>by
  simp only[zz6];split
  ·have:=z0r r s;simp;omega
  ·have:=z0r r (y::s);simp;omega
theorem zzr (l:List Rt6):(uniq l).length≤l.length:=z0r l []
theorem zz7 {x:Rt6}:∀(l s:List Rt6),x∈zz6 s l↔x∈l∧x∉s
 |[],s=>by simp[zz6]
 |y::r,s=>by
  simp only[zz6];by_cases h:y∈s
  ·rw[if_pos h,zz7 r s];by_cases hx:x=y
   ·subst hx;simp[h]
   ·simp[hx]
  ·rw[if_neg h,List.mem_cons,zz7 r (y::s),List.mem_cons];by_cases hx:x=y
   ·subst hx;simp[h]
   ·simp[hx]
theorem z1j {x:Rt6} (l:List Rt6):x∈uniq l↔x∈l:=by unfold uniq;rw[zz7];simp
theorem zzx:∀(l s:List Rt6),(zz6 s l).Nodup
 |[],_=>List.nodup_nil
 |y::r,s=>by
  simp only[zz6];split
  ·exact zzx r s
  ·refine List.nodup_cons.2 ⟨fun h=>?_,zzx r _⟩;exact((zz7 r _).1 h).2 (List.mem_cons_self ..)
theorem z3t (l:List Rt6):(uniq l).Nodup:=zzx l []
def zyv (l:List Rt6) (x:Rt6):Nat:=(l.filter fun y=>decide (y=x)).length
theorem z08 (l:List Rt6) (y x:Rt6):zyv (l++[y]) x=zyv l x+(if x=y then 1 else 0):=by
 unfold zyv;rw[List.filter_append,List.length_append];by_cases h:y=x
 ·subst h;simp
 ·have h':¬x=y:=fun e=>h e.symm
  simp[h,h']
theorem z09 {l:List Rt6} {x:Rt6}:zyv l x=0↔x∉l:=by
 unfold zyv;rw[List.length_eq_zero_iff,List.filter_eq_nil_iff];constructor
 ·intro h hx;exact h x hx (by simp)
 ·intro h y hy e;exact h (by simpa using(of_decide_eq_true e)▸hy)
theorem z26 (l:List Rt6) (x:Rt6):zyv l x≤l.length:=List.length_filter_le _ _
def zys (r:Rcp):List Rt6:=r.plus++r.minus++(if r.rated then[r.scaled]else[])
def zyk (r:Rcp):List Rt6:=uniq (zys r)
open Go.RowKit
abbrev Vl:=Int×Int
def zzb (v:Vl):List Value:=[iV v.1,iV v.2]
theorem zyt:∀a,(zzb a).length=2:=fun _=>rfl
def vlV (v:Vl):Value:=.agg #[iV v.1,iV v.2]
def zzy (f:Int) (l:List Vl):Int:=l.foldl (fun f v=>if f=0 then v.2 else f) f
theorem z4x (f:Int) (l:List Vl) (v:Vl):zzy f (l++[v])=if zzy f l=0 then v.2 else zzy f l:=by
 unfold zzy;rw[List.foldl_append];rfl
theorem z82 (f:Int) (a b:List Vl):zzy f (a++b)=zzy (zzy f a) b:=by
 unfold zzy;rw[List.foldl_append]
theorem z1x {f:Int} (h:f≠0):∀l:List Vl,zzy f l=f
 |[]=>rfl
 |v::r=>by
  show zzy (if f=0 then v.2 else f) r=f;rw[if_neg h];exact z1x h r
def zy4 (p m:List Vl):Vl:=if zzy 0 (p++m)=0 then zda ((p.map (·.1)).sum-(m.map (·.1)).sum)else(0,zzy 0 (p++m))
def zze (x:Int) (d:Int):Int:=
 if 2*(x%d)>d∨(2*(x%d)=d∧x/d%2=1)then x/d+1 else x/d
def zb7 (r:Int×Int):Bool:=decide (1≤r.1)&&decide (1≤r.2)&&decide (r.1≤1000000000000)&&decide (r.2≤1000000000000)
def zyy (x:Int) (r:Int×Int):Vl:=if zb7 r=true then zda (zze (x*r.1) r.2)else(0,11)
def zyn (v:Vl) (r:Int×Int) (has:Bool):Vl:=if v.2≠0 then(0,v.2)else if v.1=0 then(0,0)else if has=true then zyy v.1 r else(0,40)
def zzz (l:List (Rt6×Vl)) (k:Rt6):Vl:=l.foldl (fun a p=>if k=p.1 then p.2 else a) (0,0)
theorem z3u (l:List (Rt6×Vl)) (p:Rt6×Vl) (k:Rt6):zzz (l++[p]) k=if k=p.1 then p.2 else zzz l k:=by
 unfold zzz;rw[List.foldl_append];rfl
theorem z2l {l:List (Rt6×Vl)} {k:Rt6}:∀{a:Vl},k∉l.map (·.1)→l.foldl (fun a p=>if k=p.1 then p.2 else a) a=a:=by
 induction l with
 |nil=>intro a _;rfl
 |cons p r ih=>
  intro a h;simp only[List.map_cons,List.mem_cons,not_or]at h;rw[List.foldl_cons,if_neg h.1];exact ih h.2
theorem z3v (p:Rt6×Vl) (l:List (Rt6×Vl)) (h:p.1∉l.map (·.1)):zzz (p::l) p.1=p.2:=by
 unfold zzz;rw[List.foldl_cons,if_pos rfl];exact z2l h
theorem z3w (p:Rt6×Vl) (l:List (Rt6×Vl)) {k:Rt6} (h:k≠p.1):zzz (p::l) k=zzz l k:=by
 unfold zzz;rw[List.foldl_cons,if_neg h]
def zzi (r:Rcp) (ins:List Vl) (c:Rt6):Vl:=zzz ((zyk r).zip ins) c
def zzv (r:Rcp) (ins:List Vl):Vl:=
 if(zyk r).length=ins.length then zy4 (r.base::(r.plus.map (zzi r ins)++(if r.rated then[zyn (zzi r ins r.scaled) r.ratio r.has]else[]))) (r.minus.map (zzi r ins))else(0,2)
def zz0 (v:Vl):Prop:=I64 v.1
theorem z1k (x:Int):I64 (zda x).1:=by
 unfold zda I64;split
 ·assumption
 ·simp
theorem z8k (p m:List Vl):zz0 (zy4 p m):=by
 unfold zy4 zz0;split
 ·exact z1k _
 ·simp[I64]
theorem z83 (v:Vl) (r:Int×Int) (has:Bool):zz0 (zyn v r has):=by
 unfold zyn zz0;split
 ·simp[I64]
 ·split
  ·simp[I64]
  ·split
   ·unfold zyy;split
    ·exact z1k _
    ·simp[I64]
   ·simp[I64]
theorem look_64 {l:List (Rt6×Vl)} (h:∀p∈l,zz0 p.2) (k:Rt6):zz0 (zzz l k):=by
 have:∀(l:List (Rt6×Vl)) (a:Vl),zz0 a→(∀p∈l,zz0 p.2)→zz0 (l.foldl (fun a p=>if k=p.1 then p.2 else a) a):=by
  intro l;induction l with
  |nil=>intro a ha _;exact ha
  |cons p r ih=>
   intro a ha hl;rw[List.foldl_cons];refine ih _ ?_ fun q hq=>hl q (List.mem_cons_of_mem _ hq)
   split
   ·exact hl p (List.mem_cons_self ..)
   ·exact ha
 exact this l (0,0) (by simp[zz0,I64]) h
open Go.RowKit
def nrm (r:Int×Int):Int×Int:=if zb7 r=true then(r.1/(Nat.gcd r.1.toNat r.2.toNat:Nat),r.2/(Nat.gcd r.1.toNat r.2.toNat:Nat))else(0,0)
def zg9 (r:Int×Int):(Int×Int)×Int:=if zb7 r=true then(nrm (r.2,r.1),0)else((0,0),11)
def crs (a b:Int×Int):Int×Int:=((nrm ((nrm a).1,(nrm b).2)).1*(nrm ((nrm b).1,(nrm a).2)).1,(nrm ((nrm a).1,(nrm b).2)).2*(nrm ((nrm b).1,(nrm a).2)).2)
def zck (a b:Int×Int):(Int×Int)×Int:=if zb7 a=true∧zb7 b=true then(if(crs a b).1≤1000000000000∧(crs a b).2≤1000000000000 then(crs a b,0)else((0,0),10))else((0,0),11)
theorem zbp {r:Int×Int}:zb7 r=true↔1≤r.1∧1≤r.2∧r.1≤1000000000000∧r.2≤1000000000000:=by
 unfold zb7;simp only[Bool.and_eq_true,decide_eq_true_eq];omega
theorem zno {n g:Int} (hn:1≤n) (hg:0<g) (hd:g∣n):1≤n/g∧n/g≤n:=by
 obtain⟨k,rfl⟩:=hd;rw[Int.mul_ediv_cancel_left _ (by omega)]
 have hk:0<k:=by
  rcases Int.lt_or_le 0 k with h|h
  ·exact h
  ·have:=Int.mul_nonpos_of_nonneg_of_nonpos (Int.le_of_lt hg) h;omega
 refine⟨hk,?_⟩;have:=Int.mul_le_mul_of_nonneg_right (show(1:Int)≤g from hg) (Int.le_of_lt hk);omega
theorem zhx {r:Int×Int} (h:zb7 r=true):zb7 (nrm r)=true:=by
 obtain⟨h1,h2,h3,h4⟩:=zbp.1 h;unfold nrm;rw[if_pos h];have hg:0<Nat.gcd r.1.toNat r.2.toNat:=Nat.gcd_pos_of_pos_left _ (by omega)
 have d1:((Nat.gcd r.1.toNat r.2.toNat:Nat):Int)∣r.1:=by
  have:=Int.natCast_dvd_natCast.2 (Nat.gcd_dvd_left r.1.toNat r.2.toNat);rwa [Int.toNat_of_nonneg (by omega)]at this
 have d2:((Nat.gcd r.1.toNat r.2.toNat:Nat):Int)∣r.2:=by
  have:=Int.natCast_dvd_natCast.2 (Nat.gcd_dvd_right r.1.toNat r.2.toNat);rwa [Int.toNat_of_nonneg (by omega)]at this
 have e1:=zno h1 (by omega) d1;have e2:=zno h2 (by omega) d2;exact zbp.2 ⟨e1.1,e2.1,by simp only;omega,by simp only;omega⟩
theorem zhl {a b:Int×Int} (ha:zb7 a=true) (hb:zb7 b=true):zb7 (a.1,b.2)=true:=by
 have h1:=zbp.1 ha;have h2:=zbp.1 hb;exact zbp.2 ⟨h1.1,h2.2.1,h1.2.2.1,h2.2.2.2⟩
abbrev Rk4:=Int×Int×Int×Int
def rkey (r:Rt6):Rk4:=(r.1,r.2.1,r.2.2.1,r.2.2.2.1)
def zgf (l:List Rt6) (k:Rk4):Option (Int×Int):=l.foldl (fun o r=>if rkey r=k then some r.2.2.2.2 else o) none
theorem zqc (l:List Rt6) (r:Rt6) (k:Rk4):zgf (l++[r]) k=if rkey r=k then some r.2.2.2.2 else zgf l k:=by
 unfold zgf;rw[List.foldl_append];rfl
theorem zkk {l:List Rt6} {j:Nat} (h:j<l.length) (k:Rk4):zgf (l.take (j+1)) k=if rkey l[j]=k then some l[j].2.2.2.2 else zgf (l.take j) k:=by
 rw[List.take_succ_eq_append_getElem h,zqc]
def zha (l:List Rt6) (k:Rk4):Nat→Nat
 |0=>0
 |j+1=>if(l[j]?.map rkey)=some k then j+1 else zha l k j
theorem znp (l:List Rt6) (k:Rk4):∀j,j≤l.length→zha l k j≤j∧(zha l k j=0→zgf (l.take j) k=none)∧(∀i (hi:i<l.length),zha l k j=i+1→zgf (l.take j) k=some l[i].2.2.2.2)
 |0,_=>⟨Nat.le_refl _,fun _=>rfl,fun i hi h=>by cases h⟩
 |j+1,hj=>by
  have ih:=znp l k j (by omega);unfold zha;have hg:l[j]?=some l[j]:=List.getElem?_eq_getElem (by omega);rw[hg,zkk (show j<l.length by omega)];simp only[Option.map_some,Option.some.injEq];by_cases h:rkey l[j]=k
  ·rw[if_pos h,if_pos h];refine⟨Nat.le_refl _,fun h0=>(by cases h0),fun i hi h1=>?_⟩;obtain rfl:j=i:=by omega
   rfl
  ·rw[if_neg h,if_neg h];exact⟨by have:=ih.1;omega,ih.2.1,ih.2.2⟩
def zbl (l:List Rt6) (k:Rk4):(Int×Int)×Bool:=match zgf l k with |some r=>(r,true)|none=>((0,0),false)
def zcy (l:List Rt6) (kd p f t:Int):(Int×Int)×Bool:=
 if(zbl l (f,t,kd,p)).2=true then((zbl l (f,t,kd,p)).1,true)
 else((zg9 (zbl l (t,f,kd,p)).1).1,(zbl l (t,f,kd,p)).2&&decide ((zg9 (zbl l (t,f,kd,p)).1).2=0))
def zr8 (l:List Rt6) (kd p f t:Int):List Int→(Int×Int)×Bool
 |[]=>((0,0),false)
 |c::r=>if(c≠f∧c≠t)∧((zcy l kd p f c).2=true∧(zcy l kd p c t).2=true)∧(zck (zcy l kd p f c).1 (zcy l kd p c t).1).2=0 then((zck (zcy l kd p f c).1 (zcy l kd p c t).1).1,true)else zr8 l kd p f t r
def zcw (l:List Rt6) (f t kd p:Int):(Int×Int)×Bool:=if(zcy l kd p f t).2=true then((zcy l kd p f t).1,true)else zr8 l kd p f t [1,2,3,4,5,6,7,8]
def zee (l:List Rt6) (f t kd p:Int):(Int×Int)×Bool:=if f=t∧1≤f∧f≤8 then((1,1),true)else zcw l f t kd p
def zb6 (l:List Rt6) (kd p f t:Int) (n:Nat):(Int×Int)×Bool:=zr8 l kd p f t ((List.range (8-n)).map fun i=>((n+1+i:Nat):Int))
theorem zi7 (l:List Rt6) (kd p f t:Int):zb6 l kd p f t 8=((0,0),false):=rfl
theorem zhy (l:List Rt6) (kd p f t:Int) {n:Nat} (h:n<8):zb6 l kd p f t n=if(((n:Int)+1)≠f∧((n:Int)+1)≠t)∧((zcy l kd p f ((n:Int)+1)).2=true∧(zcy l kd p ((n:Int)+1) t).2=true)∧(zck (zcy l kd p f ((n:Int)+1)).1 (zcy l kd p ((n:Int)+1) t).1).2=0 then((zck (zcy l kd p f ((n:Int)+1)).1 (zcy l kd p ((n:Int)+1) t).1).1,true)else zb6 l kd p f t (n+1):=by
 unfold zb6
 obtain⟨m,hm⟩:∃m,8-n=m+1:=⟨8-n-1,by omega⟩
 have hm2:8-(n+1)=m:=by omega
 rw[hm,hm2,List.range_succ_eq_map,List.map_cons]
 have e:(List.map Nat.succ (List.range m)).map (fun i=>((n+1+i:Nat):Int))=(List.range m).map fun i=>((n+1+1+i:Nat):Int):=by
  rw[List.map_map];apply List.map_congr_left
  intro i _;simp only[Function.comp];omega
 rw[e];have e2:((n+1+0:Nat):Int)=(n:Int)+1:=by omega
 rw[e2];rfl
def zgg (b:Bks) (x:Int):Int:=if 1≤x∧x≤b.ents.length then(b.ents[(x-1).toNat]?).getD 0 else 0
def zei (b:Bks) (a:Int):Int:=((b.accs[(a-1).toNat]?).map (·.2.1)).getD 0
def zcp (b:Bks) (c:Rt6):Rcp:=
 if c.2.2.1=1 then(if c.2.2.2.2.2≠0 then Rcp.none else{Rcp.none with minus:=((zag b.accs).filter fun a=>decide (a≠1)).map fun a=>(c.1,c.2.1,a,c.2.2.2)})
 else if zgg b c.2.1=c.2.2.2.2.1 then{Rcp.none with plus:=[(2,c.2.1,c.2.2.1,c.2.2.2.1,0,c.2.2.2.2.2)]}
 else{Rcp.none with
  plus:=if zei b c.2.2.1≠1∧0<c.2.2.2.1 then[(c.1,c.2.1,c.2.2.1,c.2.2.2.1-1,c.2.2.2.2.1,c.2.2.2.2.2)]else[]
  scaled:=(if zei b c.2.2.1=1 then 2 else 1,c.2.1,c.2.2.1,c.2.2.2.1,0,c.2.2.2.2.2)
  rated:=true
  ratio:=(zee b.rates (zgg b c.2.1) c.2.2.2.2.1 (zei b c.2.2.1) c.2.2.2.1).1
  has:=(zee b.rates (zgg b c.2.1) c.2.2.2.2.1 (zei b c.2.2.1) c.2.2.2.1).2}
def zd1 (b:Bks) (c:Rt6):Rcp×Int:=if za7 b c 3 3=0 then(zcp b c,0)else(Rcp.none,za7 b c 3 3)
theorem zr9 {a b:Nat} (h:zb7 ((a:Int),(b:Int))=true):nrm ((a:Int),(b:Int))=(((a/Nat.gcd a b:Nat):Int),((b/Nat.gcd a b:Nat):Int)):=by
 unfold nrm;rw[if_pos h];simp
