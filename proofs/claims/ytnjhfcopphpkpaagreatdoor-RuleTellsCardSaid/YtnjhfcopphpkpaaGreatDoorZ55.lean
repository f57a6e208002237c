/-
  Plain: what a recipe reads: each cell once, in the order in which they come. No program in sight.
-/
import Derived.Test.YtnjhfcopphpkpaaGreatDoorZ9
import Derived.Test.YtnjhfcopphpkpaaGreatDoorGc
namespace Go.Gk
open Go.RowKit
open Go.RowKit
def zb7 (r:Int×Int):Bool:=decide (1≤r.1)&&decide (1≤r.2)&&decide (r.1≤1000000000000)&&decide (r.2≤1000000000000)
open Go.RowKit
def nrm (r:Int×Int):Int×Int:=if zb7 r=true then(r.1/(Nat.gcd r.1.toNat r.2.toNat:Nat),r.2/(Nat.gcd r.1.toNat r.2.toNat:Nat))else(0,0)
def zg9 (r:Int×Int):(Int×Int)×Int:=if zb7 r=true then(nrm (r.2,r.1),0)else((0,0),11)
def crs (a b:Int×Int):Int×Int:=((nrm ((nrm a).1,(nrm b).2)).1*(nrm ((nrm b).1,(nrm a).2)).1,(nrm ((nrm a).1,(nrm b).2)).2*(nrm ((nrm b).1,(nrm a).2)).2)
def zck (a b:Int×Int):(Int×Int)×Int:=if zb7 a=true∧zb7 b=true then(if(crs a b).1≤1000000000000∧(crs a b).2≤1000000000000 then(crs a b,0)else((0,0),10))else((0,0),11)
theorem zbp {r:Int×Int}:zb7 r=true↔1≤r.1∧1≤r.2∧r.1≤1000000000000∧r.2≤1000000000000:=by
 unfold zb7;simp only[Bool.and_eq_true,decide_eq_true_eq];omega
theorem zno {n g:Int} (hn:1≤n) (hg:0<g) (hd:g∣n):1≤n/g∧n/g≤n:=by
 obtain⟨k,rfl⟩:=hd;rw[Int.mul_ediv_cancel_left _ (by omega)]
 have hk:0<k:=by
  rcases Int.lt_or_le 0 k with h|h
  ·exact h
  ·have:=Int.mul_nonpos_of_nonneg_of_nonpos (Int.le_of_lt hg) h;omega
 refine⟨hk,?_⟩;have:=Int.mul_le_mul_of_nonneg_right (show(1:Int)≤g from hg) (Int.le_of_lt hk);omega
theorem zhx {r:Int×Int} (h:zb7 r=true):zb7 (nrm r)=true:=by
 obtain⟨h1,h2,h3,h4⟩:=zbp.1 h;unfold nrm;rw[if_pos h];have hg:0<Nat.gcd r.1.toNat r.2.toNat:=Nat.gcd_pos_of_pos_left _ (by omega)
 have d1:((Nat.gcd r.1.toNat r.2.toNat:Nat):Int)∣r.1:=by
  have:=Int.natCast_dvd_natCast.2 (Nat.gcd_dvd_left r.1.toNat r.2.toNat);rwa [Int.toNat_of_nonneg (by omega)]at this
 have d2:((Nat.gcd r.1.toNat r.2.toNat:Nat):Int)∣r.2:=by
  have:=Int.natCast_dvd_natCast.2 (Nat.gcd_dvd_right r.1.toNat r.2.toNat);rwa [Int.toNat_of_nonneg (by omega)]at this
 have e1:=zno h1 (by omega) d1;have e2:=zno h2 (by omega) d2;exact zbp.2 ⟨e1.1,e2.1,by simp only;omega,by simp only;omega⟩
theorem zhl {a b:Int×Int} (ha:zb7 a=true) (hb:zb7 b=true):zb7 (a.1,b.2)=true:=by
 have h1:=zbp.1 ha;have h2:=zbp.1 hb;exact zbp.2 ⟨h1.1,h2.2.1,h1.2.2.1,h2.2.2.2⟩
abbrev Rk4:=Int×Int×Int×Int
def rkey (r:Rt6):Rk4:=(r.1,r.2.1,r.2.2.1,r.2.2.2.1)
def zgf (l:List Rt6) (k:Rk4):Option (Int×Int):=l.foldl (fun o r=>if rkey r=k then some r.2.2.2.2 else o) none
theorem zqc (l:List Rt6) (r:Rt6) (k:Rk4):zgf (l++[r]) k=if rkey r=k then some r.2.2.2.2 else zgf l k:=by
 unfold zgf;rw[List.foldl_append];rfl
theorem zkk {l:List Rt6} {j:Nat} (h:j<l.length) (k:Rk4):zgf (l.take (j+1)) k=if rkey l[j]=k then some l[j].2.2.2.2 else zgf (l.take j) k:=by
 rw[List.take_succ_eq_append_getElem h,zqc]
def zha (l:List Rt6) (k:Rk4):Nat→Nat
 |0=>0
 |j+1=>if(l[j]?.map rkey)=some k then j+1 else zha l k j
theorem znp (l:List Rt6) (k:Rk4):∀j,j≤l.length→zha l k j≤j∧(zha l k j=0→zgf (l.take j) k=none)∧(∀i (hi:i<l.length),zha l k j=i+1→zgf (l.take j) k=some l[i].2.2.2.2)
 |0,_=>⟨Nat.le_refl _,fun _=>rfl,fun i hi h=>by cases h⟩
 |j+1,hj=>by
  have ih:=znp l k j (by omega);unfold zha;have hg:l[j]?=some l[j]:=List.getElem?_eq_getElem (by omega);rw[hg,zkk (show j<l.length by omega)];simp only[Option.map_some,Option.some.injEq];by_cases h:rkey l[j]=k
  ·rw[if_pos h,if_pos h];refine⟨Nat.le_refl _,fun h0=>(by cases h0),fun i hi h1=>?_⟩;obtain rfl:j=i:=by omega
   rfl
  ·rw[if_neg h,if_neg h];exact⟨by have:=ih.1;omega,ih.2.1,ih.2.2⟩
def zbl (l:List Rt6) (k:Rk4):(Int×Int)×Bool:=match zgf l k with |some r=>(r,true)|none=>((0,0),false)
def zcy (l:List Rt6) (kd p f t:Int):(Int×Int)×Bool:=
 if(zbl l (f,t,kd,p)).2=true then((zbl l (f,t,kd,p)).1,true)
 else((zg9 (zbl l (t,f,kd,p)).1).1,(zbl l (t,f,kd,p)).2&&decide ((zg9 (zbl l (t,f,kd,p)).1).2=0))
def zr8 (l:List Rt6) (kd p f t:Int):List Int→(Int×Int)×Bool
 |[]=>((0,0),false)
 |c::r=>if(c≠f∧c≠t)∧((zcy l kd p f c).2=true∧(zcy l kd p c t).2=true)∧(zck (zcy l kd p f c).1 (zcy l kd p c t).1).2=0 then((zck (zcy l kd p f c).1 (zcy l kd p c t).1).1,true)else zr8 l kd p f t r
def zcw (l:List Rt6) (f t kd p:Int):(Int×Int)×Bool:=if(zcy l kd p f t).2=true then((zcy l kd p f t).1,true)else zr8 l kd p f t [1,2,3,4,5,6,7,8]
def zee (l:List Rt6) (f t kd p:Int):(Int×Int)×Bool:=if f=t∧1≤f∧f≤8 then((1,1),true)else zcw l f t kd p
def zb6 (l:List Rt6) (kd p f t:Int) (n:Nat):(Int×Int)×Bool:=zr8 l kd p f t ((List.range (8-n)).map fun i=>((n+1+i:Nat):Int))
theorem zi7 (l:List Rt6) (kd p f t:Int):zb6 l kd p f t 8=((0,0),false):=rfl
theorem zhy (l:List Rt6) (kd p f t:Int) {n:Nat} (h:n<8):zb6 l kd p f t n=if(((n:Int)+1)≠f∧((n:Int)+1)≠t)∧((zcy l kd p f ((n:Int)+1)).2=true∧(zcy l kd p ((n:Int)+1) t).2=true)∧(zck (zcy l kd p f ((n:Int)+1)).1 (zcy l kd p ((n:Int)+1) t).1).2=0 then((zck (zcy l kd p f ((n:Int)+1)).1 (zcy l kd p ((n:Int)+1) t).1).1,true)else zb6 l kd p f t (n+1):=by
 unfold zb6
 obtain⟨m,hm⟩:∃m,8-n=m+1:=⟨8-n-1,by omega⟩
 have hm2:8-(n+1)=m:=by omega
 rw[hm,hm2,List.range_succ_eq_map,List.map_cons]
 have e:(List.map Nat.succ (List.range m)).map (fun i=>((n+1+i:Nat):Int))=(List.range m).map fun i=>((n+1+1+i:Nat):Int):=by
  rw[List.map_map];apply List.map_congr_left
  intro i _;simp only[Function.comp];omega
 rw[e];have e2:((n+1+0:Nat):Int)=(n:Int)+1:=by omega
 rw[e2];rfl
def zgg (b:Bks) (x:Int):Int:=if 1≤x∧x≤b.ents.length then(b.ents[(x-1).toNat]?).getD 0 else 0
def zei (b:Bks) (a:Int):Int:=((b.accs[(a-1).toNat]?).map (·.2.1)).getD 0
def zcp (b:Bks) (c:Rt6):Rcp:=
 if c.2.2.1=1 then(if c.2.2.2.2.2≠0 then Rcp.none else{Rcp.none with minus:=((zag b.accs).filter fun a=>decide (a≠1)).map fun a=>(c.1,c.2.1,a,c.2.2.2)})
 else if zgg b c.2.1=c.2.2.2.2.1 then{Rcp.none with plus:=[(2,c.2.1,c.2.2.1,c.2.2.2.1,0,c.2.2.2.2.2)]}
 else{Rcp.none with
  plus:=if zei b c.2.2.1≠1∧0<c.2.2.2.1 then[(c.1,c.2.1,c.2.2.1,c.2.2.2.1-1,c.2.2.2.2.1,c.2.2.2.2.2)]else[]
  scaled:=(if zei b c.2.2.1=1 then 2 else 1,c.2.1,c.2.2.1,c.2.2.2.1,0,c.2.2.2.2.2)
  rated:=true
  ratio:=(zee b.rates (zgg b c.2.1) c.2.2.2.2.1 (zei b c.2.2.1) c.2.2.2.1).1
  has:=(zee b.rates (zgg b c.2.1) c.2.2.2.2.1 (zei b c.2.2.1) c.2.2.2.1).2}
def zd1 (b:Bks) (c:Rt6):Rcp×Int:=if za7 b c 3 3=0 then(zcp b c,0)else(Rcp.none,za7 b c 3 3)
theorem zr9 {a b:Nat} (h:zb7 ((a:Int),(b:Int))=true):nrm ((a:Int),(b:Int))=(((a/Nat.gcd a b:Nat):Int),((b/Nat.gcd a b:Nat):Int)):=by
 unfold nrm;rw[if_pos h];simp
theorem zi8 {a b x y g:Nat} (h:zb7 ((a:Int),(b:Int))=true) (hc:Nat.Coprime x y) (ha:a=x*g) (hb:b=y*g):nrm ((a:Int),(b:Int))=((x:Int),(y:Int)):=by
 rw[zr9 h]
 have hg:0<g:=by
  have:=(zbp.1 h).1;rcases Nat.eq_zero_or_pos g with h0|h0
  ·subst h0;simp at ha;subst ha;simp at this
  ·exact h0
 have e:Nat.gcd a b=g:=by
  rw[ha,hb,Nat.gcd_mul_right];unfold Nat.Coprime at hc;rw[hc,Nat.one_mul]
 rw[e,ha,hb,Nat.mul_div_cancel _ hg,Nat.mul_div_cancel _ hg]
theorem crs_low {a b c d:Nat} (h1:zb7 ((a:Int),(b:Int))=true) (h2:zb7 ((c:Int),(d:Int))=true):
 crs ((a:Int),(b:Int)) ((c:Int),(d:Int))=(((a*c/Nat.gcd (a*c) (b*d):Nat):Int),((b*d/Nat.gcd (a*c) (b*d):Nat):Int)):=by
 obtain⟨a1,b1,hab,ea,eb⟩:=Nat.exists_coprime a b;obtain⟨c1,d1,hcd,ec,ed⟩:=Nat.exists_coprime c d;generalize Nat.gcd a b=g1 at ea eb;generalize Nat.gcd c d=g4 at ec ed;have n1:=zi8 h1 hab ea eb;have n2:=zi8 h2 hcd ec ed;have k1:=zhx h1;have k2:=zhx h2;unfold crs;rw[n1,n2]at *;simp only at *;obtain⟨x1,x2,hx,ex1,ex2⟩:=Nat.exists_coprime a1 d1;obtain⟨y1,y2,hy,ey1,ey2⟩:=Nat.exists_coprime c1 b1;generalize Nat.gcd a1 d1=g2 at ex1 ex2;generalize Nat.gcd c1 b1=g3 at ey1 ey2;have n3:=zi8 (zhl k1 k2) hx ex1 ex2;have n4:=zi8 (zhl k2 k1) hy ey1 ey2;have k3:=zhx (zhl k1 k2);have k4:=zhx (zhl k2 k1);simp only at n3 n4 k3 k4;rw[n3]at k3;rw[n4]at k4;rw[n3,n4];simp only
 have hxy:Nat.Coprime x1 y2:=by
  rw[ex1,ey2]at hab;exact(Nat.Coprime.coprime_mul_right hab).coprime_mul_right_right
 have hyx:Nat.Coprime y1 x2:=by
  rw[ey1,ex2]at hcd;exact(Nat.Coprime.coprime_mul_right hcd).coprime_mul_right_right
 have hall:Nat.Coprime (x1*y1) (x2*y2):=Nat.Coprime.mul_left (hx.mul_right hxy) (hyx.mul_right hy);have hN:a*c=(x1*y1)*(g1*g2*g3*g4):=by rw[ea,ec,ex1,ey1];simp only[Nat.mul_left_comm,Nat.mul_comm]
 have hD:b*d=(x2*y2)*(g1*g2*g3*g4):=by rw[eb,ed,ex2,ey2];simp only[Nat.mul_left_comm,Nat.mul_comm]
 have hK:0<g1*g2*g3*g4:=by
  have ha0:=(zbp.1 h1).1;have hc0:=(zbp.1 h2).1;have hac:0<a*c:=Nat.mul_pos (by simp only at ha0;omega) (by simp only at hc0;omega);rcases Nat.eq_zero_or_pos (g1*g2*g3*g4)with h0|h0
  ·rw[h0,Nat.mul_zero]at hN;omega
  ·exact h0
 have hG:Nat.gcd (a*c) (b*d)=g1*g2*g3*g4:=by
  rw[hN,hD,Nat.gcd_mul_right];unfold Nat.Coprime at hall;rw[hall,Nat.one_mul]
 rw[hG,hN,hD,Nat.mul_div_cancel _ hK,Nat.mul_div_cancel _ hK];simp
def zkv (n d:Nat):(Int×Int)×Bool:=
 if n/Nat.gcd n d≤1000000000000∧d/Nat.gcd n d≤1000000000000 then((((n/Nat.gcd n d:Nat):Int),((d/Nat.gcd n d:Nat):Int)),true)else((0,0),false)
theorem low_nrm {a b:Nat} (h:zb7 ((a:Int),(b:Int))=true):zkv a b=(nrm ((a:Int),(b:Int)),true):=by
 have hb:=zbp.1 h;simp only at hb;have h1:a/Nat.gcd a b≤a:=Nat.div_le_self _ _;have h2:b/Nat.gcd a b≤b:=Nat.div_le_self _ _;unfold zkv;rw[if_pos ⟨by omega,by omega⟩,zr9 h]
theorem zxt {a b c d:Nat} (h1:zb7 ((a:Int),(b:Int))=true) (h2:zb7 ((c:Int),(d:Int))=true):
 zck ((a:Int),(b:Int)) ((c:Int),(d:Int))=if(zkv (a*c) (b*d)).2=true then((zkv (a*c) (b*d)).1,0)else((0,0),10):=by
 unfold zck zkv;rw[if_pos ⟨h1,h2⟩,crs_low h1 h2];simp only;generalize a*c/Nat.gcd (a*c) (b*d)=x;generalize b*d/Nat.gcd (a*c) (b*d)=y;by_cases hxy:x≤1000000000000∧y≤1000000000000
 ·rw[if_pos hxy,if_pos (by omega)];simp
 ·rw[if_neg hxy,if_neg (by omega)];simp
theorem zqd {a b:Int×Int} (h:¬(zb7 a=true∧zb7 b=true)):zck a b=((0,0),11):=by unfold zck;rw[if_neg h]
