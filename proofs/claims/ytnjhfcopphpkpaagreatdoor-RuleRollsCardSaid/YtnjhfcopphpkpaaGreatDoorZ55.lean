/-
  Plain: ratios in lowest terms, rates found in books, recipes of translations. No program in sight.
-/
import Derived.Test.YtnjhfcopphpkpaaGreatDoorZ49
import Derived.Test.YtnjhfcopphpkpaaGreatDoorGc
namespace Go.Gk
open Go.RowKit
def nrm (r:Int×Int):Int×Int:=if ratOK r=true then(r.1/(Nat.gcd r.1.toNat r.2.toNat:Nat),r.2/(Nat.gcd r.1.toNat r.2.toNat:Nat))else(0,0)
def invOf (r:Int×Int):(Int×Int)×Int:=if ratOK r=true then(nrm (r.2,r.1),0)else((0,0),11)
def crs (a b:Int×Int):Int×Int:=((nrm ((nrm a).1,(nrm b).2)).1*(nrm ((nrm b).1,(nrm a).2)).1,(nrm ((nrm a).1,(nrm b).2)).2*(nrm ((nrm b).1,(nrm a).2)).2)
def timesOf (a b:Int×Int):(Int×Int)×Int:=if ratOK a=true∧ratOK b=true then(if(crs a b).1≤1000000000000∧(crs a b).2≤1000000000000 then(crs a b,0)else((0,0),10))else((0,0),11)
theorem ratOK_iff {r:Int×Int}:ratOK r=true↔1≤r.1∧1≤r.2∧r.1≤1000000000000∧r.2≤1000000000000:=by
 unfold ratOK;simp only[Bool.and_eq_true,decide_eq_true_eq];omega
theorem div_pos_le {n g:Int} (hn:1≤n) (hg:0<g) (hd:g∣n):1≤n/g∧n/g≤n:=by
 obtain⟨k,rfl⟩:=hd;rw[Int.mul_ediv_cancel_left _ (by omega)]
 have hk:0<k:=by
  rcases Int.lt_or_le 0 k with h|h
  ·exact h
  ·have:=Int.mul_nonpos_of_nonneg_of_nonpos (Int.le_of_lt hg) h;omega
 refine⟨hk,?_⟩;have:=Int.mul_le_mul_of_nonneg_right (show(1:Int)≤g from hg) (Int.le_of_lt hk);omega
theorem nrm_ok {r:Int×Int} (h:ratOK r=true):ratOK (nrm r)=true:=by
 obtain⟨h1,h2,h3,h4⟩:=ratOK_iff.1 h;unfold nrm;rw[if_pos h];have hg:0<Nat.gcd r.1.toNat r.2.toNat:=Nat.gcd_pos_of_pos_left _ (by omega)
 have d1:((Nat.gcd r.1.toNat r.2.toNat:Nat):Int)∣r.1:=by
  have:=Int.natCast_dvd_natCast.2 (Nat.gcd_dvd_left r.1.toNat r.2.toNat);rwa [Int.toNat_of_nonneg (by omega)]at this
 have d2:((Nat.gcd r.1.toNat r.2.toNat:Nat):Int)∣r.2:=by
  have:=Int.natCast_dvd_natCast.2 (Nat.gcd_dvd_right r.1.toNat r.2.toNat);rwa [Int.toNat_of_nonneg (by omega)]at this
 have e1:=div_pos_le h1 (by omega) d1;have e2:=div_pos_le h2 (by omega) d2;exact ratOK_iff.2 ⟨e1.1,e2.1,by simp only;omega,by simp only;omega⟩
theorem ratOK_mk {a b:Int×Int} (ha:ratOK a=true) (hb:ratOK b=true):ratOK (a.1,b.2)=true:=by
 have h1:=ratOK_iff.1 ha;have h2:=ratOK_iff.1 hb;exact ratOK_iff.2 ⟨h1.1,h2.2.1,h1.2.2.1,h2.2.2.2⟩
abbrev Rk4:=Int×Int×Int×Int
def rkey (r:Rt6):Rk4:=(r.1,r.2.1,r.2.2.1,r.2.2.2.1)
def lastRat (l:List Rt6) (k:Rk4):Option (Int×Int):=l.foldl (fun o r=>if rkey r=k then some r.2.2.2.2 else o) none
theorem lastRat_snoc (l:List Rt6) (r:Rt6) (k:Rk4):lastRat (l++[r]) k=if rkey r=k then some r.2.2.2.2 else lastRat l k:=by
 unfold lastRat;rw[List.foldl_append];rfl
theorem lastRat_take {l:List Rt6} {j:Nat} (h:j<l.length) (k:Rk4):lastRat (l.take (j+1)) k=if rkey l[j]=k then some l[j].2.2.2.2 else lastRat (l.take j) k:=by
 rw[List.take_succ_eq_append_getElem h,lastRat_snoc]
def lastAt (l:List Rt6) (k:Rk4):Nat→Nat
 |0=>0
 |j+1=>if(l[j]?.map rkey)=some k then j+1 else lastAt l k j
theorem lastAt_rat (l:List Rt6) (k:Rk4):∀j,j≤l.length→lastAt l k j≤j∧(lastAt l k j=0→lastRat (l.take j) k=none)∧(∀i (hi:i<l.length),lastAt l k j=i+1→lastRat (l.take j) k=some l[i].2.2.2.2)
 |0,_=>⟨Nat.le_refl _,fun _=>rfl,fun i hi h=>by cases h⟩
 |j+1,hj=>by
  have ih:=lastAt_rat l k j (by omega);unfold lastAt;have hg:l[j]?=some l[j]:=List.getElem?_eq_getElem (by omega);rw[hg,lastRat_take (show j<l.length by omega)];simp only[Option.map_some,Option.some.injEq];by_cases h:rkey l[j]=k
  ·rw[if_pos h,if_pos h];refine⟨Nat.le_refl _,fun h0=>(by cases h0),fun i hi h1=>?_⟩;obtain rfl:j=i:=by omega
   rfl
  ·rw[if_neg h,if_neg h];exact⟨by have:=ih.1;omega,ih.2.1,ih.2.2⟩
def findOf (l:List Rt6) (k:Rk4):(Int×Int)×Bool:=match lastRat l k with |some r=>(r,true)|none=>((0,0),false)
def legOf (l:List Rt6) (kd p f t:Int):(Int×Int)×Bool:=
 if(findOf l (f,t,kd,p)).2=true then((findOf l (f,t,kd,p)).1,true)
 else((invOf (findOf l (t,f,kd,p)).1).1,(findOf l (t,f,kd,p)).2&&decide ((invOf (findOf l (t,f,kd,p)).1).2=0))
def thirdOf (l:List Rt6) (kd p f t:Int):List Int→(Int×Int)×Bool
 |[]=>((0,0),false)
 |c::r=>if(c≠f∧c≠t)∧((legOf l kd p f c).2=true∧(legOf l kd p c t).2=true)∧(timesOf (legOf l kd p f c).1 (legOf l kd p c t).1).2=0 then((timesOf (legOf l kd p f c).1 (legOf l kd p c t).1).1,true)else thirdOf l kd p f t r
def crossOf (l:List Rt6) (f t kd p:Int):(Int×Int)×Bool:=if(legOf l kd p f t).2=true then((legOf l kd p f t).1,true)else thirdOf l kd p f t [1,2,3,4,5,6,7,8]
def rateOf (l:List Rt6) (f t kd p:Int):(Int×Int)×Bool:=if f=t∧1≤f∧f≤8 then((1,1),true)else crossOf l f t kd p
def thirdFrom (l:List Rt6) (kd p f t:Int) (n:Nat):(Int×Int)×Bool:=thirdOf l kd p f t ((List.range (8-n)).map fun i=>((n+1+i:Nat):Int))
theorem thirdFrom_end (l:List Rt6) (kd p f t:Int):thirdFrom l kd p f t 8=((0,0),false):=rfl
theorem thirdFrom_step (l:List Rt6) (kd p f t:Int) {n:Nat} (h:n<8):thirdFrom l kd p f t n=if(((n:Int)+1)≠f∧((n:Int)+1)≠t)∧((legOf l kd p f ((n:Int)+1)).2=true∧(legOf l kd p ((n:Int)+1) t).2=true)∧(timesOf (legOf l kd p f ((n:Int)+1)).1 (legOf l kd p ((n:Int)+1) t).1).2=0 then((timesOf (legOf l kd p f ((n:Int)+1)).1 (legOf l kd p ((n:Int)+1) t).1).1,true)else thirdFrom l kd p f t (n+1):=by
 unfold thirdFrom
 obtain⟨m,hm⟩:∃m,8-n=m+1:=⟨8-n-1,by omega⟩
 have hm2:8-(n+1)=m:=by omega
 rw[hm,hm2,List.range_succ_eq_map,List.map_cons]
 have e:(List.map Nat.succ (List.range m)).map (fun i=>((n+1+i:Nat):Int))=(List.range m).map fun i=>((n+1+1+i:Nat):Int):=by
  rw[List.map_map];apply List.map_congr_left
  intro i _;simp only[Function.comp];omega
 rw[e];have e2:((n+1+0:Nat):Int)=(n:Int)+1:=by omega
 rw[e2];rfl
def curOf (b:Bks) (x:Int):Int:=if 1≤x∧x≤b.ents.length then(b.ents[(x-1).toNat]?).getD 0 else 0
def kindOf (b:Bks) (a:Int):Int:=((b.accs[(a-1).toNat]?).map (·.2.1)).getD 0
def transRcp (b:Bks) (c:Rt6):Rcp:=
 if c.2.2.1=1 then(if c.2.2.2.2.2≠0 then Rcp.none else{Rcp.none with minus:=((accLeaves b.accs).filter fun a=>decide (a≠1)).map fun a=>(c.1,c.2.1,a,c.2.2.2)})
 else if curOf b c.2.1=c.2.2.2.2.1 then{Rcp.none with plus:=[(2,c.2.1,c.2.2.1,c.2.2.2.1,0,c.2.2.2.2.2)]}
 else{Rcp.none with
  plus:=if kindOf b c.2.2.1≠1∧0<c.2.2.2.1 then[(c.1,c.2.1,c.2.2.1,c.2.2.2.1-1,c.2.2.2.2.1,c.2.2.2.2.2)]else[]
  scaled:=(if kindOf b c.2.2.1=1 then 2 else 1,c.2.1,c.2.2.1,c.2.2.2.1,0,c.2.2.2.2.2)
  rated:=true
  ratio:=(rateOf b.rates (curOf b c.2.1) c.2.2.2.2.1 (kindOf b c.2.2.1) c.2.2.2.1).1
  has:=(rateOf b.rates (curOf b c.2.1) c.2.2.2.2.1 (kindOf b c.2.2.1) c.2.2.2.1).2}
def transOf (b:Bks) (c:Rt6):Rcp×Int:=if mayOf b c 3 3=0 then(transRcp b c,0)else(Rcp.none,mayOf b c 3 3)
theorem nrm_nat {a b:Nat} (h:ratOK ((a:Int),(b:Int))=true):nrm ((a:Int),(b:Int))=(((a/Nat.gcd a b:Nat):Int),((b/Nat.gcd a b:Nat):Int)):=by
 unfold nrm;rw[if_pos h];simp
