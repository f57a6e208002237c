/-
  The document's whole numbers, digit by digit: fewer, digits.
-/
import Derived.Test.YtoegobjnjljegaaGreatDoorZ4
set_option maxRecDepth 100000
set_option maxHeartbeats 3200000
namespace Go.Proofs.YtoegobjnjljegaaGreatDoor
open Go.RowKit Go.Gk
theorem zgo {B:Nat→Prop} {w:World} {va vb:Value} {la lb:List Nat} (ha:zfc B w va la) (hb:zfc B w vb lb) (da:Digs la) (db:Digs lb) (na:la.length≤100000) (hlen:lb.length≤la.length) (hle:zbe lb≤zbe la) (hB:∀g,w.heap.size≤g→B g):
 Calls Tryz.prog 86 #[va,vb] w fun e w'=>∃v',e=.returned v'∧zfc B w' v' (dg (zbe la-zbe lb))∧Tf w w':=by
 obtain⟨Aa,ca,rfl,hca1,hca2⟩:=ha.form;obtain⟨Ab,cb,rfl,hcb1,hcb2⟩:=hb.form;have HLE:=Hid.out (p:=Hid _) hle;clear hle;go_enter Tryz.func86,Tryz.ntmps86;go_wp2;go_loopw [5,6,7] (fun out borrow i wr=>∃(j c:Nat) (ol:List Nat),i=.int .i64 j∧borrow=.int .i64 c∧j≤la.length∧Fewer la lb ol j c∧wr.ownsRow w.heap.size 3 1 out ol.length (ol.flatMap zq3)∧Tf w wr) (fun _ _ i _=>la.length-(intOf i).toNat)
 case atStart=>exact⟨0,0,[],rfl,rfl,Nat.zero_le _,Fewer.start _ _,World.ownsRow_nil _ _ _ _,Tch.refl _ _⟩
 case round=>
  obtain⟨j,c,ol,rfl,rfl,hj,hM,ho,ht⟩:=hrel;have hc:=hM.small;have hol:=hM.len;obtain⟨O,co,rfl,_,_,_⟩:=zac ho;have hon:∀g,(Value.slice O ol.length co).ownBlock=some g→w.heap.size≤g:=fun g e=>(ho.lt g e).1
  have HM:=Hid.out (p:=Hid _) hM;have hol1:ol.length≤200000:=by omega
  clear hM hol;by_cases hja:j<la.length
  ·have ga:=zjg da j;have gb:=zjg db j;obtain⟨gA,oA,rfl⟩:=ha.head (by omega);have qa:=zjf (ha.keep ht) hja;have hja':(j:Int)<(la.length:Int):=by omega
   have hst:=fun d b' h1 h2 h3=>(HM.out).step (d:=d) (borrow':=b') h1 h2 h3
   by_cases hjb:j<lb.length
   ·obtain⟨gB,oB,rfl⟩:=hb.head (by omega);have qb:=zjf (hb.keep ht) hjb;have hjb':(j:Int)<(lb.length:Int):=by omega
    generalize la.getD j 0=x at *;generalize lb.getD j 0=y at *;by_cases hneg:x<c+y
    ·have hn':(x:Int)-(c:Int)-(y:Int)<0:=by omega
     have hst:=hst (x+10-c-y) 1 (by omega) (by omega) (by omega);have hu:(x:Int)-(c:Int)-(y:Int)+10=(((x+10-c-y):Nat):Int):=by omega
     have HU:=Hid.out (p:=Hid _) hu;have HST:=Hid.out (p:=Hid _) hst;have hj0:=znn j;have hx0:=znn x;have hy0:=znn y;have hc0:=znn c;have hc1:(c:Int)≤1:=by omega
     have hx1:(x:Int)<10:=by omega
     have hy1:(y:Int)<10:=by omega
     clear hst hu hja hjb hneg;(try clear g0);go_wp2_with (at_builtin;refine apd zaj (ho.alloc _) (Go.Gk.Src.one (news:=[iV ((x:Int)-(c:Int)-(y:Int)+10)]) rfl (fun m u hu=>by rw[(Blk.new wr 3 #[iV ((x:Int)-(c:Int)-(y:Int)+10)]).cell m];simpa using hu)) (by simp;rfl) ?_;intro v2 w2 ho2 hg2 hl2;obtain⟨O2,co2,rfl,_,_,_⟩:=zac ho2);have hb2:∀g,(Value.slice O2 (ol.length+1) co2).ownBlock=some g→w.heap.size≤g:=fun g e=>(hl2 g e).elim (hon g) (fun h=>by have:=ht.size;simp at h;omega)
     have t2:=ht.trans' ((Tch.alloc (fun k=>w.heap.size≤k) wr _).trans (Tch.grown hg2 (fun k e=>.inl (hon k e)))) (fun k hk=>.inr hk);go_roundw
     case rel=>exact⟨j+1,1,_,by go_num,rfl,by omega,HST.out,zbk (zb0 ho2 HU.out) hb2,t2⟩
     case measure=>simp[intOf];omega
    ·have hn':¬(x:Int)-(c:Int)-(y:Int)<0:=by omega
     have hst:=hst (x-c-y) 0 (by omega) (by omega) (by omega);have hu:(x:Int)-(c:Int)-(y:Int)=(((x-c-y):Nat):Int):=by omega
     have HU:=Hid.out (p:=Hid _) hu;have HST:=Hid.out (p:=Hid _) hst;have hj0:=znn j;have hx0:=znn x;have hy0:=znn y;have hc0:=znn c;have hc1:(c:Int)≤1:=by omega
     have hx1:(x:Int)<10:=by omega
     have hy1:(y:Int)<10:=by omega
     clear hst hu hja hjb hneg;(try clear g0);go_wp2_with (at_builtin;refine apd zaj (ho.alloc _) (Go.Gk.Src.one (news:=[iV ((x:Int)-(c:Int)-(y:Int))]) rfl (fun m u hu=>by rw[(Blk.new wr 3 #[iV ((x:Int)-(c:Int)-(y:Int))]).cell m];simpa using hu)) (by simp;rfl) ?_;intro v2 w2 ho2 hg2 hl2;obtain⟨O2,co2,rfl,_,_,_⟩:=zac ho2);have hb2:∀g,(Value.slice O2 (ol.length+1) co2).ownBlock=some g→w.heap.size≤g:=fun g e=>(hl2 g e).elim (hon g) (fun h=>by have:=ht.size;simp at h;omega)
     have t2:=ht.trans' ((Tch.alloc (fun k=>w.heap.size≤k) wr _).trans (Tch.grown hg2 (fun k e=>.inl (hon k e)))) (fun k hk=>.inr hk);go_roundw
     case rel=>exact⟨j+1,0,_,by go_num,rfl,by omega,HST.out,zbk (zb0 ho2 HU.out) hb2,t2⟩
     case measure=>simp[intOf];omega
   ·have hjb':¬(j:Int)<(lb.length:Int):=by omega
    have hjb'':decide (j<lb.length)=false:=by simpa using hjb
    have g0:=zim hjb;generalize la.getD j 0=x at *;generalize lb.getD j 0=y at *;by_cases hneg:x<c
    ·have hn':(x:Int)-(c:Int)<0:=by omega
     have hst:=hst (x+10-c) 1 (by omega) (by omega) (by omega);have hu:(x:Int)-(c:Int)+10=(((x+10-c):Nat):Int):=by omega
     have HU:=Hid.out (p:=Hid _) hu;have HST:=Hid.out (p:=Hid _) hst;have hj0:=znn j;have hx0:=znn x;have hy0:=znn y;have hc0:=znn c;have hc1:(c:Int)≤1:=by omega
     have hx1:(x:Int)<10:=by omega
     have hy1:(y:Int)<10:=by omega
     clear hst hu hja hjb hneg;(try clear g0);go_wp2_with (at_builtin;refine apd zaj (ho.alloc _) (Go.Gk.Src.one (news:=[iV ((x:Int)-(c:Int)+10)]) rfl (fun m u hu=>by rw[(Blk.new wr 3 #[iV ((x:Int)-(c:Int)+10)]).cell m];simpa using hu)) (by simp;rfl) ?_;intro v2 w2 ho2 hg2 hl2;obtain⟨O2,co2,rfl,_,_,_⟩:=zac ho2);have hb2:∀g,(Value.slice O2 (ol.length+1) co2).ownBlock=some g→w.heap.size≤g:=fun g e=>(hl2 g e).elim (hon g) (fun h=>by have:=ht.size;simp at h;omega)
     have t2:=ht.trans' ((Tch.alloc (fun k=>w.heap.size≤k) wr _).trans (Tch.grown hg2 (fun k e=>.inl (hon k e)))) (fun k hk=>.inr hk);go_roundw
     case rel=>exact⟨j+1,1,_,by go_num,rfl,by omega,HST.out,zbk (zb0 ho2 HU.out) hb2,t2⟩
     case measure=>simp[intOf];omega
    ·have hn':¬(x:Int)-(c:Int)<0:=by omega
     have hst:=hst (x-c) 0 (by omega) (by omega) (by omega);have hu:(x:Int)-(c:Int)=(((x-c):Nat):Int):=by omega
     have HU:=Hid.out (p:=Hid _) hu;have HST:=Hid.out (p:=Hid _) hst;have hj0:=znn j;have hx0:=znn x;have hy0:=znn y;have hc0:=znn c;have hc1:(c:Int)≤1:=by omega
     have hx1:(x:Int)<10:=by omega
     have hy1:(y:Int)<10:=by omega
     clear hst hu hja hjb hneg;(try clear g0);go_wp2_with (at_builtin;refine apd zaj (ho.alloc _) (Go.Gk.Src.one (news:=[iV ((x:Int)-(c:Int))]) rfl (fun m u hu=>by rw[(Blk.new wr 3 #[iV ((x:Int)-(c:Int))]).cell m];simpa using hu)) (by simp;rfl) ?_;intro v2 w2 ho2 hg2 hl2;obtain⟨O2,co2,rfl,_,_,_⟩:=zac ho2);have hb2:∀g,(Value.slice O2 (ol.length+1) co2).ownBlock=some g→w.heap.size≤g:=fun g e=>(hl2 g e).elim (hon g) (fun h=>by have:=ht.size;simp at h;omega)
     have t2:=ht.trans' ((Tch.alloc (fun k=>w.heap.size≤k) wr _).trans (Tch.grown hg2 (fun k e=>.inl (hon k e)))) (fun k hk=>.inr hk);go_roundw
     case rel=>exact⟨j+1,0,_,by go_num,rfl,by omega,HST.out,zbk (zb0 ho2 HU.out) hb2,t2⟩
     case measure=>simp[intOf];omega
  ·obtain rfl:la.length=j:=by omega
   have hv:=(HM.out).stop HLE.out hlen;have hr:=Row.own (P:=B) ho (fun g e=>hB g (hon g e));have hT:=zil hr (HM.out).digs (by omega);rw[hv]at hT;clear hja hv;go_wp2_with fail;refine hT.mono ?_;rintro e w2 ⟨v',rfl,hd,rfl⟩;go_wp2;go_ret;exact⟨_,rfl,hd,ht⟩
theorem zfs {B B':Nat→Prop} {w:World} {va vb:Value} {m n:Nat} (ha:zfc B w va (dg m)) (hb:zfc B' w vb (dg n)):
 Calls Tryz.prog 85 #[va,vb] w fun e w'=>e=.returned (iV (if m<n then -1 else if n<m then 1 else 0))∧Tf w w':=by
 obtain⟨Aa,ca,rfl,hca1,hca2⟩:=ha.form;obtain⟨Ab,cb,rfl,hcb1,hcb2⟩:=hb.form;have h1:=fun h=>zey (a:=m) (b:=n) h
 have h2:=fun h=>zey (a:=n) (b:=m) h
 have hcmp:=fun hl i hi hs hlt=>zs9 (a:=dg m) (b:=dg n) (zbh m) (zbh n) hl (i:=i) hi hs hlt
 have hcmp':=fun hl i hi hs hlt=>zs9 (a:=dg n) (b:=dg m) (zbh n) (zbh m) hl (i:=i) hi hs hlt
 have hinj:=fun hl hs=>dval_inj (a:=dg m) (b:=dg n) hl hs
 have vm:=za0 m;have vn:=za0 n;rw[vm,vn]at hcmp hcmp';generalize dg m=la at *;generalize dg n=lb at *;by_cases hlt:la.length<lb.length
 ·have hr:=h1 hlt;rw[if_pos hr];have t1:((la.length:Int)==(lb.length:Int))=false:=by simp;omega
  have t1':((la.length:Int) !=(lb.length:Int))=true:=by simp;omega
  have t2:(la.length:Int)<(lb.length:Int):=by omega
  clear h1 h2 hcmp hcmp' hinj vm vn hr;go_enter Tryz.func85,Tryz.ntmps85;go_wp2;go_ret;exact⟨rfl,Tch.refl _ _⟩
 by_cases hgt:lb.length<la.length
 ·have hr:=h2 hgt;rw[if_neg (by omega),if_pos hr];have t1':((la.length:Int) !=(lb.length:Int))=true:=by simp;omega
  have t2:¬(la.length:Int)<(lb.length:Int):=by omega
  clear h1 h2 hcmp hcmp' hinj vm vn hr;go_enter Tryz.func85,Tryz.ntmps85;go_wp2;go_ret;exact⟨rfl,Tch.refl _ _⟩
 have hl:la.length=lb.length:=by omega
 have t1':((la.length:Int) !=(lb.length:Int))=false:=by simp;omega
 have HL:=Hid.out (p:=Hid _) hl;have hle1:la.length≤lb.length:=by omega
 have hc:la.length≤9223372036854775807:=by omega
 have HC:=Hid.out (p:=Hid _) hcmp;have HC':=Hid.out (p:=Hid _) hcmp';have HI:=Hid.out (p:=Hid _) hinj;have VM:=Hid.out (p:=Hid _) vm;have VN:=Hid.out (p:=Hid _) vn;clear hl h1 h2 hcmp hcmp' hinj vm vn hlt hgt;generalize hres:(if m<n then(-1:Int)else if n<m then 1 else 0)=res;have HR:=Hid.out (p:=Hid _) hres;clear hres;go_enter Tryz.func85,Tryz.ntmps85;go_wp2;go_loopw [5] (fun i wr=>∃k:Nat,k≤la.length∧i=.int .i64 ((k:Int)-1)∧(∀j,k≤j→j<la.length→la.getD j 0=lb.getD j 0)∧Tf w wr) (fun i _=>(intOf i+1).toNat)
 case atStart=>exact⟨la.length,Nat.le_refl _,rfl,fun j h1 h2=>absurd h2 (by omega),Tch.refl _ _⟩
 case round=>
  obtain⟨k,hk,rfl,hs,ht⟩:=hrel;have HS:=Hid.out (p:=Hid _) hs;clear hs;by_cases hk0:k=0
  ·subst hk0;have he:=HI.out HL.out (fun j hj=>HS.out j (Nat.zero_le _) hj);have hmn:m=n:=by rw[←VM.out,←VN.out,he]
   have hr0:res=0:=by rw[←HR.out,if_neg (by omega),if_neg (by omega)]
   subst hr0;clear he hmn;go_wp2;go_ret;exact⟨rfl,ht⟩
  ·obtain⟨k,rfl⟩:∃j,k=j+1:=⟨k-1,by omega⟩
   obtain⟨gA,oA,rfl⟩:=ha.head (by omega);obtain⟨gB,oB,rfl⟩:=hb.head (by omega);have qa:=zjf (ha.keep ht) (i:=k) (by omega);have qb:=zjf (hb.keep ht) (i:=k) (by omega);have k0:=znn k;have k1:(k:Int)<(la.length:Int):=by omega
   have k2:(k:Int)<(lb.length:Int):=by omega
   have hcm:=fun h=>HC.out HL.out k (by omega) (fun j h1 h2=>HS.out j (by omega) h2) h
   have hcm':=fun h=>HC'.out HL.out.symm k (by omega) (fun j h1 h2=>(HS.out j (by omega) (by have:=HL.out;omega)).symm) h
   have hst:la.getD k 0=lb.getD k 0→∀j,k≤j→j<la.length→la.getD j 0=lb.getD j 0:=fun e j h1 h2=>by
    by_cases ee:j=k
    ·subst ee;exact e
    ·exact HS.out j (by omega) h2
   generalize la.getD k 0=x at *;generalize lb.getD k 0=y at *;clear hk0;have HCM:=Hid.out (p:=Hid _) hcm;have HCM':=Hid.out (p:=Hid _) hcm';have HST:=Hid.out (p:=Hid _) hst;clear hcm hcm' hst;by_cases hxy:x<y
   ·have hr1:res= -1:=by rw[←HR.out,if_pos (HCM.out hxy)]
    subst hr1;have t2:(x:Int)<(y:Int):=by omega
    clear hxy;go_wp2_with fail;go_quiet (fail)
    go_wp2;(try rw[Exit.noGoto_ret]);go_ret;exact⟨rfl,ht.trans (Tch.drewN _ _ _)⟩
   ·by_cases hyx:y<x
    ·have hr1:res=1:=by have:=HCM'.out hyx;rw[←HR.out,if_neg (by omega),if_pos this]
     subst hr1;have t2:¬(x:Int)<(y:Int):=by omega
     have t3:(y:Int)<(x:Int):=by omega
     clear hxy hyx;go_wp2_with fail;go_quiet (fail)
     rename_i nq
     have t4:Tf wr (wr.drewN nq):=Tch.drewN _ _ _;have qa:=t4.cell_some qa id;have qb:=t4.cell_some qb id;have ht:=ht.trans t4;generalize wr.drewN nq=w4 at *;go_wp2_with fail;go_quiet (fail)
     go_wp2;(try rw[Exit.noGoto_ret]);go_ret;exact⟨rfl,ht.trans (Tch.drewN _ _ _)⟩
    ·obtain rfl:x=y:=by omega
     have hsn:=HST.out rfl;have HSN:=Hid.out (p:=Hid _) hsn;clear hxy hyx hsn;go_wp2_with fail;go_quiet (fail)
     rename_i nq
     have t4:Tf wr (wr.drewN nq):=Tch.drewN _ _ _;have qa:=t4.cell_some qa id;have qb:=t4.cell_some qb id;have ht:=ht.trans t4;generalize wr.drewN nq=w4 at *;go_wp2_with fail;go_quiet (fail)
     go_wp2;go_roundw
     case rel=>exact⟨k,by omega,by go_num,HSN.out,ht.trans (Tch.drewN _ _ _)⟩
     case measure=>simp[intOf]
open Go.RowKit Go.Gk
def BigIs (B:Nat→Prop) (w:World) (v:Value) (x:Int):Prop:=∃dv,v=.agg #[.bool (decide (x<0)),dv]∧zfc B w dv (dg x.natAbs)
theorem BigIs.keep {B:Nat→Prop} {w w':World} {v:Value} {x:Int} (h:BigIs B w v x) (t:Tf w w'):BigIs B w' v x:=let⟨dv,e,h⟩:=h;⟨dv,e,h.keep t⟩
theorem tmod_neg (m:Nat):(-(m:Int)).tmod 10= -((m%10:Nat):Int):=by rw[Int.neg_tmod];rfl
theorem tdiv_neg (m:Nat):(-(m:Int)).tdiv 10= -((m/10:Nat):Int):=by rw[Int.neg_tdiv];rfl
theorem zkx {n:Nat} (h:n<2^64):(dg n).length≤64:=by
 have key:∀(k m:Nat),m<2^k→(dg m).length≤k:=fun k=>by
  induction k with
  |zero=>
   intro m hm;have e:m=0:=by simpa using hm
   rw[e,zcj];exact Nat.le_refl _
  |succ k ih=>
   intro m hm;rcases Nat.eq_zero_or_pos m with e|e
   ·subst e;rw[zcj];exact Nat.zero_le _
   ·rw[zht e,List.length_cons];have:=ih (m/10) (by rw[Nat.pow_succ]at hm;omega);omega
 exact key 64 n h
theorem of_pos {B:Nat→Prop} {w:World} {n:Nat} (hn:(n:Int)≤9223372036854775807) (hB:∀g,w.heap.size≤g→B g):
 Calls Tryz.prog 32 #[iV ((n:Int))] w fun e w'=>∃v',e=.returned v'∧BigIs B w' v' ((n:Int))∧Tf w w':=by
 have hz:=Blk.new w 83 #[.bool false,.slice none 0 0];have hb:=Blk.new2 w (.cells #[.bool false,.slice none 0 0] 83) 83 #[.bool false,.slice none 0 0];have hz:=hz.alloc (.cells #[.bool false,.slice none 0 0] 83);have tw:Tf w _:=(tal w (.cells #[.bool false,.slice none 0 0] 83)).trans (Tch.alloc _ _ (.cells #[.bool false,.slice none 0 0] 83));have hsz:w.heap.size+2≤((w.alloc (.cells #[.bool false,.slice none 0 0] 83)).alloc (.cells #[.bool false,.slice none 0 0] 83)).heap.size:=by simp
 have hsd:decide (((n:Int):Int)<0)=false:=by simp
 have hna:((n:Int):Int).natAbs=n:=by omega
 unfold BigIs;rw[hsd,hna];have HNA:=Hid.out (p:=Hid _) hna;clear hna;have hn0:¬(n:Int)<0:=by omega
 go_enter Tryz.func32,Tryz.ntmps32;go_wp2_with fail;generalize((w.alloc (.cells #[.bool false,.slice none 0 0] 83)).alloc (.cells #[.bool false,.slice none 0 0] 83))=W at *;generalize hzz:w.heap.size=z at *;have HZ:=Hid.out (p:=Hid (w.heap.size=z)) hzz;clear hzz hn0 hsd;go_loopw [4] (fun x wr=>∃(m:Nat) (ol:List Nat) (ov:Value),x=.int .i64 ((m:Int))∧m≤n∧ol++dg m=dg n∧Blk wr z 83 #[.bool false,.slice none 0 0]∧Blk wr (z+1) 83 #[.bool false,ov]∧wr.ownsRow (z+2) 3 1 ov ol.length (ol.flatMap zq3)∧Tf w wr) (fun x _=>(intOf x).natAbs)
 case atStart=>exact⟨n,[],_,rfl,Nat.le_refl _,rfl,hz,hb,World.ownsRow_nil _ _ _ _,tw⟩
 case round=>
  obtain⟨m,ol,ov,rfl,hmn,hdg,h1,h2,ho,ht⟩:=hrel;have hW:=h2.lt;clear hz hb tw hsz;obtain⟨O,co,rfl,_,_,_⟩:=zac ho;have hon:∀g,(Value.slice O ol.length co).ownBlock=some g→z+2≤g:=fun g e=>(ho.lt g e).1
  have q1:=h2.at1;have q0:=h2.at0
  have hlen:ol.length≤64:=by
   have e:=congrArg List.length hdg;rw[List.length_append]at e;have:=zkx (show n<2^64 from by omega);omega
  by_cases hm:m=0
  ·subst hm;rw[zcj,List.append_nil]at hdg;have r0:=h1.frozen 0;have r1:=h1.frozen 1;obtain⟨r2,r3⟩:=h1.f2;have HDG:=Hid.out (p:=Hid _) hdg;clear hdg hmn;go_wp2;have hbF:=(h1.set_ 0 (.bool false)).set_ 1 (.slice O ol.length co);simp only[List.setIfInBounds_toArray,List.set_cons_succ,List.set_cons_zero]at hbF;(try simp only[exS]);refine zfe hbF ?_;have t2:Tch (fun g=>g=z) wr ((wr.setCell ⟨z,0,none⟩ (.bool false)).setCell ⟨z,1,none⟩ (.slice O ol.length co)):=(Tch.setCell (F:=fun g=>g=z) wr (p:=⟨z,0,none⟩) (.inl rfl) _).trans (Tch.setCell (F:=fun g=>g=z) _ (p:=⟨z,1,none⟩) (.inl rfl) _);have ho2:=t2.own ho (fun g e e2=>by have:=hon g e;omega);exact⟨_,rfl,⟨_,rfl,by rw[←HDG.out];exact Row.own ho2 (fun g e=>hB g (by have:=hon g e;omega))⟩,ht.trans' t2 (fun g e=>.inr (by rw[HZ.out];omega))⟩
  ·have hmp:0<m:=Nat.pos_of_ne_zero hm;rw[zht hmp]at hdg;have hdg':(ol++[m%10])++dg (m/10)=dg n:=by rw[←hdg];simp
   have HDG:=Hid.out (p:=Hid _) hdg';have HM10:m/10<m:=by omega
   have r1:=h2.frozen 1;clear hdg hdg';have hd:(m:Int)%10=((m%10:Nat):Int):=by omega
   have hq:(m:Int)/10=((m/10:Nat):Int):=by omega
   have hmne:((m:Int) !=0)=true:=by simp;omega
   have hd0:¬(m:Int)%10<0:=by omega
   have hm1:(0:Int)≤(m:Int):=by omega
   have HD:=Hid.out (p:=Hid _) hd;have HQ:=Hid.out (p:=Hid _) hq;clear hd hq hm;go_wp2_with (at_builtin;refine apd zaj (ho.alloc _) (Go.Gk.Src.one (news:=[iV ((m:Int)%10)]) rfl (fun k u hu=>by rw[(Blk.new wr 3 #[iV ((m:Int)%10)]).cell k];simpa using hu)) (by simp;rfl) ?_;intro v2 w2 ho2 hg2 hl2;obtain⟨O2,co2,rfl,_,_,_⟩:=zac ho2;have c9:w2.cell? ⟨z+1,1,none⟩=some (.slice O ol.length co):=(h2.keep ((Tch.alloc (fun k=>z+2≤k) wr _).trans (Tch.grown hg2 (fun k e=>.inl (hon k e)))) (by show¬z+2≤z+1;omega)).cell 1;have f9:=(h2.keep ((Tch.alloc (fun k=>z+2≤k) wr _).trans (Tch.grown hg2 (fun k e=>.inl (hon k e)))) (by show¬z+2≤z+1;omega)).frozen 1);have hb2:∀g,(Value.slice O2 (ol.length+1) co2).ownBlock=some g→z+2≤g:=fun g e=>(hl2 g e).elim (hon g) (fun h=>by simp at h;omega)
   have tg:Tch (fun k=>z+2≤k) wr w2:=(Tch.alloc (fun k=>z+2≤k) wr _).trans (Tch.grown hg2 (fun k e=>.inl (hon k e)));have h1':=h1.keep tg (by show¬z+2≤z;omega);have h2':=h2.keep tg (by show¬z+2≤z+1;omega);have c1:=h2'.cell 1;have f1:=h2'.frozen 1;go_wp2;have ts:Tch (fun g=>g=z+1) w2 (w2.setCell ⟨z+1,1,none⟩ (.slice O2 (ol.length+1) co2)):=Tch.setCell (F:=fun g=>g=z+1) w2 (p:=⟨z+1,1,none⟩) (.inl rfl) _;have h2s:=h2'.set_ 1 (.slice O2 (ol.length+1) co2);simp only[List.setIfInBounds_toArray,List.set_cons_succ,List.set_cons_zero]at h2s;have ho3:=ts.own (zbk (zb0 (d:=m%10) ho2 HD.out) hb2) (fun g e e2=>by have:=hb2 g (by simpa using e);omega);go_roundw
   case rel=>exact⟨m/10,ol++[m%10],_,by rw[HQ.out],by omega,HDG.out,h1'.keep ts (fun e=>by omega),by simpa using h2s,by simpa using ho3,(ht.trans' tg (fun k hk=>.inr (by rw[HZ.out];omega))).trans' ts (fun k hk=>.inr (by rw[HZ.out];omega))⟩
   case measure=>simp[intOf];omega
theorem of_neg {B:Nat→Prop} {w:World} {n:Nat} (hn:(n:Int)≤9223372036854775808) (hn1:0<n) (hB:∀g,w.heap.size≤g→B g):
 Calls Tryz.prog 32 #[iV (-(n:Int))] w fun e w'=>∃v',e=.returned v'∧BigIs B w' v' (-(n:Int))∧Tf w w':=by
 have hz:=Blk.new w 83 #[.bool false,.slice none 0 0];have hb:=Blk.new2 w (.cells #[.bool false,.slice none 0 0] 83) 83 #[.bool true,.slice none 0 0];have hz:=hz.alloc (.cells #[.bool true,.slice none 0 0] 83);have tw:Tf w _:=(tal w (.cells #[.bool false,.slice none 0 0] 83)).trans (Tch.alloc _ _ (.cells #[.bool true,.slice none 0 0] 83));have hsz:w.heap.size+2≤((w.alloc (.cells #[.bool false,.slice none 0 0] 83)).alloc (.cells #[.bool true,.slice none 0 0] 83)).heap.size:=by simp
 have hsd:decide ((-(n:Int):Int)<0)=true:=by simp;omega
 have hna:(-(n:Int):Int).natAbs=n:=by omega
 unfold BigIs;rw[hsd,hna];have HNA:=Hid.out (p:=Hid _) hna;clear hna;have hn0: -(n:Int)<0:=by omega
 go_enter Tryz.func32,Tryz.ntmps32;go_wp2_with fail;generalize((w.alloc (.cells #[.bool false,.slice none 0 0] 83)).alloc (.cells #[.bool true,.slice none 0 0] 83))=W at *;generalize hzz:w.heap.size=z at *;have HZ:=Hid.out (p:=Hid (w.heap.size=z)) hzz;clear hzz hn0 hsd;go_loopw [4] (fun x wr=>∃(m:Nat) (ol:List Nat) (ov:Value),x=.int .i64 (-(m:Int))∧m≤n∧ol++dg m=dg n∧Blk wr z 83 #[.bool false,.slice none 0 0]∧Blk wr (z+1) 83 #[.bool true,ov]∧wr.ownsRow (z+2) 3 1 ov ol.length (ol.flatMap zq3)∧Tf w wr) (fun x _=>(intOf x).natAbs)
 case atStart=>exact⟨n,[],_,rfl,Nat.le_refl _,rfl,hz,hb,World.ownsRow_nil _ _ _ _,tw⟩
 case round=>
  obtain⟨m,ol,ov,rfl,hmn,hdg,h1,h2,ho,ht⟩:=hrel;have hW:=h2.lt;clear hz hb tw hsz;obtain⟨O,co,rfl,_,_,_⟩:=zac ho;have hon:∀g,(Value.slice O ol.length co).ownBlock=some g→z+2≤g:=fun g e=>(ho.lt g e).1
  have q1:=h2.at1;have q0:=h2.at0
  have hlen:ol.length≤64:=by
   have e:=congrArg List.length hdg;rw[List.length_append]at e;have:=zkx (show n<2^64 from by omega);omega
  by_cases hm:m=0
  ·subst hm;rw[zcj,List.append_nil]at hdg;have r0:=h1.frozen 0;have r1:=h1.frozen 1;obtain⟨r2,r3⟩:=h1.f2;have HDG:=Hid.out (p:=Hid _) hdg;clear hdg hmn;go_wp2;have hbF:=(h1.set_ 0 (.bool true)).set_ 1 (.slice O ol.length co);simp only[List.setIfInBounds_toArray,List.set_cons_succ,List.set_cons_zero]at hbF;(try simp only[exS]);refine zfe hbF ?_;have t2:Tch (fun g=>g=z) wr ((wr.setCell ⟨z,0,none⟩ (.bool true)).setCell ⟨z,1,none⟩ (.slice O ol.length co)):=(Tch.setCell (F:=fun g=>g=z) wr (p:=⟨z,0,none⟩) (.inl rfl) _).trans (Tch.setCell (F:=fun g=>g=z) _ (p:=⟨z,1,none⟩) (.inl rfl) _);have ho2:=t2.own ho (fun g e e2=>by have:=hon g e;omega);exact⟨_,rfl,⟨_,rfl,by rw[←HDG.out];exact Row.own ho2 (fun g e=>hB g (by have:=hon g e;omega))⟩,ht.trans' t2 (fun g e=>.inr (by rw[HZ.out];omega))⟩
  ·have hmp:0<m:=Nat.pos_of_ne_zero hm;rw[zht hmp]at hdg;have hdg':(ol++[m%10])++dg (m/10)=dg n:=by rw[←hdg];simp
   have HDG:=Hid.out (p:=Hid _) hdg';have HM10:m/10<m:=by omega
   have r1:=h2.frozen 1;clear hdg hdg';have hd:=tmod_neg m;have hq:=tdiv_neg m;have hmne:((-(m:Int)) !=0)=true:=by simp;omega
   have hmz:(m==0)=false:=by simp;omega
   have hm2:(m:Int)≤9223372036854775808:=by omega
   have hq2:((m/10:Nat):Int)=(m:Int)/10:=by omega
   have HQ:=Hid.out (p:=Hid _) hq2;have hm1:(0:Int)≤(m:Int):=by omega
   clear hm hq2;by_cases hr:(0:Int)<(m:Int)%10
   ·have hd2:(m:Int)%10=((m%10:Nat):Int):=by omega
    have HD:=Hid.out (p:=Hid _) hd2;clear hd2;go_wp2_with (at_builtin;refine apd zaj (ho.alloc _) (Go.Gk.Src.one (news:=[iV ((m:Int)%10)]) rfl (fun k u hu=>by rw[(Blk.new wr 3 #[iV ((m:Int)%10)]).cell k];simpa using hu)) (by simp;rfl) ?_;intro v2 w2 ho2 hg2 hl2;obtain⟨O2,co2,rfl,_,_,_⟩:=zac ho2;have c9:w2.cell? ⟨z+1,1,none⟩=some (.slice O ol.length co):=(h2.keep ((Tch.alloc (fun k=>z+2≤k) wr _).trans (Tch.grown hg2 (fun k e=>.inl (hon k e)))) (by show¬z+2≤z+1;omega)).cell 1;have f9:=(h2.keep ((Tch.alloc (fun k=>z+2≤k) wr _).trans (Tch.grown hg2 (fun k e=>.inl (hon k e)))) (by show¬z+2≤z+1;omega)).frozen 1);have hb2:∀g,(Value.slice O2 (ol.length+1) co2).ownBlock=some g→z+2≤g:=fun g e=>(hl2 g e).elim (hon g) (fun h=>by simp at h;omega)
    have tg:Tch (fun k=>z+2≤k) wr w2:=(Tch.alloc (fun k=>z+2≤k) wr _).trans (Tch.grown hg2 (fun k e=>.inl (hon k e)));have h1':=h1.keep tg (by show¬z+2≤z;omega);have h2':=h2.keep tg (by show¬z+2≤z+1;omega);have c1:=h2'.cell 1;have f1:=h2'.frozen 1;go_wp2;have ts:Tch (fun g=>g=z+1) w2 (w2.setCell ⟨z+1,1,none⟩ (.slice O2 (ol.length+1) co2)):=Tch.setCell (F:=fun g=>g=z+1) w2 (p:=⟨z+1,1,none⟩) (.inl rfl) _;have h2s:=h2'.set_ 1 (.slice O2 (ol.length+1) co2);simp only[List.setIfInBounds_toArray,List.set_cons_succ,List.set_cons_zero]at h2s;have ho3:=ts.own (zbk (zb0 (d:=m%10) ho2 HD.out) hb2) (fun g e e2=>by have:=hb2 g (by simpa using e);omega);go_roundw
    case rel=>exact⟨m/10,ol++[m%10],_,by rw[HQ.out],by omega,HDG.out,h1'.keep ts (fun e=>by omega),by simpa using h2s,by simpa using ho3,(ht.trans' tg (fun k hk=>.inr (by rw[HZ.out];omega))).trans' ts (fun k hk=>.inr (by rw[HZ.out];omega))⟩
    case measure=>simp[intOf];omega
   ·have hr0:(m:Int)%10=0:=by omega
    have hd2:(0:Int)=((m%10:Nat):Int):=by omega
    have HD:=Hid.out (p:=Hid _) hd2;clear hd2 hr;go_wp2_with (at_builtin;refine apd zaj (ho.alloc _) (Go.Gk.Src.one (news:=[iV (0)]) rfl (fun k u hu=>by rw[(Blk.new wr 3 #[iV (0)]).cell k];simpa using hu)) (by simp;rfl) ?_;intro v2 w2 ho2 hg2 hl2;obtain⟨O2,co2,rfl,_,_,_⟩:=zac ho2;have c9:w2.cell? ⟨z+1,1,none⟩=some (.slice O ol.length co):=(h2.keep ((Tch.alloc (fun k=>z+2≤k) wr _).trans (Tch.grown hg2 (fun k e=>.inl (hon k e)))) (by show¬z+2≤z+1;omega)).cell 1;have f9:=(h2.keep ((Tch.alloc (fun k=>z+2≤k) wr _).trans (Tch.grown hg2 (fun k e=>.inl (hon k e)))) (by show¬z+2≤z+1;omega)).frozen 1);have hb2:∀g,(Value.slice O2 (ol.length+1) co2).ownBlock=some g→z+2≤g:=fun g e=>(hl2 g e).elim (hon g) (fun h=>by simp at h;omega)
    have tg:Tch (fun k=>z+2≤k) wr w2:=(Tch.alloc (fun k=>z+2≤k) wr _).trans (Tch.grown hg2 (fun k e=>.inl (hon k e)));have h1':=h1.keep tg (by show¬z+2≤z;omega);have h2':=h2.keep tg (by show¬z+2≤z+1;omega);have c1:=h2'.cell 1;have f1:=h2'.frozen 1;go_wp2;have ts:Tch (fun g=>g=z+1) w2 (w2.setCell ⟨z+1,1,none⟩ (.slice O2 (ol.length+1) co2)):=Tch.setCell (F:=fun g=>g=z+1) w2 (p:=⟨z+1,1,none⟩) (.inl rfl) _;have h2s:=h2'.set_ 1 (.slice O2 (ol.length+1) co2);simp only[List.setIfInBounds_toArray,List.set_cons_succ,List.set_cons_zero]at h2s;have ho3:=ts.own (zbk (zb0 (d:=m%10) ho2 HD.out) hb2) (fun g e e2=>by have:=hb2 g (by simpa using e);omega);go_roundw
    case rel=>exact⟨m/10,ol++[m%10],_,by rw[HQ.out],by omega,HDG.out,h1'.keep ts (fun e=>by omega),by simpa using h2s,by simpa using ho3,(ht.trans' tg (fun k hk=>.inr (by rw[HZ.out];omega))).trans' ts (fun k hk=>.inr (by rw[HZ.out];omega))⟩
    case measure=>simp[intOf];omega
open Go.RowKit Go.Gk
theorem zft {B:Nat→Prop} {w:World} {x:Int} (h1: -9223372036854775808≤x) (h2:x≤9223372036854775807) (hB:∀g,w.heap.size≤g→B g):
 Calls Tryz.prog 32 #[iV x] w fun e w'=>∃v',e=.returned v'∧BigIs B w' v' x∧Tf w w':=by
 by_cases hx:x<0
 ·obtain⟨n,rfl⟩:∃n:Nat,x= -(n:Int):=⟨x.natAbs,by omega⟩
  exact of_neg (by omega) (by omega) hB
 ·obtain⟨n,rfl⟩:∃n:Nat,x=(n:Int):=⟨x.toNat,by omega⟩
  exact of_pos h2 hB
theorem zje {n:Nat} (h:0<n):0<(dg n).length:=by rw[zht h];simp
theorem Tch.two (w:World) (z:Nat) (u v:Value):Tch (fun g=>g=z) w ((w.setCell ⟨z,0,none⟩ u).setCell ⟨z,1,none⟩ v):=
 (Tch.setCell (F:=fun g=>g=z) w (p:=⟨z,0,none⟩) (.inl rfl) u).trans (Tch.setCell (F:=fun g=>g=z) _ (p:=⟨z,1,none⟩) (.inl rfl) v)
theorem flip_any {B:Nat→Prop} {w:World} {v:Value} {x:Int} (h:BigIs B w v x):
 Calls Tryz.prog 169 #[v] w fun e w'=>∃v',e=.returned v'∧BigIs B w' v' (-x)∧Tf w w':=by
 obtain⟨dv,rfl,hd⟩:=h;obtain⟨A,c,rfl,hc1,hc2⟩:=hd.form;have hna:(-x).natAbs=x.natAbs:=Int.natAbs_neg x
 have hsg:decide (-x<0)=((!decide (x<0))&&decide ((0:Int)<((dg x.natAbs).length:Int))):=by
  by_cases h0:x=0
  ·subst h0;simp[zcj]
  ·have:=zje (n:=x.natAbs) (by omega);by_cases hx:x<0
   ·simp[hx];omega
   ·simp only[hx,decide_false,Bool.not_false,Bool.true_and,decide_eq_decide];omega
 unfold BigIs;rw[hna,hsg];have hd':∀dv,dv=Value.slice A (dg x.natAbs).length c→zfc B w dv (dg x.natAbs):=fun dv e=>e▸hd
 have HD:=Hid.out (p:=Hid _) hd';clear hna hsg hd hd';generalize decide (x<0)=s at *;generalize(dg x.natAbs).length=n at *
 cases s
 ·go_enter Tryz.func169,Tryz.ntmps169;go_wp2;have hbF:=Blk.new2 w (.cells #[.bool false,.slice A n c] 83) 83 #[.bool (decide (0<n)),.slice A n c];have tF:Tf w _:=(tal w (.cells #[.bool false,.slice A n c] 83)).trans (Tch.alloc _ _ (.cells #[.bool (decide (0<n)),.slice A n c] 83));refine zfe hbF ?_;have e1:(!false&&decide ((0:Int)<(n:Int)))=decide (0<n):=by simp
  rw[e1];exact⟨_,rfl,⟨_,rfl,(HD.out _ rfl).keep tF⟩,tF⟩
 ·go_enter Tryz.func169,Tryz.ntmps169;go_wp2;have hbF:=Blk.new2 w (.cells #[.bool true,.slice A n c] 83) 83 #[.bool false,.slice A n c];have tF:Tf w _:=(tal w (.cells #[.bool true,.slice A n c] 83)).trans (Tch.alloc _ _ (.cells #[.bool false,.slice A n c] 83));refine zfe hbF ?_;exact⟨_,rfl,⟨_,rfl,(HD.out _ rfl).keep tF⟩,tF⟩
theorem Blk.new3 (w:World) (o o':Obj) (t:TypeId) (cs:Array Value):Blk (((w.alloc o).alloc o').alloc (.cells cs t)) (w.heap.size+2) t cs:=by
 simpa using Blk.new ((w.alloc o).alloc o') t cs
structure PlusIs (W:World) (z:Nat) (sx sy:Bool) (u v:Value):Prop where
 a:Blk W z 83 #[.bool sx,u]
 b:Blk W (z+1) 83 #[.bool sy,v]
 r:Blk W (z+2) 83 #[.bool false,.slice none 0 0]
theorem PlusIs.new (w:World) (sx sy:Bool) (u v:Value):PlusIs (((w.alloc (.cells #[.bool sx,u] 83)).alloc (.cells #[.bool sy,v] 83)).alloc (.cells #[.bool false,.slice none 0 0] 83)) w.heap.size sx sy u v:=
 ⟨((Blk.new w _ _).alloc _).alloc _,(Blk.new2 w _ _ _).alloc _,Blk.new3 w _ _ _ _⟩
theorem PlusIs.keep {W W':World} {z:Nat} {sx sy:Bool} {u v:Value} (h:PlusIs W z sx sy u v) (t:Tf W W'):PlusIs W' z sx sy u v:=⟨h.a.keep t id,h.b.keep t id,h.r.keep t id⟩
theorem zo4 {B:Nat→Prop} {w:World} {x y:Int} {sx:Bool} {u v:Value} (hu:zfc B w u (dg x.natAbs)) (hv:zfc B w v (dg y.natAbs)) (nx:(dg x.natAbs).length≤50000) (ny:(dg y.natAbs).length≤50000) (hB:∀g,w.heap.size≤g→B g):
 Calls Tryz.prog 31 #[.agg #[.bool sx,u],.agg #[.bool sx,v]] w fun e w'=>∃dv,e=.returned (.agg #[.bool sx,dv])∧zfc B w' dv (dg (x.natAbs+y.natAbs))∧Tf w w':=by
 have hP:=PlusIs.new w sx sx u v;have tw:Tf w (((w.alloc (.cells #[.bool sx,u] 83)).alloc (.cells #[.bool sx,v] 83)).alloc (.cells #[.bool false,.slice none 0 0] 83)):=((Tch.alloc _ _ _).trans (Tch.alloc _ _ _)).trans (Tch.alloc _ _ _);have hC:=fun(w':World) (t:Tf w w')=>zs2 (B:=fun g=>B g∧g≠w.heap.size+2) ((hu.keepTo (P':=fun g=>B g∧g≠w.heap.size+2) t (fun g hg hb=>⟨id,hb,by omega⟩))) ((hv.keepTo (P':=fun g=>B g∧g≠w.heap.size+2) t (fun g hg hb=>⟨id,hb,by omega⟩))) (zbh _) (zbh _) (by omega) (by omega)
 rw[za0,za0]at hC;have HC:=Hid.out (p:=Hid _) hC;clear hC;obtain⟨A,c,rfl,_,_⟩:=hu.form;obtain⟨A',c',rfl,_,_⟩:=hv.form;generalize(dg x.natAbs).length=lx at *;generalize(dg y.natAbs).length=ly at *
 obtain⟨V,hV⟩:∃V:Value→World→Prop,V=fun d w'=>zfc (fun g=>B g∧g≠w.heap.size+2) w' d (dg (x.natAbs+y.natAbs)):=⟨_,rfl⟩
 have HV:=Hid.out (p:=Hid (V=_)) hV;have hss:(sx==sx)=true:=by simp
 clear hV hu hv;go_enter Tryz.func31,Tryz.ntmps31;go_wp2_with fail;generalize hWd:((w.alloc (.cells #[.bool sx,.slice A lx c] 83)).alloc (.cells #[.bool sx,.slice A' ly c'] 83)).alloc (.cells #[.bool false,.slice none 0 0] 83)=W at *;generalize hz:w.heap.size=z at *;have HZ:=Hid.out (p:=Hid (w.heap.size=z)) hz;have hzW:=hP.r.lt;clear hz hWd;obtain⟨c0,c1⟩:=hP.a.w2;have c2:=wc0 hP.b.at1;refine za4 (fun _=>False) [] 7 [(6,.inr V)] [] (by kernel_rfl) rfl (by kernel_rfl) rfl (fun d _ _ _ _ h=>by cases d<;>exact h) ?_ ?_
 ·rw[HV.out];exact⟨fun u a b hr h=>h.keep hr,trivial⟩
 intro bef ops hbef hops;clear hbef hops;simp only[List.take_succ_cons,List.take_zero,List.drop_succ_cons,List.drop_zero];iterate 6 (refine zgv (by rfl) (by rfl) (by rfl) (by rfl) (fun K hK=>?_);go_big_quiet_op;(first|refine hK _ ?_|refine⟨_,fun _=>rfl,hK _ ?_⟩);clear hK K)
 refine zaq (by rfl) (by rfl) (fun w1 hr hf=>?_) (fun d=>?_)
 ·refine zaa (d:=17) rfl (by simp) (fun K hK=>?_);go_step;have t1:=tw.trans ((Tch.drew _ W).trans hr);refine(HC.out w1 t1 (fun g hg=>⟨hB g (by have:=t1.size;have:=HZ.out;omega),by have:=hr.size;simp at this;omega⟩)).mono ?_;rintro e w2 ⟨v',rfl,ho,t2⟩;refine hK _ _ ⟨⟨?_,t2⟩,zaf⟩;rw[HV.out];exact ho
 refine za6 ?_;intro w1 hr hp hap;have hv:=hp _ (List.mem_singleton.2 rfl);dsimp only at hv
 rw[HV.out]at hv;have t1:Tf W w1:=(Tch.drew _ W).trans hr;have hP1:=hP.keep t1;have tw1:=tw.trans t1;obtain⟨D,cd,rfl,_,_⟩:=hv.form;generalize(dg (x.natAbs+y.natAbs)).length=ld at *;have r0:=hP1.r.frozen 0;have r1:=hP1.r.frozen 1;obtain⟨r2,r3⟩:=hP1.r.f2;simp only[Act.put,List.setIfInBounds_toArray,List.set_cons_succ,List.set_cons_zero];clear hap HV hp c0 c1 c2 hr t1 hP tw HC hss;go_wp2;have hbF:=(hP1.r.set_ 0 (.bool sx)).set_ 1 (.slice D ld cd);simp only[List.setIfInBounds_toArray,List.set_cons_succ,List.set_cons_zero]at hbF;(try simp only[exS]);refine zfe hbF ?_;have t2:=Tch.two w1 (z+2) (.bool sx) (.slice D ld cd);exact⟨_,rfl,hv.keepTo t2 (fun g hg hb=>⟨hb.2,hb.1⟩),tw1.trans' t2 (fun g e=>.inr (by rw[HZ.out];omega))⟩
theorem zv6 {B:Nat→Prop} {w:World} {x y:Int} {u v:Value} (hu:zfc B w u (dg x.natAbs)) (hv:zfc B w v (dg y.natAbs)) (nx:(dg x.natAbs).length≤50000) (hle:y.natAbs≤x.natAbs) (hB:∀g,w.heap.size≤g→B g):
 Calls Tryz.prog 31 #[.agg #[.bool true,u],.agg #[.bool false,v]] w fun e w'=>∃dv,e=.returned (.agg #[.bool (decide (0<(dg (x.natAbs-y.natAbs)).length)),dv])∧zfc B w' dv (dg (x.natAbs-y.natAbs))∧Tf w w':=by
 have hP:=PlusIs.new w true false u v;have tw:Tf w (((w.alloc (.cells #[.bool true,u] 83)).alloc (.cells #[.bool false,v] 83)).alloc (.cells #[.bool false,.slice none 0 0] 83)):=((Tch.alloc _ _ _).trans (Tch.alloc _ _ _)).trans (Tch.alloc _ _ _)
 have hlen:(dg y.natAbs).length≤(dg x.natAbs).length:=by
  rcases Nat.lt_or_ge (dg x.natAbs).length (dg y.natAbs).length with h|h
  ·have:=zey h;omega
  ·exact h
 have hC:=fun(w':World) (t:Tf w w')=>zgo (B:=fun g=>B g∧g≠w.heap.size+2) ((hu.keepTo (P':=fun g=>B g∧g≠w.heap.size+2) t (fun g hg hb=>⟨id,hb,by omega⟩))) ((hv.keepTo (P':=fun g=>B g∧g≠w.heap.size+2) t (fun g hg hb=>⟨id,hb,by omega⟩))) (zbh _) (zbh _) (by omega) hlen (by rw[za0,za0];exact hle)
 rw[za0,za0]at hC;have hD:=zfs (hu.keep tw) (hv.keep tw);have hdv:(if x.natAbs<y.natAbs then(-1:Int)else if y.natAbs<x.natAbs then 1 else 0)=(if y.natAbs<x.natAbs then 1 else 0):=if_neg (by omega);rw[hdv]at hD;have hdr:(0:Int)≤(if y.natAbs<x.natAbs then 1 else 0):=by split<;>decide
 generalize(if y.natAbs<x.natAbs then(1:Int)else 0)=dd at *;have HC:=Hid.out (p:=Hid _) hC;clear hC hdv;obtain⟨A,c,rfl,_,_⟩:=hu.form;obtain⟨A',c',rfl,_,_⟩:=hv.form;generalize(dg x.natAbs).length=lx at *;generalize(dg y.natAbs).length=ly at *;clear hu hv;go_enter Tryz.func31,Tryz.ntmps31;go_wp2_with fail;generalize hWd:((w.alloc (.cells #[.bool true,.slice A lx c] 83)).alloc (.cells #[.bool false,.slice A' ly c'] 83)).alloc (.cells #[.bool false,.slice none 0 0] 83)=W at *;generalize hz:w.heap.size=z at *;have HZ:=Hid.out (p:=Hid (w.heap.size=z)) hz;have hzW:=hP.r.lt;clear hz hWd;refine hD.mono ?_;rintro e w1 ⟨rfl,t1⟩;have hP1:=hP.keep t1;have tw1:=tw.trans t1;obtain⟨a0,a1⟩:=hP1.a.f2;have b1:=hP1.b.at1;have h1z:=t1.size;clear hD t1 hP tw;go_wp2_with fail;refine(HC.out w1 tw1 (fun g hg=>⟨hB g (by omega),by omega⟩)).mono ?_;rintro e w2 ⟨v2,rfl,hv2,t2⟩;have hP2:=hP1.keep t2;have tw2:=tw1.trans t2;obtain⟨D,cd,rfl,_,_⟩:=hv2.form;generalize hld:(dg (x.natAbs-y.natAbs)).length=ld at *;have HLD:=Hid.out (p:=Hid _) hld;clear hld;have a0:=hP2.a.at0;have r0:=hP2.r.frozen 0;have r1:=hP2.r.frozen 1;obtain⟨r2,r3⟩:=hP2.r.f2;clear HC a1 b1 t2 hP1 tw1;go_wp2;have hbF:=(hP2.r.set_ 0 (.bool (decide (0<ld)))).set_ 1 (.slice D ld cd);simp only[List.setIfInBounds_toArray,List.set_cons_succ,List.set_cons_zero]at hbF;(try simp only[exS]);refine zfe hbF ?_;have t3:=Tch.two w2 (z+2) (.bool (decide (0<ld))) (.slice D ld cd);exact⟨.slice D ld cd,by first|rfl|rw[HLD.out],hv2.keepTo t3 (fun g hg hb=>⟨hb.2,hb.1⟩),tw2.trans' t3 (fun g e=>.inr (by rw[HZ.out];omega))⟩
theorem zv7 {B:Nat→Prop} {w:World} {x y:Int} {u v:Value} (hu:zfc B w u (dg x.natAbs)) (hv:zfc B w v (dg y.natAbs)) (nx:(dg x.natAbs).length≤50000) (hle:y.natAbs≤x.natAbs) (hB:∀g,w.heap.size≤g→B g):
 Calls Tryz.prog 31 #[.agg #[.bool false,u],.agg #[.bool true,v]] w fun e w'=>∃dv,e=.returned (.agg #[.bool (false),dv])∧zfc B w' dv (dg (x.natAbs-y.natAbs))∧Tf w w':=by
 have hP:=PlusIs.new w false true u v;have tw:Tf w (((w.alloc (.cells #[.bool false,u] 83)).alloc (.cells #[.bool true,v] 83)).alloc (.cells #[.bool false,.slice none 0 0] 83)):=((Tch.alloc _ _ _).trans (Tch.alloc _ _ _)).trans (Tch.alloc _ _ _)
 have hlen:(dg y.natAbs).length≤(dg x.natAbs).length:=by
  rcases Nat.lt_or_ge (dg x.natAbs).length (dg y.natAbs).length with h|h
  ·have:=zey h;omega
  ·exact h
 have hC:=fun(w':World) (t:Tf w w')=>zgo (B:=fun g=>B g∧g≠w.heap.size+2) ((hu.keepTo (P':=fun g=>B g∧g≠w.heap.size+2) t (fun g hg hb=>⟨id,hb,by omega⟩))) ((hv.keepTo (P':=fun g=>B g∧g≠w.heap.size+2) t (fun g hg hb=>⟨id,hb,by omega⟩))) (zbh _) (zbh _) (by omega) hlen (by rw[za0,za0];exact hle)
 rw[za0,za0]at hC;have hD:=zfs (hu.keep tw) (hv.keep tw);have hdv:(if x.natAbs<y.natAbs then(-1:Int)else if y.natAbs<x.natAbs then 1 else 0)=(if y.natAbs<x.natAbs then 1 else 0):=if_neg (by omega);rw[hdv]at hD;have hdr:(0:Int)≤(if y.natAbs<x.natAbs then 1 else 0):=by split<;>decide
 generalize(if y.natAbs<x.natAbs then(1:Int)else 0)=dd at *;have HC:=Hid.out (p:=Hid _) hC;clear hC hdv;obtain⟨A,c,rfl,_,_⟩:=hu.form;obtain⟨A',c',rfl,_,_⟩:=hv.form;generalize(dg x.natAbs).length=lx at *;generalize(dg y.natAbs).length=ly at *;clear hu hv;go_enter Tryz.func31,Tryz.ntmps31;go_wp2_with fail;generalize hWd:((w.alloc (.cells #[.bool false,.slice A lx c] 83)).alloc (.cells #[.bool true,.slice A' ly c'] 83)).alloc (.cells #[.bool false,.slice none 0 0] 83)=W at *;generalize hz:w.heap.size=z at *;have HZ:=Hid.out (p:=Hid (w.heap.size=z)) hz;have hzW:=hP.r.lt;clear hz hWd;refine hD.mono ?_;rintro e w1 ⟨rfl,t1⟩;have hP1:=hP.keep t1;have tw1:=tw.trans t1;obtain⟨a0,a1⟩:=hP1.a.f2;have b1:=hP1.b.at1;have h1z:=t1.size;clear hD t1 hP tw;go_wp2_with fail;refine(HC.out w1 tw1 (fun g hg=>⟨hB g (by omega),by omega⟩)).mono ?_;rintro e w2 ⟨v2,rfl,hv2,t2⟩;have hP2:=hP1.keep t2;have tw2:=tw1.trans t2;obtain⟨D,cd,rfl,_,_⟩:=hv2.form;generalize hld:(dg (x.natAbs-y.natAbs)).length=ld at *;have HLD:=Hid.out (p:=Hid _) hld;clear hld;have a0:=hP2.a.at0;have r0:=hP2.r.frozen 0;have r1:=hP2.r.frozen 1;obtain⟨r2,r3⟩:=hP2.r.f2;clear HC a1 b1 t2 hP1 tw1;go_wp2;have hbF:=(hP2.r.set_ 0 (.bool (false))).set_ 1 (.slice D ld cd);simp only[List.setIfInBounds_toArray,List.set_cons_succ,List.set_cons_zero]at hbF;(try simp only[exS]);refine zfe hbF ?_;have t3:=Tch.two w2 (z+2) (.bool (false)) (.slice D ld cd);exact⟨.slice D ld cd,by first|rfl|rw[HLD.out],hv2.keepTo t3 (fun g hg hb=>⟨hb.2,hb.1⟩),tw2.trans' t3 (fun g e=>.inr (by rw[HZ.out];omega))⟩
theorem zv8 {B:Nat→Prop} {w:World} {x y:Int} {u v:Value} (hu:zfc B w u (dg x.natAbs)) (hv:zfc B w v (dg y.natAbs)) (ny:(dg y.natAbs).length≤50000) (hlt:x.natAbs<y.natAbs) (hB:∀g,w.heap.size≤g→B g):
 Calls Tryz.prog 31 #[.agg #[.bool true,u],.agg #[.bool false,v]] w fun e w'=>∃dv,e=.returned (.agg #[.bool false,dv])∧zfc B w' dv (dg (y.natAbs-x.natAbs))∧Tf w w':=by
 have hP:=PlusIs.new w true false u v;have tw:Tf w (((w.alloc (.cells #[.bool true,u] 83)).alloc (.cells #[.bool false,v] 83)).alloc (.cells #[.bool false,.slice none 0 0] 83)):=((Tch.alloc _ _ _).trans (Tch.alloc _ _ _)).trans (Tch.alloc _ _ _)
 have hlen:(dg x.natAbs).length≤(dg y.natAbs).length:=by
  rcases Nat.lt_or_ge (dg y.natAbs).length (dg x.natAbs).length with h|h
  ·have:=zey h;omega
  ·exact h
 have hC:=fun(w':World) (t:Tf w w')=>zgo (B:=fun g=>B g∧g≠w.heap.size+2) ((hv.keepTo (P':=fun g=>B g∧g≠w.heap.size+2) t (fun g hg hb=>⟨id,hb,by omega⟩))) ((hu.keepTo (P':=fun g=>B g∧g≠w.heap.size+2) t (fun g hg hb=>⟨id,hb,by omega⟩))) (zbh _) (zbh _) (by omega) hlen (by rw[za0,za0];omega)
 rw[za0,za0]at hC;have hD:=zfs (hu.keep tw) (hv.keep tw);rw[if_pos hlt]at hD;have HC:=Hid.out (p:=Hid _) hC;obtain⟨A,c,rfl,_,_⟩:=hu.form;obtain⟨A',c',rfl,_,_⟩:=hv.form;generalize(dg x.natAbs).length=lx at *;generalize(dg y.natAbs).length=ly at *
 obtain⟨V,hV⟩:∃V:Value→World→Prop,V=fun d w'=>zfc (fun g=>B g∧g≠w.heap.size+2) w' d (dg (y.natAbs-x.natAbs)):=⟨_,rfl⟩
 have HV:=Hid.out (p:=Hid (V=_)) hV;clear hV hu hv hC;go_enter Tryz.func31,Tryz.ntmps31;go_wp2_with fail;generalize hWd:((w.alloc (.cells #[.bool true,.slice A lx c] 83)).alloc (.cells #[.bool false,.slice A' ly c'] 83)).alloc (.cells #[.bool false,.slice none 0 0] 83)=W0 at *;generalize hz:w.heap.size=z at *;have HZ:=Hid.out (p:=Hid (w.heap.size=z)) hz;have hzW0:=hP.r.lt;clear hz hWd;refine hD.mono ?_;rintro e W ⟨rfl,t0⟩;have hP:=hP.keep t0;have tw:=tw.trans t0;have hzW:=hP.r.lt;clear hD;go_wp2_with fail;have c0:=wc0 hP.b.at0;have c1:=wc0 hP.a.at1;have c2:=wc0 hP.b.at1;refine za4 (fun _=>False) [] 7 [(6,.inr V)] [] (by kernel_rfl) rfl (by kernel_rfl) rfl (fun d _ _ _ _ h=>by cases d<;>exact h) ?_ ?_
 ·rw[HV.out];exact⟨fun u a b hr h=>h.keep hr,trivial⟩
 intro bef ops hbef hops;clear hbef hops;simp only[List.take_succ_cons,List.take_zero,List.drop_succ_cons,List.drop_zero];iterate 6 (refine zgv (by rfl) (by rfl) (by rfl) (by rfl) (fun K hK=>?_);go_big_quiet_op;(first|refine hK _ ?_|refine⟨_,fun _=>rfl,hK _ ?_⟩);clear hK K)
 refine zaq (by rfl) (by rfl) (fun w1 hr hf=>?_) (fun d=>?_)
 ·refine zaa (d:=45) rfl (by simp) (fun K hK=>?_);go_step;have t1:=tw.trans ((Tch.drew _ W).trans hr);refine(HC.out w1 t1 (fun g hg=>⟨hB g (by have:=t1.size;have:=HZ.out;omega),by have:=hr.size;simp at this;omega⟩)).mono ?_;rintro e w2 ⟨v',rfl,ho,t2⟩;refine hK _ _ ⟨⟨?_,t2⟩,zaf⟩;rw[HV.out];exact ho
 refine za6 ?_;intro w1 hr hp hap;have hv:=hp _ (List.mem_singleton.2 rfl);dsimp only at hv
 rw[HV.out]at hv;have t1:Tf W w1:=(Tch.drew _ W).trans hr;have hP1:=hP.keep t1;have tw1:=tw.trans t1;obtain⟨D,cd,rfl,_,_⟩:=hv.form;generalize(dg (y.natAbs-x.natAbs)).length=ld at *;have r0:=hP1.r.frozen 0;have r1:=hP1.r.frozen 1;obtain⟨r2,r3⟩:=hP1.r.f2;simp only[Act.put,List.setIfInBounds_toArray,List.set_cons_succ,List.set_cons_zero];clear hap HV hp c0 c1 c2 hr t1 hP tw HC;go_wp2;have hbF:=(hP1.r.set_ 0 (.bool false)).set_ 1 (.slice D ld cd);simp only[List.setIfInBounds_toArray,List.set_cons_succ,List.set_cons_zero]at hbF;(try simp only[exS]);refine zfe hbF ?_;have t2:=Tch.two w1 (z+2) (.bool false) (.slice D ld cd);exact⟨_,rfl,hv.keepTo t2 (fun g hg hb=>⟨hb.2,hb.1⟩),tw1.trans' t2 (fun g e=>.inr (by rw[HZ.out];omega))⟩
theorem zv9 {B:Nat→Prop} {w:World} {x y:Int} {u v:Value} (hu:zfc B w u (dg x.natAbs)) (hv:zfc B w v (dg y.natAbs)) (ny:(dg y.natAbs).length≤50000) (hlt:x.natAbs<y.natAbs) (hB:∀g,w.heap.size≤g→B g):
 Calls Tryz.prog 31 #[.agg #[.bool false,u],.agg #[.bool true,v]] w fun e w'=>∃dv,e=.returned (.agg #[.bool true,dv])∧zfc B w' dv (dg (y.natAbs-x.natAbs))∧Tf w w':=by
 have hP:=PlusIs.new w false true u v;have tw:Tf w (((w.alloc (.cells #[.bool false,u] 83)).alloc (.cells #[.bool true,v] 83)).alloc (.cells #[.bool false,.slice none 0 0] 83)):=((Tch.alloc _ _ _).trans (Tch.alloc _ _ _)).trans (Tch.alloc _ _ _)
 have hlen:(dg x.natAbs).length≤(dg y.natAbs).length:=by
  rcases Nat.lt_or_ge (dg y.natAbs).length (dg x.natAbs).length with h|h
  ·have:=zey h;omega
  ·exact h
 have hC:=fun(w':World) (t:Tf w w')=>zgo (B:=fun g=>B g∧g≠w.heap.size+2) ((hv.keepTo (P':=fun g=>B g∧g≠w.heap.size+2) t (fun g hg hb=>⟨id,hb,by omega⟩))) ((hu.keepTo (P':=fun g=>B g∧g≠w.heap.size+2) t (fun g hg hb=>⟨id,hb,by omega⟩))) (zbh _) (zbh _) (by omega) hlen (by rw[za0,za0];omega)
 rw[za0,za0]at hC;have hD:=zfs (hu.keep tw) (hv.keep tw);rw[if_pos hlt]at hD;have HC:=Hid.out (p:=Hid _) hC;obtain⟨A,c,rfl,_,_⟩:=hu.form;obtain⟨A',c',rfl,_,_⟩:=hv.form;generalize(dg x.natAbs).length=lx at *;generalize(dg y.natAbs).length=ly at *
 obtain⟨V,hV⟩:∃V:Value→World→Prop,V=fun d w'=>zfc (fun g=>B g∧g≠w.heap.size+2) w' d (dg (y.natAbs-x.natAbs)):=⟨_,rfl⟩
 have HV:=Hid.out (p:=Hid (V=_)) hV;clear hV hu hv hC;go_enter Tryz.func31,Tryz.ntmps31;go_wp2_with fail;generalize hWd:((w.alloc (.cells #[.bool false,.slice A lx c] 83)).alloc (.cells #[.bool true,.slice A' ly c'] 83)).alloc (.cells #[.bool false,.slice none 0 0] 83)=W0 at *;generalize hz:w.heap.size=z at *;have HZ:=Hid.out (p:=Hid (w.heap.size=z)) hz;have hzW0:=hP.r.lt;clear hz hWd;refine hD.mono ?_;rintro e W ⟨rfl,t0⟩;have hP:=hP.keep t0;have tw:=tw.trans t0;have hzW:=hP.r.lt;clear hD;go_wp2_with fail;have c0:=wc0 hP.b.at0;have c1:=wc0 hP.a.at1;have c2:=wc0 hP.b.at1;refine za4 (fun _=>False) [] 7 [(6,.inr V)] [] (by kernel_rfl) rfl (by kernel_rfl) rfl (fun d _ _ _ _ h=>by cases d<;>exact h) ?_ ?_
 ·rw[HV.out];exact⟨fun u a b hr h=>h.keep hr,trivial⟩
 intro bef ops hbef hops;clear hbef hops;simp only[List.take_succ_cons,List.take_zero,List.drop_succ_cons,List.drop_zero];iterate 6 (refine zgv (by rfl) (by rfl) (by rfl) (by rfl) (fun K hK=>?_);go_big_quiet_op;(first|refine hK _ ?_|refine⟨_,fun _=>rfl,hK _ ?_⟩);clear hK K)
 refine zaq (by rfl) (by rfl) (fun w1 hr hf=>?_) (fun d=>?_)
 ·refine zaa (d:=45) rfl (by simp) (fun K hK=>?_);go_step;have t1:=tw.trans ((Tch.drew _ W).trans hr);refine(HC.out w1 t1 (fun g hg=>⟨hB g (by have:=t1.size;have:=HZ.out;omega),by have:=hr.size;simp at this;omega⟩)).mono ?_;rintro e w2 ⟨v',rfl,ho,t2⟩;refine hK _ _ ⟨⟨?_,t2⟩,zaf⟩;rw[HV.out];exact ho
 refine za6 ?_;intro w1 hr hp hap;have hv:=hp _ (List.mem_singleton.2 rfl);dsimp only at hv
 rw[HV.out]at hv;have t1:Tf W w1:=(Tch.drew _ W).trans hr;have hP1:=hP.keep t1;have tw1:=tw.trans t1;obtain⟨D,cd,rfl,_,_⟩:=hv.form;generalize(dg (y.natAbs-x.natAbs)).length=ld at *;have r0:=hP1.r.frozen 0;have r1:=hP1.r.frozen 1;obtain⟨r2,r3⟩:=hP1.r.f2;simp only[Act.put,List.setIfInBounds_toArray,List.set_cons_succ,List.set_cons_zero];clear hap HV hp c0 c1 c2 hr t1 hP tw HC;go_wp2;have hbF:=(hP1.r.set_ 0 (.bool true)).set_ 1 (.slice D ld cd);simp only[List.setIfInBounds_toArray,List.set_cons_succ,List.set_cons_zero]at hbF;(try simp only[exS]);refine zfe hbF ?_;have t2:=Tch.two w1 (z+2) (.bool true) (.slice D ld cd);exact⟨_,rfl,hv.keepTo t2 (fun g hg hb=>⟨hb.2,hb.1⟩),tw1.trans' t2 (fun g e=>.inr (by rw[HZ.out];omega))⟩
theorem dg_dec {n:Nat}:decide (0<(dg n).length)=decide (0<n):=by
 by_cases h:0<n
 ·rw[decide_eq_true (zje h),decide_eq_true h]
 ·obtain rfl:n=0:=by omega
  rw[zcj];rfl
theorem zsy {B:Nat→Prop} {w:World} {u v:Value} {x y:Int} (hx:BigIs B w u x) (hy:BigIs B w v y) (nx:(dg x.natAbs).length≤50000) (ny:(dg y.natAbs).length≤50000) (hB:∀g,w.heap.size≤g→B g):
 Calls Tryz.prog 31 #[u,v] w fun e w'=>∃v',e=.returned v'∧BigIs B w' v' (x+y)∧Tf w w':=by
 obtain⟨du,rfl,hu⟩:=hx;obtain⟨dv,rfl,hv⟩:=hy;unfold BigIs;by_cases sx:x<0<;>by_cases sy:y<0
 ·rw[decide_eq_true sx,decide_eq_true sy];refine(zo4 hu hv nx ny hB).mono ?_;rintro e w' ⟨d,rfl,h,t⟩;exact⟨_,rfl,⟨d,by rw[decide_eq_true (by omega)],by rwa [show(x+y).natAbs=x.natAbs+y.natAbs by omega]⟩,t⟩
 ·rw[decide_eq_true sx,decide_eq_false sy];by_cases hle:y.natAbs≤x.natAbs
  ·refine(zv6 hu hv nx hle hB).mono ?_;rintro e w' ⟨d,rfl,h,t⟩;refine⟨_,rfl,⟨d,?_,by rwa [show(x+y).natAbs=x.natAbs-y.natAbs by omega]⟩,t⟩;rw[dg_dec,show decide (0<x.natAbs-y.natAbs)=decide (x+y<0) by rw[decide_eq_decide];omega]
  ·refine(zv8 hu hv ny (by omega) hB).mono ?_;rintro e w' ⟨d,rfl,h,t⟩;exact⟨_,rfl,⟨d,by rw[decide_eq_false (by omega)],by rwa [show(x+y).natAbs=y.natAbs-x.natAbs by omega]⟩,t⟩
 ·rw[decide_eq_false sx,decide_eq_true sy];by_cases hle:y.natAbs≤x.natAbs
  ·refine(zv7 hu hv nx hle hB).mono ?_;rintro e w' ⟨d,rfl,h,t⟩;exact⟨_,rfl,⟨d,by rw[decide_eq_false (by omega)],by rwa [show(x+y).natAbs=x.natAbs-y.natAbs by omega]⟩,t⟩
  ·refine(zv9 hu hv ny (by omega) hB).mono ?_;rintro e w' ⟨d,rfl,h,t⟩;exact⟨_,rfl,⟨d,by rw[decide_eq_true (by omega)],by rwa [show(x+y).natAbs=y.natAbs-x.natAbs by omega]⟩,t⟩
 ·rw[decide_eq_false sx,decide_eq_false sy];refine(zo4 hu hv nx ny hB).mono ?_;rintro e w' ⟨d,rfl,h,t⟩;exact⟨_,rfl,⟨d,by rw[decide_eq_false (by omega)],by rwa [show(x+y).natAbs=x.natAbs+y.natAbs by omega]⟩,t⟩
open Go.RowKit Go.Gk
theorem BigIs.keepTo {B B' F:Nat→Prop} {w w':World} {v:Value} {x:Int} (h:BigIs B w v x) (t:Tch F w w') (hP:∀g,g<w.heap.size→B g→¬F g∧B' g):BigIs B' w' v x:=let⟨dv,e,h⟩:=h;⟨dv,e,h.keepTo t hP⟩
theorem zo5 {B:Nat→Prop} {w:World} {u v:Value} {x y:Int} (hx:BigIs B w u x) (hy:BigIs B w v y) (nx:(dg x.natAbs).length≤50000) (ny:(dg y.natAbs).length≤50000) (hB:∀g,w.heap.size≤g→B g):
 Calls Tryz.prog 101 #[u,v] w fun e w'=>∃v',e=.returned v'∧BigIs B w' v' (x-y)∧Tf w w':=by
 have hX:=fun(w':World) (t:Tf w w')=>hx.keepTo (B':=fun g=>B g∧g≠w.heap.size+2) t (fun g hg hb=>⟨id,hb,by omega⟩)
 have hY:=fun(w':World) (t:Tf w w')=>hy.keepTo (B':=fun g=>B g∧g≠w.heap.size+2) t (fun g hg hb=>⟨id,hb,by omega⟩)
 have hF:=fun(w':World) (t:Tf w w')=>flip_any (hY w' t)
 have hPl:=fun(w':World) (v':Value) (h1:BigIs (fun g=>B g∧g≠w.heap.size+2) w' v' (-y)) (t:Tf w w')=>zsy (hX w' t) h1 nx (by rw[Int.natAbs_neg];exact ny)
 obtain⟨du,rfl,hu⟩:=hx;obtain⟨dv,rfl,hv⟩:=hy;obtain⟨A,c,rfl,_,_⟩:=hu.form;obtain⟨A',c',rfl,_,_⟩:=hv.form;have HF:=Hid.out (p:=Hid _) hF;have HPL:=Hid.out (p:=Hid _) hPl;clear hF hPl hX hY hu hv nx ny;generalize(dg x.natAbs).length=lx at *;generalize(dg y.natAbs).length=ly at *;generalize decide (x<0)=sx at *;generalize decide (y<0)=sy at *;have hP:=PlusIs.new w sx sy (.slice A lx c) (.slice A' ly c');have tw:Tf w (((w.alloc (.cells #[.bool sx,.slice A lx c] 83)).alloc (.cells #[.bool sy,.slice A' ly c'] 83)).alloc (.cells #[.bool false,.slice none 0 0] 83)):=((Tch.alloc _ _ _).trans (Tch.alloc _ _ _)).trans (Tch.alloc _ _ _)
 obtain⟨V,hV⟩:∃V:Value→World→Prop,V=fun d w'=>BigIs (fun g=>B g∧g≠w.heap.size+2) w' d (-y):=⟨_,rfl⟩
 have HV:=Hid.out (p:=Hid (V=_)) hV;clear hV;go_enter Tryz.func101,Tryz.ntmps101;go_wp2_with fail;generalize hWd:((w.alloc (.cells #[.bool sx,.slice A lx c] 83)).alloc (.cells #[.bool sy,.slice A' ly c'] 83)).alloc (.cells #[.bool false,.slice none 0 0] 83)=W at *;generalize hz:w.heap.size=z at *;have HZ:=Hid.out (p:=Hid (w.heap.size=z)) hz;have hzW:=hP.r.lt;clear hz hWd;obtain⟨c0,c1⟩:=hP.a.w2;obtain⟨c2,c3⟩:=hP.b.w2;refine za4 (fun _=>False) [] 3 [(2,.inr V)] [] (by kernel_rfl) rfl (by kernel_rfl) rfl (fun d _ _ _ _ h=>by cases d<;>exact h) ?_ ?_
 ·rw[HV.out];exact⟨fun u a b hr h=>h.keep hr,trivial⟩
 intro bef ops hbef hops;clear hbef hops;simp only[List.take_succ_cons,List.take_zero,List.drop_succ_cons,List.drop_zero];iterate 2 (refine zgv (by rfl) (by rfl) (by rfl) (by rfl) (fun K hK=>?_);go_big_quiet_op;(first|refine hK _ ?_|refine⟨_,fun _=>rfl,hK _ ?_⟩);clear hK K)
 refine zaq (by rfl) (by rfl) (fun w1 hr hf=>?_) (fun d=>?_)
 ·refine zaa (d:=7) rfl (by simp) (fun K hK=>?_);go_step;refine(HF.out w1 (tw.trans ((Tch.drew _ W).trans hr))).mono ?_;rintro e w2 ⟨v',rfl,ho,t2⟩;refine hK _ _ ⟨⟨?_,t2⟩,zaf⟩;rw[HV.out];exact ho
 refine za6 ?_;intro w1 hr hp hap;have hv:=hp _ (List.mem_singleton.2 rfl);dsimp only at hv
 rw[HV.out]at hv;have t1:Tf W w1:=(Tch.drew _ W).trans hr;have hP1:=hP.keep t1;have tw1:=tw.trans t1;have h1z:=hP1.r.lt;have hPl:=HPL.out w1 d hv tw1 (fun g hg=>⟨hB g (by omega),by omega⟩);obtain⟨dd,rfl,_⟩:=hv;generalize decide (-y<0)=sn at *;simp only[Act.put,List.setIfInBounds_toArray,List.set_cons_succ,List.set_cons_zero];clear hap HV hp c0 c1 c2 c3 hr t1 hP tw HF HPL;go_wp2_with fail;refine hPl.mono ?_;rintro e w2 ⟨v',rfl,hR,t2⟩;have hP2:=hP1.keep t2;have tw2:=tw1.trans t2;rw[show x+ -y=x-y by omega]at hR;obtain⟨dr,rfl,hd⟩:=id hR;obtain⟨D,cd,rfl,_,_⟩:=hd.form;generalize hsr:decide (x-y<0)=sr at *;generalize hld:(dg (x-y).natAbs).length=ld at *;have r0:=hP2.r.frozen 0;have r1:=hP2.r.frozen 1;obtain⟨r2,r3⟩:=hP2.r.f2;clear hPl t2 hP1 tw1 hsr hld;go_wp2;have hbF:=(hP2.r.set_ 0 (.bool sr)).set_ 1 (.slice D ld cd);simp only[List.setIfInBounds_toArray,List.set_cons_succ,List.set_cons_zero]at hbF;(try simp only[exS]);refine zfe hbF ?_;have t3:=Tch.two w2 (z+2) (.bool sr) (.slice D ld cd);exact⟨_,rfl,hR.keepTo t3 (fun g hg hb=>⟨hb.2,hb.1⟩),tw2.trans' t3 (fun g e=>.inr (by rw[HZ.out];omega))⟩
theorem zh0 {B:Nat→Prop} {w:World} {u v:Value} {x y:Int} (hx:BigIs B w u x) (hy:BigIs B w v y) (nx:(dg x.natAbs).length≤50000) (ny:(dg y.natAbs).length≤50000) (hB:∀g,w.heap.size≤g→B g):
 Calls Tryz.prog 42 #[u,v] w fun e w'=>e=.returned (iV (if x<y then -1 else if y<x then 1 else 0))∧Tf w w':=by
 have hM:=fun(w':World) (t:Tf w w')=>zo5 (hx.keep t) (hy.keep t) nx ny (fun g hg=>hB g (Nat.le_trans t.size hg))
 have HM:=Hid.out (p:=Hid _) hM;obtain⟨du,rfl,hu⟩:=hx;obtain⟨dv,rfl,hv⟩:=hy;obtain⟨A,c,rfl,_,_⟩:=hu.form;obtain⟨A',c',rfl,_,_⟩:=hv.form;clear hM hu hv nx ny;generalize(dg x.natAbs).length=lx at *;generalize(dg y.natAbs).length=ly at *;generalize decide (x<0)=sx at *;generalize decide (y<0)=sy at *;have tw:Tf w ((w.alloc (.cells #[.bool sx,.slice A lx c] 83)).alloc (.cells #[.bool sy,.slice A' ly c'] 83)):=(Tch.alloc _ _ _).trans (Tch.alloc _ _ _);have hM:=HM.out _ tw;generalize hres:(if x<y then(-1:Int)else if y<x then 1 else 0)=res;have hlp:=fun h=>zje (n:=(x-y).natAbs) h
 have hlz:x=y→(dg (x-y).natAbs).length=0:=fun e=>by rw[show(x-y).natAbs=0 by omega,zcj];rfl
 clear HM;go_enter Tryz.func42,Tryz.ntmps42;go_wp2_with fail;refine hM.mono ?_;rintro e w1 ⟨v',rfl,⟨dr,rfl,hd⟩,t1⟩;obtain⟨D,cd,rfl,_,_⟩:=hd.form;have tw1:=(tw.trans t1).trans (Tch.alloc _ _ (.cells #[.bool (decide (x-y<0)),.slice D (dg (x-y).natAbs).length cd] 83));clear hM hd t1 tw;generalize(dg (x-y).natAbs).length=ld at *;by_cases h1:x<y
 ·have hs:decide (x-y<0)=true:=by simp;omega
  rw[hs]at tw1⊢;have hr:res= -1:=by rw[←hres,if_pos h1]
  subst hr;clear hres h1 hs hlp hlz;go_wp2;go_ret;exact⟨rfl,tw1⟩
 ·have hs:decide (x-y<0)=false:=by simp;omega
  rw[hs]at tw1⊢;by_cases h2:y<x
  ·have hl:=hlp (by omega);have hr:res=1:=by rw[←hres,if_neg h1,if_pos h2]
   subst hr;clear hres h1 h2 hs hlp hlz;go_wp2;go_ret;exact⟨rfl,tw1⟩
  ·have hl:¬0<ld:=fun h=>by
    have e:x=y:=by omega
    have:=hlz e;omega
   have hr:res=0:=by rw[←hres,if_neg h1,if_neg h2]
   subst hr;clear hres h1 h2 hs hlp hlz;go_wp2;go_ret;exact⟨rfl,tw1⟩
end Go.Proofs.YtoegobjnjljegaaGreatDoor
namespace Go.Gk
theorem zfl:∀(k:Nat) {n:Nat},n<2^k→(dg n).length≤k:=fun k=>by
 induction k with
 |zero=>
  intro m hm;have e:m=0:=by simpa using hm
  rw[e,zcj];exact Nat.le_refl _
 |succ k ih=>
  intro m hm;rcases Nat.eq_zero_or_pos m with e|e
  ·subst e;rw[zcj];exact Nat.zero_le _
  ·rw[zht e,List.length_cons];have:=ih (n:=m/10) (by rw[Nat.pow_succ]at hm;omega);omega
def zwa (l:List Int):Prop:=∀x∈l,-9223372036854775808≤x∧x≤9223372036854775807
theorem zky {l:List Int} {j:Nat} (h:j<l.length):(l.take (j+1)).sum=(l.take j).sum+l[j]:=by
 rw[List.take_succ_eq_append_getElem h,List.sum_append];simp
theorem zfu {l:List Int} (h:zwa l):∀j,j≤l.length→(l.take j).sum.natAbs≤j*9223372036854775808
 |0,_=>by simp
 |j+1,hj=>by
  have ih:=zfu h j (by omega);have hx:=h l[j] (List.getElem_mem _);rw[zky (by omega)];omega
end Go.Gk
namespace Go.Proofs.YtoegobjnjljegaaGreatDoor
open Go.RowKit Go.Gk
theorem zo6 {B:Nat→Prop} {w:World} {v:Value} {l:List Int} (hl:zae zby 1 (fun _=>True) w v l) (h64:zwa l) (hn:l.length≤10000) (hB:∀g,w.heap.size≤g→B g):
 Calls Tryz.prog 167 #[v] w fun e w'=>∃v',e=.returned v'∧BigIs B w' v' l.sum∧Tf w w':=by
 obtain⟨A,c,rfl,hc1,hc2⟩:=hl.form;have hz:=(Blk.new w 83 #[.bool false,.slice none 0 0]).alloc (.cells #[.bool false,.slice none 0 0] 83);have hb:=Blk.new2 w (.cells #[.bool false,.slice none 0 0] 83) 83 #[.bool false,.slice none 0 0];have tw:Tf w ((w.alloc (.cells #[.bool false,.slice none 0 0] 83)).alloc (.cells #[.bool false,.slice none 0 0] 83)):=(Tch.alloc _ _ _).trans (Tch.alloc _ _ _);have H64:=Hid.out (p:=Hid _) h64;clear h64;go_enter Tryz.func167,Tryz.ntmps167;go_wp2_with fail;generalize(w.alloc (.cells #[.bool false,.slice none 0 0] 83)).alloc (.cells #[.bool false,.slice none 0 0] 83)=W at *;generalize hzz:w.heap.size=z at *;have HZ:=Hid.out (p:=Hid (w.heap.size=z)) hzz;clear hzz;go_loopw [4] (fun i wr=>∃(j:Nat) (s:Bool) (dv:Value),j≤l.length∧i=.int .i64 j∧Blk wr z 83 #[.bool false,.slice none 0 0]∧Blk wr (z+1) 83 #[.bool s,dv]∧BigIs (fun g=>B g∧g≠z∧g≠z+1) wr (.agg #[.bool s,dv]) (l.take j).sum∧Tf w wr) (fun i _=>l.length-(intOf i).toNat)
 case atStart=>exact⟨0,false,_,Nat.zero_le _,rfl,hz,hb,⟨_,rfl,by rw[show dg (List.take 0 l).sum.natAbs=[] by simp[zcj]];exact Row.nil _ _ _⟩,tw⟩
 case round=>
  obtain⟨j,s,dv,hj,rfl,h1,h2,hS,ht⟩:=hrel;clear hz hb tw;have hW:=h2.lt;obtain⟨dv',e0,hdv⟩:=id hS;have e1:dv=dv':=by injection e0 with e0;simp at e0;exact e0.2
  subst e1;obtain⟨D,cd,rfl,_,_⟩:=hdv.form;have hsb:=zfu H64.out j hj;have hlen:(dg (l.take j).sum.natAbs).length≤50000:=Nat.le_trans (zfl 80 (by omega)) (by decide);clear e0 hdv;by_cases hlt:j<l.length
  ·obtain⟨g,o,rfl⟩:=hl.head (by omega);have q:=Row.elem zap (hl.keep ht) hlt (j:=0) (by decide) (u:=iV l[j]) rfl;have q:wr.cell? ⟨g,o+j,none⟩=some (iV l[j]):=by simpa using q
   have hx:=H64.out l[j] (List.getElem_mem _);have hst:=zky hlt;generalize l[j]=x at *;have HST:=Hid.out (p:=Hid _) hst;have hlt':(j:Int)<(l.length:Int):=by omega
   have hj0:=znn j;have hO:=fun(w':World) (h:wr.heap.size≤w'.heap.size)=>zft (B:=fun g=>B g∧g≠z∧g≠z+1) (w:=w') hx.1 hx.2 (fun g hg=>⟨hB g (by omega),by omega,by omega⟩)
   have hlx:(dg x.natAbs).length≤50000:=Nat.le_trans (zfl 64 (by omega)) (by decide);have hPl:=fun(w':World) (u:Value) (h:BigIs (fun g=>B g∧g≠z∧g≠z+1) w' u x) (t:Tf wr w')=>zsy (hS.keep t) h hlen hlx (fun g hg=>⟨hB g (by have:=t.size;omega),by have:=t.size;omega,by have:=t.size;omega⟩)
   have HO:=Hid.out (p:=Hid _) hO;have HPL:=Hid.out (p:=Hid _) hPl;generalize(dg (l.take j).sum.natAbs).length=ld at *
   obtain⟨V,hV⟩:∃V:Value→World→Prop,V=fun d w'=>BigIs (fun g=>B g∧g≠z∧g≠z+1) w' d x:=⟨_,rfl⟩
   have HV:=Hid.out (p:=Hid (V=_)) hV;clear hV hO hPl hst hx hsb hlen hlx hS hlt;go_wp2_with fail;obtain⟨c0,c1⟩:=h2.w2;have c2:=wc0 q;refine za4 (fun _=>False) [] 6 [(5,.inr V)] [] (by kernel_rfl) rfl (by kernel_rfl) rfl (fun d _ _ _ _ h=>by cases d<;>exact h) ?_ ?_
   ·rw[HV.out];exact⟨fun u a b hr h=>h.keep hr,trivial⟩
   intro bef ops hbef hops;clear hbef hops;simp only[List.take_succ_cons,List.take_zero,List.drop_succ_cons,List.drop_zero];iterate 5 (refine zgv (by rfl) (by rfl) (by rfl) (by rfl) (fun K hK=>?_);go_big_quiet_op;(first|refine hK _ ?_|refine⟨_,fun _=>rfl,hK _ ?_⟩);clear hK K)
   refine zaq (by rfl) (by rfl) (fun w1 hr hf=>?_) (fun d=>?_)
   ·refine zaa (d:=16) rfl (by simp) (fun K hK=>?_);go_step;refine(HO.out w1 hr.size).mono ?_;rintro e w2 ⟨v',rfl,ho,t2⟩;refine hK _ _ ⟨⟨?_,t2⟩,zaf⟩;rw[HV.out];exact ho
   refine za6 ?_;intro w1 hr hp hap;have hv:=hp _ (List.mem_singleton.2 rfl);dsimp only at hv
   rw[HV.out]at hv;have t1:Tf wr w1:=(Tch.drew _ wr).trans hr;have h1a:=h1.keep t1 id;have h2a:=h2.keep t1 id;have tw1:=ht.trans t1;have hPl:=HPL.out w1 d hv t1;obtain⟨dd,rfl,_⟩:=hv;generalize decide (x<0)=sn at *;simp only[Act.put,List.setIfInBounds_toArray,List.set_cons_succ,List.set_cons_zero];clear hap HV hp c0 c1 c2 hr t1 HO HPL h1 h2 ht q;go_wp2_with fail;refine hPl.mono ?_;rintro e w2 ⟨v',rfl,hR,t2⟩;have h1b:=h1a.keep t2 id;have h2b:=h2a.keep t2 id;have tw2:=tw1.trans t2;rw[←HST.out]at hR;obtain⟨dr,rfl,hd⟩:=id hR;generalize decide ((l.take (j+1)).sum<0)=sr at *;obtain⟨E,ce,rfl,_,_⟩:=hd.form;generalize(dg (l.take (j+1)).sum.natAbs).length=le at *;have r0:=h2b.frozen 0;have r1:=h2b.frozen 1;obtain⟨r2,r3⟩:=h2b.f2;clear hPl t2 h1a h2a tw1 hd;go_wp2;have t3:=Tch.two w2 (z+1) (.bool sr) (.slice E le ce);have hbF:=(h2b.set_ 0 (.bool sr)).set_ 1 (.slice E le ce);simp only[List.setIfInBounds_toArray,List.set_cons_succ,List.set_cons_zero]at hbF;go_roundw
   case rel=>exact⟨j+1,sr,_,by omega,by go_num,h1b.keep t3 (fun e=>by omega),hbF,hR.keepTo t3 (fun g hg hb=>⟨hb.2.2,hb⟩),tw2.trans' t3 (fun g e=>.inr (by rw[HZ.out];omega))⟩
   case measure=>simp[intOf];omega
  ·obtain rfl:l.length=j:=by omega
   rw[List.take_length]at hS hsb hlen h2;generalize hld:(dg l.sum.natAbs).length=ld at *;have r0:=h1.frozen 0;have r1:=h1.frozen 1;obtain⟨r2,r3⟩:=h1.f2;obtain⟨q0,q1⟩:=h2.f2;clear hld hsb hlen hlt;go_wp2;have t3:=Tch.two wr z (.bool s) (.slice D ld cd);have hbF:=(h1.set_ 0 (.bool s)).set_ 1 (.slice D ld cd);simp only[List.setIfInBounds_toArray,List.set_cons_succ,List.set_cons_zero]at hbF;(try simp only[exS]);refine zfe hbF ?_;exact⟨_,rfl,hS.keepTo t3 (fun g hg hb=>⟨hb.2.1,hb.1⟩),ht.trans' t3 (fun g e=>.inr (by rw[HZ.out];omega))⟩
