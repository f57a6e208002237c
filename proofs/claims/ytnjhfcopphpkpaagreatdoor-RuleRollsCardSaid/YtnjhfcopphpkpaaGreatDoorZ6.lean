/-
  The document's whole numbers, digit by digit: fewer, digits.
-/
import Derived.Test.YtnjhfcopphpkpaaGreatDoorZ4
set_option maxRecDepth 100000
set_option maxHeartbeats 3200000
namespace Go.Proofs.YtnjhfcopphpkpaaGreatDoor
open Go.RowKit Go.Gk
theorem fewer_any {B:Nat→Prop} {w:World} {va vb:Value} {la lb:List Nat} (ha:DRow B w va la) (hb:DRow B w vb lb) (da:Digs la) (db:Digs lb) (na:la.length≤100000) (hlen:lb.length≤la.length) (hle:dval lb≤dval la) (hB:∀g,w.heap.size≤g→B g):
 Calls Tryz.prog 259 #[va,vb] w fun e w'=>∃v',e=.returned v'∧DRow B w' v' (dg (dval la-dval lb))∧Tf w w':=by
 obtain⟨Aa,ca,rfl,hca1,hca2⟩:=ha.form;obtain⟨Ab,cb,rfl,hcb1,hcb2⟩:=hb.form;have HLE:=Hid.out (p:=Hid _) hle;clear hle;go_enter Tryz.func259,Tryz.ntmps259;go_wp2;go_loopw [5,6,7] (fun out borrow i wr=>∃(j c:Nat) (ol:List Nat),i=.int .i64 j∧borrow=.int .i64 c∧j≤la.length∧Fewer la lb ol j c∧wr.ownsRow w.heap.size 3 1 out ol.length (ol.flatMap digC)∧Tf w wr) (fun _ _ i _=>la.length-(intOf i).toNat)
 case atStart=>exact⟨0,0,[],rfl,rfl,Nat.zero_le _,Fewer.start _ _,World.ownsRow_nil _ _ _ _,Tch.refl _ _⟩
 case round=>
  obtain⟨j,c,ol,rfl,rfl,hj,hM,ho,ht⟩:=hrel;have hc:=hM.small;have hol:=hM.len;obtain⟨O,co,rfl,_,_,_⟩:=own_form ho;have hon:∀g,(Value.slice O ol.length co).ownBlock=some g→w.heap.size≤g:=fun g e=>(ho.lt g e).1
  have HM:=Hid.out (p:=Hid _) hM;have hol1:ol.length≤200000:=by omega
  clear hM hol;by_cases hja:j<la.length
  ·have ga:=getD_lt da j;have gb:=getD_lt db j;obtain⟨gA,oA,rfl⟩:=ha.head (by omega);have qa:=dcell (ha.keep ht) hja;have hja':(j:Int)<(la.length:Int):=by omega
   have hst:=fun d b' h1 h2 h3=>(HM.out).step (d:=d) (borrow':=b') h1 h2 h3
   by_cases hjb:j<lb.length
   ·obtain⟨gB,oB,rfl⟩:=hb.head (by omega);have qb:=dcell (hb.keep ht) hjb;have hjb':(j:Int)<(lb.length:Int):=by omega
    generalize la.getD j 0=x at *;generalize lb.getD j 0=y at *;by_cases hneg:x<c+y
    ·have hn':(x:Int)-(c:Int)-(y:Int)<0:=by omega
     have hst:=hst (x+10-c-y) 1 (by omega) (by omega) (by omega);have hu:(x:Int)-(c:Int)-(y:Int)+10=(((x+10-c-y):Nat):Int):=by omega
     have HU:=Hid.out (p:=Hid _) hu;have HST:=Hid.out (p:=Hid _) hst;have hj0:=znn j;have hx0:=znn x;have hy0:=znn y;have hc0:=znn c;have hc1:(c:Int)≤1:=by omega
     have hx1:(x:Int)<10:=by omega
     have hy1:(y:Int)<10:=by omega
     clear hst hu hja hjb hneg;(try clear g0);go_wp2_with (at_builtin;refine apd rowInts (ho.alloc _) (Go.Gk.Src.one (news:=[.int .i64 ((x:Int)-(c:Int)-(y:Int)+10)]) rfl (fun m u hu=>by rw[(Blk.new wr 3 #[.int .i64 ((x:Int)-(c:Int)-(y:Int)+10)]).cell m];simpa using hu)) (by simp;rfl) ?_;intro v2 w2 ho2 hg2 hl2;obtain⟨O2,co2,rfl,_,_,_⟩:=own_form ho2);have hb2:∀g,(Value.slice O2 (ol.length+1) co2).ownBlock=some g→w.heap.size≤g:=fun g e=>(hl2 g e).elim (hon g) (fun h=>by have:=ht.size;simp at h;omega)
     have t2:=ht.trans' ((Tch.alloc (fun k=>w.heap.size≤k) wr _).trans (Tch.grown hg2 (fun k e=>.inl (hon k e)))) (fun k hk=>.inr hk);go_roundw
     case rel=>exact⟨j+1,1,_,by go_num,rfl,by omega,HST.out,own_up (digs_snoc ho2 HU.out) hb2,t2⟩
     case measure=>simp[intOf];omega
    ·have hn':¬(x:Int)-(c:Int)-(y:Int)<0:=by omega
     have hst:=hst (x-c-y) 0 (by omega) (by omega) (by omega);have hu:(x:Int)-(c:Int)-(y:Int)=(((x-c-y):Nat):Int):=by omega
     have HU:=Hid.out (p:=Hid _) hu;have HST:=Hid.out (p:=Hid _) hst;have hj0:=znn j;have hx0:=znn x;have hy0:=znn y;have hc0:=znn c;have hc1:(c:Int)≤1:=by omega
     have hx1:(x:Int)<10:=by omega
     have hy1:(y:Int)<10:=by omega
     clear hst hu hja hjb hneg;(try clear g0);go_wp2_with (at_builtin;refine apd rowInts (ho.alloc _) (Go.Gk.Src.one (news:=[.int .i64 ((x:Int)-(c:Int)-(y:Int))]) rfl (fun m u hu=>by rw[(Blk.new wr 3 #[.int .i64 ((x:Int)-(c:Int)-(y:Int))]).cell m];simpa using hu)) (by simp;rfl) ?_;intro v2 w2 ho2 hg2 hl2;obtain⟨O2,co2,rfl,_,_,_⟩:=own_form ho2);have hb2:∀g,(Value.slice O2 (ol.length+1) co2).ownBlock=some g→w.heap.size≤g:=fun g e=>(hl2 g e).elim (hon g) (fun h=>by have:=ht.size;simp at h;omega)
     have t2:=ht.trans' ((Tch.alloc (fun k=>w.heap.size≤k) wr _).trans (Tch.grown hg2 (fun k e=>.inl (hon k e)))) (fun k hk=>.inr hk);go_roundw
     case rel=>exact⟨j+1,0,_,by go_num,rfl,by omega,HST.out,own_up (digs_snoc ho2 HU.out) hb2,t2⟩
     case measure=>simp[intOf];omega
   ·have hjb':¬(j:Int)<(lb.length:Int):=by omega
    have hjb'':decide (j<lb.length)=false:=by simpa using hjb
    have g0:=getD_out hjb;generalize la.getD j 0=x at *;generalize lb.getD j 0=y at *;by_cases hneg:x<c
    ·have hn':(x:Int)-(c:Int)<0:=by omega
     have hst:=hst (x+10-c) 1 (by omega) (by omega) (by omega);have hu:(x:Int)-(c:Int)+10=(((x+10-c):Nat):Int):=by omega
     have HU:=Hid.out (p:=Hid _) hu;have HST:=Hid.out (p:=Hid _) hst;have hj0:=znn j;have hx0:=znn x;have hy0:=znn y;have hc0:=znn c;have hc1:(c:Int)≤1:=by omega
     have hx1:(x:Int)<10:=by omega
     have hy1:(y:Int)<10:=by omega
     clear hst hu hja hjb hneg;(try clear g0);go_wp2_with (at_builtin;refine apd rowInts (ho.alloc _) (Go.Gk.Src.one (news:=[.int .i64 ((x:Int)-(c:Int)+10)]) rfl (fun m u hu=>by rw[(Blk.new wr 3 #[.int .i64 ((x:Int)-(c:Int)+10)]).cell m];simpa using hu)) (by simp;rfl) ?_;intro v2 w2 ho2 hg2 hl2;obtain⟨O2,co2,rfl,_,_,_⟩:=own_form ho2);have hb2:∀g,(Value.slice O2 (ol.length+1) co2).ownBlock=some g→w.heap.size≤g:=fun g e=>(hl2 g e).elim (hon g) (fun h=>by have:=ht.size;simp at h;omega)
     have t2:=ht.trans' ((Tch.alloc (fun k=>w.heap.size≤k) wr _).trans (Tch.grown hg2 (fun k e=>.inl (hon k e)))) (fun k hk=>.inr hk);go_roundw
     case rel=>exact⟨j+1,1,_,by go_num,rfl,by omega,HST.out,own_up (digs_snoc ho2 HU.out) hb2,t2⟩
     case measure=>simp[intOf];omega
    ·have hn':¬(x:Int)-(c:Int)<0:=by omega
     have hst:=hst (x-c) 0 (by omega) (by omega) (by omega);have hu:(x:Int)-(c:Int)=(((x-c):Nat):Int):=by omega
     have HU:=Hid.out (p:=Hid _) hu;have HST:=Hid.out (p:=Hid _) hst;have hj0:=znn j;have hx0:=znn x;have hy0:=znn y;have hc0:=znn c;have hc1:(c:Int)≤1:=by omega
     have hx1:(x:Int)<10:=by omega
     have hy1:(y:Int)<10:=by omega
     clear hst hu hja hjb hneg;(try clear g0);go_wp2_with (at_builtin;refine apd rowInts (ho.alloc _) (Go.Gk.Src.one (news:=[.int .i64 ((x:Int)-(c:Int))]) rfl (fun m u hu=>by rw[(Blk.new wr 3 #[.int .i64 ((x:Int)-(c:Int))]).cell m];simpa using hu)) (by simp;rfl) ?_;intro v2 w2 ho2 hg2 hl2;obtain⟨O2,co2,rfl,_,_,_⟩:=own_form ho2);have hb2:∀g,(Value.slice O2 (ol.length+1) co2).ownBlock=some g→w.heap.size≤g:=fun g e=>(hl2 g e).elim (hon g) (fun h=>by have:=ht.size;simp at h;omega)
     have t2:=ht.trans' ((Tch.alloc (fun k=>w.heap.size≤k) wr _).trans (Tch.grown hg2 (fun k e=>.inl (hon k e)))) (fun k hk=>.inr hk);go_roundw
     case rel=>exact⟨j+1,0,_,by go_num,rfl,by omega,HST.out,own_up (digs_snoc ho2 HU.out) hb2,t2⟩
     case measure=>simp[intOf];omega
  ·obtain rfl:la.length=j:=by omega
   have hv:=(HM.out).stop HLE.out hlen;have hr:=Row.own (P:=B) ho (fun g e=>hB g (hon g e));have hT:=trim_any hr (HM.out).digs (by omega);rw[hv]at hT;clear hja hv;go_wp2_with fail;refine hT.mono ?_;rintro e w2 ⟨v',rfl,hd,rfl⟩;go_wp2;go_ret;exact⟨_,rfl,hd,ht⟩
theorem digits_any {B B':Nat→Prop} {w:World} {va vb:Value} {m n:Nat} (ha:DRow B w va (dg m)) (hb:DRow B' w vb (dg n)):
 Calls Tryz.prog 258 #[va,vb] w fun e w'=>e=.returned (.int .i64 (if m<n then -1 else if n<m then 1 else 0))∧Tf w w':=by
 obtain⟨Aa,ca,rfl,hca1,hca2⟩:=ha.form;obtain⟨Ab,cb,rfl,hcb1,hcb2⟩:=hb.form;have h1:=fun h=>dg_len_lt (a:=m) (b:=n) h
 have h2:=fun h=>dg_len_lt (a:=n) (b:=m) h
 have hcmp:=fun hl i hi hs hlt=>dval_cmp (a:=dg m) (b:=dg n) (dg_digs m) (dg_digs n) hl (i:=i) hi hs hlt
 have hcmp':=fun hl i hi hs hlt=>dval_cmp (a:=dg n) (b:=dg m) (dg_digs n) (dg_digs m) hl (i:=i) hi hs hlt
 have hinj:=fun hl hs=>dval_inj (a:=dg m) (b:=dg n) hl hs
 have vm:=dval_dg m;have vn:=dval_dg n;rw[vm,vn]at hcmp hcmp';generalize dg m=la at *;generalize dg n=lb at *;by_cases hlt:la.length<lb.length
 ·have hr:=h1 hlt;rw[if_pos hr];have t1:((la.length:Int)==(lb.length:Int))=false:=by simp;omega
  have t1':((la.length:Int) !=(lb.length:Int))=true:=by simp;omega
  have t2:(la.length:Int)<(lb.length:Int):=by omega
  clear h1 h2 hcmp hcmp' hinj vm vn hr;go_enter Tryz.func258,Tryz.ntmps258;go_wp2;go_ret;exact⟨rfl,Tch.refl _ _⟩
 by_cases hgt:lb.length<la.length
 ·have hr:=h2 hgt;rw[if_neg (by omega),if_pos hr];have t1':((la.length:Int) !=(lb.length:Int))=true:=by simp;omega
  have t2:¬(la.length:Int)<(lb.length:Int):=by omega
  clear h1 h2 hcmp hcmp' hinj vm vn hr;go_enter Tryz.func258,Tryz.ntmps258;go_wp2;go_ret;exact⟨rfl,Tch.refl _ _⟩
 have hl:la.length=lb.length:=by omega
 have t1':((la.length:Int) !=(lb.length:Int))=false:=by simp;omega
 have HL:=Hid.out (p:=Hid _) hl;have hle1:la.length≤lb.length:=by omega
 have hc:la.length≤9223372036854775807:=by omega
 have HC:=Hid.out (p:=Hid _) hcmp;have HC':=Hid.out (p:=Hid _) hcmp';have HI:=Hid.out (p:=Hid _) hinj;have VM:=Hid.out (p:=Hid _) vm;have VN:=Hid.out (p:=Hid _) vn;clear hl h1 h2 hcmp hcmp' hinj vm vn hlt hgt;generalize hres:(if m<n then(-1:Int)else if n<m then 1 else 0)=res;have HR:=Hid.out (p:=Hid _) hres;clear hres;go_enter Tryz.func258,Tryz.ntmps258;go_wp2;go_loopw [5] (fun i wr=>∃k:Nat,k≤la.length∧i=.int .i64 ((k:Int)-1)∧(∀j,k≤j→j<la.length→la.getD j 0=lb.getD j 0)∧Tf w wr) (fun i _=>(intOf i+1).toNat)
 case atStart=>exact⟨la.length,Nat.le_refl _,rfl,fun j h1 h2=>absurd h2 (by omega),Tch.refl _ _⟩
 case round=>
  obtain⟨k,hk,rfl,hs,ht⟩:=hrel;have HS:=Hid.out (p:=Hid _) hs;clear hs;by_cases hk0:k=0
  ·subst hk0;have he:=HI.out HL.out (fun j hj=>HS.out j (Nat.zero_le _) hj);have hmn:m=n:=by rw[←VM.out,←VN.out,he]
   have hr0:res=0:=by rw[←HR.out,if_neg (by omega),if_neg (by omega)]
   subst hr0;clear he hmn;go_wp2;go_ret;exact⟨rfl,ht⟩
  ·obtain⟨k,rfl⟩:∃j,k=j+1:=⟨k-1,by omega⟩
   obtain⟨gA,oA,rfl⟩:=ha.head (by omega);obtain⟨gB,oB,rfl⟩:=hb.head (by omega);have qa:=dcell (ha.keep ht) (i:=k) (by omega);have qb:=dcell (hb.keep ht) (i:=k) (by omega);have k0:=znn k;have k1:(k:Int)<(la.length:Int):=by omega
   have k2:(k:Int)<(lb.length:Int):=by omega
   have hcm:=fun h=>HC.out HL.out k (by omega) (fun j h1 h2=>HS.out j (by omega) h2) h
   have hcm':=fun h=>HC'.out HL.out.symm k (by omega) (fun j h1 h2=>(HS.out j (by omega) (by have:=HL.out;omega)).symm) h
   have hst:la.getD k 0=lb.getD k 0→∀j,k≤j→j<la.length→la.getD j 0=lb.getD j 0:=fun e j h1 h2=>by
    by_cases ee:j=k
    ·subst ee;exact e
    ·exact HS.out j (by omega) h2
   generalize la.getD k 0=x at *;generalize lb.getD k 0=y at *;clear hk0;have HCM:=Hid.out (p:=Hid _) hcm;have HCM':=Hid.out (p:=Hid _) hcm';have HST:=Hid.out (p:=Hid _) hst;clear hcm hcm' hst;by_cases hxy:x<y
   ·have hr1:res= -1:=by rw[←HR.out,if_pos (HCM.out hxy)]
    subst hr1;have t2:(x:Int)<(y:Int):=by omega
    clear hxy;go_wp2_with fail;go_quiet (fail)
    go_wp2;(try rw[Exit.noGoto_ret]);go_ret;exact⟨rfl,ht.trans (Tch.drewN _ _ _)⟩
   ·by_cases hyx:y<x
    ·have hr1:res=1:=by have:=HCM'.out hyx;rw[←HR.out,if_neg (by omega),if_pos this]
     subst hr1;have t2:¬(x:Int)<(y:Int):=by omega
     have t3:(y:Int)<(x:Int):=by omega
     clear hxy hyx;go_wp2_with fail;go_quiet (fail)
     rename_i nq
     have t4:Tf wr (wr.drewN nq):=Tch.drewN _ _ _;have qa:=t4.cell_some qa id;have qb:=t4.cell_some qb id;have ht:=ht.trans t4;generalize wr.drewN nq=w4 at *;go_wp2_with fail;go_quiet (fail)
     go_wp2;(try rw[Exit.noGoto_ret]);go_ret;exact⟨rfl,ht.trans (Tch.drewN _ _ _)⟩
    ·obtain rfl:x=y:=by omega
     have hsn:=HST.out rfl;have HSN:=Hid.out (p:=Hid _) hsn;clear hxy hyx hsn;go_wp2_with fail;go_quiet (fail)
     rename_i nq
     have t4:Tf wr (wr.drewN nq):=Tch.drewN _ _ _;have qa:=t4.cell_some qa id;have qb:=t4.cell_some qb id;have ht:=ht.trans t4;generalize wr.drewN nq=w4 at *;go_wp2_with fail;go_quiet (fail)
     go_wp2;go_roundw
     case rel=>exact⟨k,by omega,by go_num,HSN.out,ht.trans (Tch.drewN _ _ _)⟩
     case measure=>simp[intOf]
open Go.RowKit Go.Gk
def BigIs (B:Nat→Prop) (w:World) (v:Value) (x:Int):Prop:=∃dv,v=.agg #[.bool (decide (x<0)),dv]∧DRow B w dv (dg x.natAbs)
theorem BigIs.keep {B:Nat→Prop} {w w':World} {v:Value} {x:Int} (h:BigIs B w v x) (t:Tf w w'):BigIs B w' v x:=let⟨dv,e,h⟩:=h;⟨dv,e,h.keep t⟩
theorem tmod_neg (m:Nat):(-(m:Int)).tmod 10= -((m%10:Nat):Int):=by rw[Int.neg_tmod];rfl
theorem tdiv_neg (m:Nat):(-(m:Int)).tdiv 10= -((m/10:Nat):Int):=by rw[Int.neg_tdiv];rfl
theorem dg_len64 {n:Nat} (h:n<2^64):(dg n).length≤64:=by
 have key:∀(k m:Nat),m<2^k→(dg m).length≤k:=fun k=>by
  induction k with
  |zero=>
   intro m hm;have e:m=0:=by simpa using hm
   rw[e,dg_zero];exact Nat.le_refl _
  |succ k ih=>
   intro m hm;rcases Nat.eq_zero_or_pos m with e|e
   ·subst e;rw[dg_zero];exact Nat.zero_le _
   ·rw[dg_pos e,List.length_cons];have:=ih (m/10) (by rw[Nat.pow_succ]at hm;omega);omega
 exact key 64 n h
theorem of_pos {B:Nat→Prop} {w:World} {n:Nat} (hn:(n:Int)≤9223372036854775807) (hB:∀g,w.heap.size≤g→B g):
 Calls Tryz.prog 214 #[.int .i64 ((n:Int))] w fun e w'=>∃v',e=.returned v'∧BigIs B w' v' ((n:Int))∧Tf w w':=by
 have hz:=Blk.new w 220 #[.bool false,.slice none 0 0];have hb:=Blk.new2 w (.cells #[.bool false,.slice none 0 0] 220) 220 #[.bool false,.slice none 0 0];have hz:=hz.alloc (.cells #[.bool false,.slice none 0 0] 220);have tw:Tf w _:=(tal w (.cells #[.bool false,.slice none 0 0] 220)).trans (Tch.alloc _ _ (.cells #[.bool false,.slice none 0 0] 220));have hsz:w.heap.size+2≤((w.alloc (.cells #[.bool false,.slice none 0 0] 220)).alloc (.cells #[.bool false,.slice none 0 0] 220)).heap.size:=by simp
 have hsd:decide (((n:Int):Int)<0)=false:=by simp
 have hna:((n:Int):Int).natAbs=n:=by omega
 unfold BigIs;rw[hsd,hna];have HNA:=Hid.out (p:=Hid _) hna;clear hna;have hn0:¬(n:Int)<0:=by omega
 go_enter Tryz.func214,Tryz.ntmps214;go_wp2_with fail;generalize((w.alloc (.cells #[.bool false,.slice none 0 0] 220)).alloc (.cells #[.bool false,.slice none 0 0] 220))=W at *;generalize hzz:w.heap.size=z at *;have HZ:=Hid.out (p:=Hid (w.heap.size=z)) hzz;clear hzz hn0 hsd;go_loopw [4] (fun x wr=>∃(m:Nat) (ol:List Nat) (ov:Value),x=.int .i64 ((m:Int))∧m≤n∧ol++dg m=dg n∧Blk wr z 220 #[.bool false,.slice none 0 0]∧Blk wr (z+1) 220 #[.bool false,ov]∧wr.ownsRow (z+2) 3 1 ov ol.length (ol.flatMap digC)∧Tf w wr) (fun x _=>(intOf x).natAbs)
 case atStart=>exact⟨n,[],_,rfl,Nat.le_refl _,rfl,hz,hb,World.ownsRow_nil _ _ _ _,tw⟩
 case round=>
  obtain⟨m,ol,ov,rfl,hmn,hdg,h1,h2,ho,ht⟩:=hrel;have hW:=h2.lt;clear hz hb tw hsz;obtain⟨O,co,rfl,_,_,_⟩:=own_form ho;have hon:∀g,(Value.slice O ol.length co).ownBlock=some g→z+2≤g:=fun g e=>(ho.lt g e).1
  have q1:=h2.at1;have q0:=h2.at0
  have hlen:ol.length≤64:=by
   have e:=congrArg List.length hdg;rw[List.length_append]at e;have:=dg_len64 (show n<2^64 from by omega);omega
  by_cases hm:m=0
  ·subst hm;rw[dg_zero,List.append_nil]at hdg;have r0:=h1.frozen 0;have r1:=h1.frozen 1;obtain⟨r2,r3⟩:=h1.f2;have HDG:=Hid.out (p:=Hid _) hdg;clear hdg hmn;go_wp2;have hbF:=(h1.set_ 0 (.bool false)).set_ 1 (.slice O ol.length co);simp only[List.setIfInBounds_toArray,List.set_cons_succ,List.set_cons_zero]at hbF;(try simp only[exS]);refine retR hbF ?_;have t2:Tch (fun g=>g=z) wr ((wr.setCell ⟨z,0,none⟩ (.bool false)).setCell ⟨z,1,none⟩ (.slice O ol.length co)):=(Tch.setCell (F:=fun g=>g=z) wr (p:=⟨z,0,none⟩) (.inl rfl) _).trans (Tch.setCell (F:=fun g=>g=z) _ (p:=⟨z,1,none⟩) (.inl rfl) _);have ho2:=t2.own ho (fun g e e2=>by have:=hon g e;omega);exact⟨_,rfl,⟨_,rfl,by rw[←HDG.out];exact Row.own ho2 (fun g e=>hB g (by have:=hon g e;omega))⟩,ht.trans' t2 (fun g e=>.inr (by rw[HZ.out];omega))⟩
  ·have hmp:0<m:=Nat.pos_of_ne_zero hm;rw[dg_pos hmp]at hdg;have hdg':(ol++[m%10])++dg (m/10)=dg n:=by rw[←hdg];simp
   have HDG:=Hid.out (p:=Hid _) hdg';have HM10:m/10<m:=by omega
   have r1:=h2.frozen 1;clear hdg hdg';have hd:(m:Int)%10=((m%10:Nat):Int):=by omega
   have hq:(m:Int)/10=((m/10:Nat):Int):=by omega
   have hmne:((m:Int) !=0)=true:=by simp;omega
   have hd0:¬(m:Int)%10<0:=by omega
   have hm1:(0:Int)≤(m:Int):=by omega
   have HD:=Hid.out (p:=Hid _) hd;have HQ:=Hid.out (p:=Hid _) hq;clear hd hq hm;go_wp2_with (at_builtin;refine apd rowInts (ho.alloc _) (Go.Gk.Src.one (news:=[.int .i64 ((m:Int)%10)]) rfl (fun k u hu=>by rw[(Blk.new wr 3 #[.int .i64 ((m:Int)%10)]).cell k];simpa using hu)) (by simp;rfl) ?_;intro v2 w2 ho2 hg2 hl2;obtain⟨O2,co2,rfl,_,_,_⟩:=own_form ho2;have c9:w2.cell? ⟨z+1,1,none⟩=some (.slice O ol.length co):=(h2.keep ((Tch.alloc (fun k=>z+2≤k) wr _).trans (Tch.grown hg2 (fun k e=>.inl (hon k e)))) (by show¬z+2≤z+1;omega)).cell 1;have f9:=(h2.keep ((Tch.alloc (fun k=>z+2≤k) wr _).trans (Tch.grown hg2 (fun k e=>.inl (hon k e)))) (by show¬z+2≤z+1;omega)).frozen 1);have hb2:∀g,(Value.slice O2 (ol.length+1) co2).ownBlock=some g→z+2≤g:=fun g e=>(hl2 g e).elim (hon g) (fun h=>by simp at h;omega)
   have tg:Tch (fun k=>z+2≤k) wr w2:=(Tch.alloc (fun k=>z+2≤k) wr _).trans (Tch.grown hg2 (fun k e=>.inl (hon k e)));have h1':=h1.keep tg (by show¬z+2≤z;omega);have h2':=h2.keep tg (by show¬z+2≤z+1;omega);have c1:=h2'.cell 1;have f1:=h2'.frozen 1;go_wp2;have ts:Tch (fun g=>g=z+1) w2 (w2.setCell ⟨z+1,1,none⟩ (.slice O2 (ol.length+1) co2)):=Tch.setCell (F:=fun g=>g=z+1) w2 (p:=⟨z+1,1,none⟩) (.inl rfl) _;have h2s:=h2'.set_ 1 (.slice O2 (ol.length+1) co2);simp only[List.setIfInBounds_toArray,List.set_cons_succ,List.set_cons_zero]at h2s;have ho3:=ts.own (own_up (digs_snoc (d:=m%10) ho2 HD.out) hb2) (fun g e e2=>by have:=hb2 g (by simpa using e);omega);go_roundw
   case rel=>exact⟨m/10,ol++[m%10],_,by rw[HQ.out],by omega,HDG.out,h1'.keep ts (fun e=>by omega),by simpa using h2s,by simpa using ho3,(ht.trans' tg (fun k hk=>.inr (by rw[HZ.out];omega))).trans' ts (fun k hk=>.inr (by rw[HZ.out];omega))⟩
   case measure=>simp[intOf];omega
theorem of_neg {B:Nat→Prop} {w:World} {n:Nat} (hn:(n:Int)≤9223372036854775808) (hn1:0<n) (hB:∀g,w.heap.size≤g→B g):
 Calls Tryz.prog 214 #[.int .i64 (-(n:Int))] w fun e w'=>∃v',e=.returned v'∧BigIs B w' v' (-(n:Int))∧Tf w w':=by
 have hz:=Blk.new w 220 #[.bool false,.slice none 0 0];have hb:=Blk.new2 w (.cells #[.bool false,.slice none 0 0] 220) 220 #[.bool true,.slice none 0 0];have hz:=hz.alloc (.cells #[.bool true,.slice none 0 0] 220);have tw:Tf w _:=(tal w (.cells #[.bool false,.slice none 0 0] 220)).trans (Tch.alloc _ _ (.cells #[.bool true,.slice none 0 0] 220));have hsz:w.heap.size+2≤((w.alloc (.cells #[.bool false,.slice none 0 0] 220)).alloc (.cells #[.bool true,.slice none 0 0] 220)).heap.size:=by simp
 have hsd:decide ((-(n:Int):Int)<0)=true:=by simp;omega
 have hna:(-(n:Int):Int).natAbs=n:=by omega
 unfold BigIs;rw[hsd,hna];have HNA:=Hid.out (p:=Hid _) hna;clear hna;have hn0: -(n:Int)<0:=by omega
 go_enter Tryz.func214,Tryz.ntmps214;go_wp2_with fail;generalize((w.alloc (.cells #[.bool false,.slice none 0 0] 220)).alloc (.cells #[.bool true,.slice none 0 0] 220))=W at *;generalize hzz:w.heap.size=z at *;have HZ:=Hid.out (p:=Hid (w.heap.size=z)) hzz;clear hzz hn0 hsd;go_loopw [4] (fun x wr=>∃(m:Nat) (ol:List Nat) (ov:Value),x=.int .i64 (-(m:Int))∧m≤n∧ol++dg m=dg n∧Blk wr z 220 #[.bool false,.slice none 0 0]∧Blk wr (z+1) 220 #[.bool true,ov]∧wr.ownsRow (z+2) 3 1 ov ol.length (ol.flatMap digC)∧Tf w wr) (fun x _=>(intOf x).natAbs)
 case atStart=>exact⟨n,[],_,rfl,Nat.le_refl _,rfl,hz,hb,World.ownsRow_nil _ _ _ _,tw⟩
 case round=>
  obtain⟨m,ol,ov,rfl,hmn,hdg,h1,h2,ho,ht⟩:=hrel;have hW:=h2.lt;clear hz hb tw hsz;obtain⟨O,co,rfl,_,_,_⟩:=own_form ho;have hon:∀g,(Value.slice O ol.length co).ownBlock=some g→z+2≤g:=fun g e=>(ho.lt g e).1
  have q1:=h2.at1;have q0:=h2.at0
  have hlen:ol.length≤64:=by
   have e:=congrArg List.length hdg;rw[List.length_append]at e;have:=dg_len64 (show n<2^64 from by omega);omega
  by_cases hm:m=0
  ·subst hm;rw[dg_zero,List.append_nil]at hdg;have r0:=h1.frozen 0;have r1:=h1.frozen 1;obtain⟨r2,r3⟩:=h1.f2;have HDG:=Hid.out (p:=Hid _) hdg;clear hdg hmn;go_wp2;have hbF:=(h1.set_ 0 (.bool true)).set_ 1 (.slice O ol.length co);simp only[List.setIfInBounds_toArray,List.set_cons_succ,List.set_cons_zero]at hbF;(try simp only[exS]);refine retR hbF ?_;have t2:Tch (fun g=>g=z) wr ((wr.setCell ⟨z,0,none⟩ (.bool true)).setCell ⟨z,1,none⟩ (.slice O ol.length co)):=(Tch.setCell (F:=fun g=>g=z) wr (p:=⟨z,0,none⟩) (.inl rfl) _).trans (Tch.setCell (F:=fun g=>g=z) _ (p:=⟨z,1,none⟩) (.inl rfl) _);have ho2:=t2.own ho (fun g e e2=>by have:=hon g e;omega);exact⟨_,rfl,⟨_,rfl,by rw[←HDG.out];exact Row.own ho2 (fun g e=>hB g (by have:=hon g e;omega))⟩,ht.trans' t2 (fun g e=>.inr (by rw[HZ.out];omega))⟩
  ·have hmp:0<m:=Nat.pos_of_ne_zero hm;rw[dg_pos hmp]at hdg;have hdg':(ol++[m%10])++dg (m/10)=dg n:=by rw[←hdg];simp
   have HDG:=Hid.out (p:=Hid _) hdg';have HM10:m/10<m:=by omega
   have r1:=h2.frozen 1;clear hdg hdg';have hd:=tmod_neg m;have hq:=tdiv_neg m;have hmne:((-(m:Int)) !=0)=true:=by simp;omega
   have hmz:(m==0)=false:=by simp;omega
   have hm2:(m:Int)≤9223372036854775808:=by omega
   have hq2:((m/10:Nat):Int)=(m:Int)/10:=by omega
   have HQ:=Hid.out (p:=Hid _) hq2;have hm1:(0:Int)≤(m:Int):=by omega
   clear hm hq2;by_cases hr:(0:Int)<(m:Int)%10
   ·have hd2:(m:Int)%10=((m%10:Nat):Int):=by omega
    have HD:=Hid.out (p:=Hid _) hd2;clear hd2;go_wp2_with (at_builtin;refine apd rowInts (ho.alloc _) (Go.Gk.Src.one (news:=[.int .i64 ((m:Int)%10)]) rfl (fun k u hu=>by rw[(Blk.new wr 3 #[.int .i64 ((m:Int)%10)]).cell k];simpa using hu)) (by simp;rfl) ?_;intro v2 w2 ho2 hg2 hl2;obtain⟨O2,co2,rfl,_,_,_⟩:=own_form ho2;have c9:w2.cell? ⟨z+1,1,none⟩=some (.slice O ol.length co):=(h2.keep ((Tch.alloc (fun k=>z+2≤k) wr _).trans (Tch.grown hg2 (fun k e=>.inl (hon k e)))) (by show¬z+2≤z+1;omega)).cell 1;have f9:=(h2.keep ((Tch.alloc (fun k=>z+2≤k) wr _).trans (Tch.grown hg2 (fun k e=>.inl (hon k e)))) (by show¬z+2≤z+1;omega)).frozen 1);have hb2:∀g,(Value.slice O2 (ol.length+1) co2).ownBlock=some g→z+2≤g:=fun g e=>(hl2 g e).elim (hon g) (fun h=>by simp at h;omega)
    have tg:Tch (fun k=>z+2≤k) wr w2:=(Tch.alloc (fun k=>z+2≤k) wr _).trans (Tch.grown hg2 (fun k e=>.inl (hon k e)));have h1':=h1.keep tg (by show¬z+2≤z;omega);have h2':=h2.keep tg (by show¬z+2≤z+1;omega);have c1:=h2'.cell 1;have f1:=h2'.frozen 1;go_wp2;have ts:Tch (fun g=>g=z+1) w2 (w2.setCell ⟨z+1,1,none⟩ (.slice O2 (ol.length+1) co2)):=Tch.setCell (F:=fun g=>g=z+1) w2 (p:=⟨z+1,1,none⟩) (.inl rfl) _;have h2s:=h2'.set_ 1 (.slice O2 (ol.length+1) co2);simp only[List.setIfInBounds_toArray,List.set_cons_succ,List.set_cons_zero]at h2s;have ho3:=ts.own (own_up (digs_snoc (d:=m%10) ho2 HD.out) hb2) (fun g e e2=>by have:=hb2 g (by simpa using e);omega);go_roundw
    case rel=>exact⟨m/10,ol++[m%10],_,by rw[HQ.out],by omega,HDG.out,h1'.keep ts (fun e=>by omega),by simpa using h2s,by simpa using ho3,(ht.trans' tg (fun k hk=>.inr (by rw[HZ.out];omega))).trans' ts (fun k hk=>.inr (by rw[HZ.out];omega))⟩
    case measure=>simp[intOf];omega
   ·have hr0:(m:Int)%10=0:=by omega
    have hd2:(0:Int)=((m%10:Nat):Int):=by omega
    have HD:=Hid.out (p:=Hid _) hd2;clear hd2 hr;go_wp2_with (at_builtin;refine apd rowInts (ho.alloc _) (Go.Gk.Src.one (news:=[.int .i64 (0)]) rfl (fun k u hu=>by rw[(Blk.new wr 3 #[.int .i64 (0)]).cell k];simpa using hu)) (by simp;rfl) ?_;intro v2 w2 ho2 hg2 hl2;obtain⟨O2,co2,rfl,_,_,_⟩:=own_form ho2;have c9:w2.cell? ⟨z+1,1,none⟩=some (.slice O ol.length co):=(h2.keep ((Tch.alloc (fun k=>z+2≤k) wr _).trans (Tch.grown hg2 (fun k e=>.inl (hon k e)))) (by show¬z+2≤z+1;omega)).cell 1;have f9:=(h2.keep ((Tch.alloc (fun k=>z+2≤k) wr _).trans (Tch.grown hg2 (fun k e=>.inl (hon k e)))) (by show¬z+2≤z+1;omega)).frozen 1);have hb2:∀g,(Value.slice O2 (ol.length+1) co2).ownBlock=some g→z+2≤g:=fun g e=>(hl2 g e).elim (hon g) (fun h=>by simp at h;omega)
    have tg:Tch (fun k=>z+2≤k) wr w2:=(Tch.alloc (fun k=>z+2≤k) wr _).trans (Tch.grown hg2 (fun k e=>.inl (hon k e)));have h1':=h1.keep tg (by show¬z+2≤z;omega);have h2':=h2.keep tg (by show¬z+2≤z+1;omega);have c1:=h2'.cell 1;have f1:=h2'.frozen 1;go_wp2;have ts:Tch (fun g=>g=z+1) w2 (w2.setCell ⟨z+1,1,none⟩ (.slice O2 (ol.length+1) co2)):=Tch.setCell (F:=fun g=>g=z+1) w2 (p:=⟨z+1,1,none⟩) (.inl rfl) _;have h2s:=h2'.set_ 1 (.slice O2 (ol.length+1) co2);simp only[List.setIfInBounds_toArray,List.set_cons_succ,List.set_cons_zero]at h2s;have ho3:=ts.own (own_up (digs_snoc (d:=m%10) ho2 HD.out) hb2) (fun g e e2=>by have:=hb2 g (by simpa using e);omega);go_roundw
    case rel=>exact⟨m/10,ol++[m%10],_,by rw[HQ.out],by omega,HDG.out,h1'.keep ts (fun e=>by omega),by simpa using h2s,by simpa using ho3,(ht.trans' tg (fun k hk=>.inr (by rw[HZ.out];omega))).trans' ts (fun k hk=>.inr (by rw[HZ.out];omega))⟩
    case measure=>simp[intOf];omega
