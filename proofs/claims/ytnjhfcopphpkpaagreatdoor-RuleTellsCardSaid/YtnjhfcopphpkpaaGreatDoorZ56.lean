/-
  The document's numbers: division.
-/
import Derived.Test.YtnjhfcopphpkpaaGreatDoorZ20
import Derived.Test.YtnjhfcopphpkpaaGreatDoorZ55
set_option maxRecDepth 100000
set_option maxHeartbeats 12800000
namespace Go.Gk
open Go.RowKit
theorem zjr {P:Program} {fn:Func} {p q:Tmp} {ty:TypeId} (h:fn.results= #[.cell p ty,.cell q ty]) (tmps:Array Value) (w:World) (g g2:Nat) (t t2:TypeId) (cs cs2:Array Value) (fr fr2:Nat×Nat) (d:TypeDesc)
 (hp:tmps.getD p undef=.pointer (some ⟨g,0,none⟩)) (hg:w.heap[g]?=some (.cells cs t fr))
 (hq:tmps.getD q undef=.pointer (some ⟨g2,0,none⟩)) (hg2:w.heap[g2]?=some (.cells cs2 t2 fr2))
 (hu:P.underlying ty=some d) (hd:(match d with | .struct _| .array _ _=>true|_=>false)=true) (hi:(P.info? ty).map (·.size)=some cs.size) (hi2:(P.info? ty).map (·.size)=some cs2.size):
 (results fn tmps).run P w=.ok (.tuple #[.agg cs,.agg cs2]) w:=by
 have e:(results fn tmps).run P w=((asAddr (tmps.getD p undef)).run P w).andThen fun a w₁=>((loadVar ty a).run P w₁).andThen fun v0 w₂=>((asAddr (tmps.getD q undef)).run P w₂).andThen fun a2 w₃=>((loadVar ty a2).run P w₃).andThen fun v1 w₄=>.ok (.tuple #[v0,v1]) w₄:=by
  simp only[results,h];simp[Sem.run_bind,Result.andThen]
 rw[e,hp,hq];simp[asAddr,run_loadVar_row w g t ty cs fr d hg hu hd hi,run_loadVar_row w g2 t2 ty cs2 fr2 d hg2 hu hd hi2,Result.andThen]
theorem zhe {m n:Nat} (h:m≤n):(dg m).length≤(dg n).length:=by
 rcases Nat.lt_or_ge (dg n).length (dg m).length with h1|h1
 ·have:=zey h1;omega
 ·exact h1
theorem ztp {w:World} {base:Nat} {e:TypeId} {size n g:Nat} {cs:Array Value} (h:Blk w g e cs) (hb:base≤g) (hs:cs.size=n*size) (hn:n≤maxLen):w.ownsRow base e size (.slice (some ⟨g,0,none⟩) n n) n cs.toList:=
 ⟨by rw[Array.length_toList];exact hs,.inr ⟨g,n,cs,rfl,hb,h,Nat.le_refl _,hn,hs,by rw[List.take_of_length_le (by rw[Array.length_toList];omega)]⟩⟩
theorem zvj {l:List Nat} {j:Nat} (h:j<l.length):zbe (l.drop j)=l.getD j 0+10*zbe (l.drop (j+1)):=by
 rw[List.drop_eq_getElem_cons h];simp[zbe,h]
end Go.Gk
namespace Go.Proofs.YtnjhfcopphpkpaaGreatDoor
open Go.RowKit Go.Gk
theorem zsl {B:Nat→Prop} {w:World} {u v:Value} {a b:Nat} (ha:BigIs B w u (a:Int)) (hb:BigIs B w v (b:Int)) (hB:∀g,w.heap.size≤g→B g) (hb0:0<b) (na:(dg a).length≤90000) (nb:(dg b).length≤90000):
 Calls Tryz.prog 318 #[u,v] w fun e w'=>∃x y,e=.returned (.tuple #[x,y])∧BigIs B w' x ((a/b:Nat):Int)∧BigIs B w' y ((a%b:Nat):Int)∧Tf w w':=by
 obtain⟨du,rfl,hu⟩:=ha;obtain⟨dv,rfl,hv⟩:=hb;simp only[Int.natAbs_natCast]at hu hv;have ea:decide ((a:Int)<0)=false:=by simp
 have eb:decide ((b:Int)<0)=false:=by simp
 rw[ea,eb];obtain⟨Aa,ca,rfl,ha1,ha2⟩:=hu.form;obtain⟨Ab,cb,rfl,hb1,hb2⟩:=hv.form;have t1:=tal w (.cells #[.bool false,.slice Aa (dg a).length ca] 220);have t2:=tal (w.alloc (.cells #[.bool false,.slice Aa (dg a).length ca] 220)) (.cells #[.bool false,.slice Ab (dg b).length cb] 220);have t3:=tal ((w.alloc (.cells #[.bool false,.slice Aa (dg a).length ca] 220)).alloc (.cells #[.bool false,.slice Ab (dg b).length cb] 220)) (.cells #[.bool false,.slice none 0 0] 220);have t4:=tal (((w.alloc (.cells #[.bool false,.slice Aa (dg a).length ca] 220)).alloc (.cells #[.bool false,.slice Ab (dg b).length cb] 220)).alloc (.cells #[.bool false,.slice none 0 0] 220)) (.cells #[.bool false,.slice none 0 0] 220);have tw:=((t1.trans t2).trans t3).trans t4;have bA:=(((Blk.new w 220 #[.bool false,.slice Aa (dg a).length ca]).keep t2 id).keep t3 id).keep t4 id;have bB:=((Blk.new2 w (.cells #[.bool false,.slice Aa (dg a).length ca] 220) 220 #[.bool false,.slice Ab (dg b).length cb]).keep t3 id).keep t4 id;have bQ:Blk ((((w.alloc (.cells #[.bool false,.slice Aa (dg a).length ca] 220)).alloc (.cells #[.bool false,.slice Ab (dg b).length cb] 220)).alloc (.cells #[.bool false,.slice none 0 0] 220)).alloc (.cells #[.bool false,.slice none 0 0] 220)) (w.heap.size+1+1) 220 #[.bool false,.slice none 0 0]:=(show Blk (((w.alloc (.cells #[.bool false,.slice Aa (dg a).length ca] 220)).alloc (.cells #[.bool false,.slice Ab (dg b).length cb] 220)).alloc (.cells #[.bool false,.slice none 0 0] 220)) (w.heap.size+1+1) 220 #[.bool false,.slice none 0 0] by simpa using Blk.new ((w.alloc (.cells #[.bool false,.slice Aa (dg a).length ca] 220)).alloc (.cells #[.bool false,.slice Ab (dg b).length cb] 220)) 220 #[.bool false,.slice none 0 0]).keep t4 id;have bR:Blk ((((w.alloc (.cells #[.bool false,.slice Aa (dg a).length ca] 220)).alloc (.cells #[.bool false,.slice Ab (dg b).length cb] 220)).alloc (.cells #[.bool false,.slice none 0 0] 220)).alloc (.cells #[.bool false,.slice none 0 0] 220)) (w.heap.size+1+1+1) 220 #[.bool false,.slice none 0 0]:=by simpa using Blk.new (((w.alloc (.cells #[.bool false,.slice Aa (dg a).length ca] 220)).alloc (.cells #[.bool false,.slice Ab (dg b).length cb] 220)).alloc (.cells #[.bool false,.slice none 0 0] 220)) 220 #[.bool false,.slice none 0 0]
 have HU:=Lib.hid hu;have HV:=Lib.hid hv;have f1:=bA.at1;have hDig:=zbh a;have HDV:=Lib.hid (za0 a);clear t1 t2 t3 t4 hu hv ea eb;generalize dg a=D at *;have hsz:((((w.alloc (.cells #[.bool false,.slice Aa (D).length ca] 220)).alloc (.cells #[.bool false,.slice Ab (dg b).length cb] 220)).alloc (.cells #[.bool false,.slice none 0 0] 220)).alloc (.cells #[.bool false,.slice none 0 0] 220)).heap.size=w.heap.size+4:=by simp
 have hw1:wrap64 ((D.length:Int)-1)=(D.length:Int)-1:=by unfold wrap64;omega
 go_enter Tryz.func318,Tryz.ntmps318;go_wp2_with fail;generalize(((w.alloc (.cells #[.bool false,.slice Aa (D).length ca] 220)).alloc (.cells #[.bool false,.slice Ab (dg b).length cb] 220)).alloc (.cells #[.bool false,.slice none 0 0] 220)).alloc _=W at *;generalize hzw:w.heap.size=z at *;have HZW:=Lib.hid hzw;clear hzw;have hvb:=HV.out;clear f1;go_loopw [6,7,8] (fun q r i wr=>∃(j R Q:Nat) (ql:List Nat),j≤D.length∧i=.int .i64 ((j:Int)-1)∧(zbe (D.drop j)=Q*b+R∧R<b)∧(Digs ql∧zbe ql=Q∧ql.length+j=D.length)∧zfc (fun g=>B g∧g≠z+1+1∧g≠z+1+1+1) wr q ql∧zfc (fun g=>B g∧g≠z+1+1∧g≠z+1+1+1) wr r (dg R)∧Tf W wr) (fun _ _ i _=>((intOf i)+1).toNat)
 case atStart=>exact⟨D.length,0,0,[],Nat.le_refl _,rfl,⟨by simp[zbe],hb0⟩,⟨fun _ h=>(by cases h),rfl,by simp⟩,Row.nil _ _ _,by rw[zcj];exact Row.nil _ _ _,Tch.refl _ _⟩
 case round=>
  obtain⟨j,R,Q,ql,hj,rfl,⟨hval,hRb⟩,⟨hqd,hqv,hql⟩,hq,hr,ht⟩:=hrel;obtain⟨Aq,cq,rfl,hcq1,hcq2⟩:=hq.form;obtain⟨Ar,cr,rfl,hcr1,hcr2⟩:=hr.form;have HVAL:=Lib.hid hval;have HQV:=Lib.hid hqv;have bAr:=bA.keep ht id;have bBr:=bB.keep ht id;clear hval hqv
  cases j with
  |zero=>
   have hlt:¬(0:Int)≤((0:Nat):Int)-1:=by omega
   have HTR:=Lib.hid (zil hq hqd (by omega));have HEQ:=Lib.hid (show a=Q*b+R by rw[←HDV.out,←HVAL.out];rfl);have g0:=bAr.at0;have bQr:=bQ.keep ht id;have bRr:=bR.keep ht id;have HRR:=Lib.hid hr;rw[HQV.out]at HTR;have hzb:z+1+1+1<wr.heap.size:=bRr.lt;have Tr:=tw.trans ht;have HBA:=Lib.hid (show∀g,(Value.slice Ar (dg R).length cr).ownBlock=some g→True from fun _ _=>trivial);clear bA bB bQ bR HU HV HVAL HQV hq hr ht tw bAr bBr hqd hql HBA;go_wp2_with fail;refine HTR.out.mono ?_;rintro _ _ ⟨q',rfl,hq',rfl⟩;obtain⟨Aq',cq',rfl,_,_⟩:=hq'.form;clear HTR;go_wp2_with (refine stK (z+1+1) #[.bool false,.slice Aq' (dg Q).length cq'] bQr ?_);intro w5 bQ5 ts5;have bR5:=bRr.keep ts5 (by omega);have hq5:=Row.keepTo (P':=fun g=>B g∧g≠z+1+1∧g≠z+1+1+1) hq' ts5 (fun g _ hg=>⟨fun e=>hg.2.1 e,hg⟩);have hr5:=Row.keepTo (P':=fun g=>B g∧g≠z+1+1∧g≠z+1+1+1) HRR.out ts5 (fun g _ hg=>⟨fun e=>hg.2.1 e,hg⟩);have T5:=Tr.trans' ts5 (fun i hi=>.inr (by have hi:i=z+1+1:=hi;have:=HZW.out;omega));clear bQr bRr ts5;go_wp2_with (refine stK (z+1+1+1) #[.bool false,.slice Ar (dg R).length cr] bR5 ?_);intro w6 bR6 ts6;have HB1:=Lib.hid (bQ5.keep ts6 (by omega));have HB2:=Lib.hid bR6;have T6:=T5.trans' ts6 (fun i hi=>.inr (by have hi:i=z+1+1+1:=hi;have:=HZW.out;omega));have HQ6:=Lib.hid (Row.keepTo (P':=B) hq5 ts6 (fun g _ hg=>⟨fun e=>hg.2.2 e,hg.1⟩));have HR6:=Lib.hid (Row.keepTo (P':=B) hr5 ts6 (fun g _ hg=>⟨fun e=>hg.2.2 e,hg.1⟩));clear bQ5 bR5 bR6 ts6 T5 g0 hq5 hr5 hq';go_wp2;(try simp only[Exit.inBlock,Exit.then]);(try rw[Exit.noGoto_ret]);refine bodyPost_ret (zjr (P:=Tryz.prog) rfl _ _ (z+1+1) (z+1+1+1) 220 220 _ _ (0,0) (0,0) _ rfl HB1.out rfl HB2.out Tryz.underlying220 rfl (by kernel_rfl) (by kernel_rfl)) rfl ?_;obtain⟨e1,e2⟩:=(Nat.div_mod_unique hb0).2 (show R+b*Q=a∧R<b from⟨by rw[HEQ.out,Nat.mul_comm b Q];omega,hRb⟩);rw[e1,e2];refine⟨_,_,rfl,⟨_,by rw[show decide (((Q:Nat):Int)<0)=false by simp],?_⟩,⟨_,by rw[show decide (((R:Nat):Int)<0)=false by simp],?_⟩,T6⟩
   ·simp only[Int.natAbs_natCast];exact HQ6.out
   ·simp only[Int.natAbs_natCast];exact HR6.out
  |succ j=>
   have hjj:(((j+1:Nat):Int)-1)=(j:Int):=by omega
   rw[hjj];have hj0:=znn j;have hj1:(j:Int)<(D.length:Int):=by omega
   have hua:=HU.out.keep (tw.trans ht);obtain⟨gA,oA,rfl⟩:=hua.head (by omega);have q0:=zjf hua (show j<D.length by omega)
   have hdd:D.getD j 0<10:=by
    have h1:D.getD j 0=D[j]:=by simp[show j<D.length by omega]
    rw[h1];exact hDig _ (List.getElem_mem _)
   have HDR:=Lib.hid (zvj (l:=D) (j:=j) (by omega));generalize D.getD j 0=d at *;have g1:=bAr.at1;have tD:=tal wr (.cells #[iV (d:Int)] 3);have hrD:=hr.keep tD;have hownD:=ztp (base:=0) (size:=1) (n:=1) (Blk.new wr 3 #[iV (d:Int)]) (Nat.zero_le _) rfl (by decide);have HLR:=Lib.hid (show(dg R).length≤(dg b).length from zhe (by omega));have hRl:(dg R).length≤90000:=Nat.le_trans HLR.out nb;have hszr:=ht.size;clear hua;go_wp2_with (at_builtin;refine Hid.out ?_);refine Lib.hid ?_;refine apd zaj hownD hrD.src (by intro u9 hu9;obtain⟨x9,_,hx9⟩:=List.mem_flatMap.1 hu9;simp[zq3]at hx9;subst hx9;rfl) ?_;intro v2 w2 ho2 hg2 hl2
   have hb2:∀g,v2.ownBlock=some g→B g∧g≠z+1+1∧g≠z+1+1+1:=fun g hg=>by
    rcases hl2 g hg with h9|h9
    ·have h9:some wr.heap.size=some g:=h9;injection h9 with h9;have:=HZW.out;exact⟨hB g (by omega),by omega,by omega⟩
    ·simp at h9;have:=HZW.out;exact⟨hB g (by omega),by omega,by omega⟩
   have hrow:zfc (fun g=>B g∧g≠z+1+1∧g≠z+1+1+1) w2 v2 (d::dg R):=by
    have h:=Row.own (P:=fun g=>B g∧g≠z+1+1∧g≠z+1+1+1) ho2 hb2;have e9:1+(dg R).length=(d::dg R).length:=by simp[Nat.add_comm]
    unfold zfc zae;rw[←e9];simpa[zq3]using h
   have tg:Tch (fun k=>wr.heap.size≤k) _ w2:=Tch.grown hg2 (fun k hk=>.inl (by have hk:some wr.heap.size=some k:=hk;injection hk with hk;omega));have t2:=tD.trans' tg (fun i hi=>.inr hi)
   have hdS:Digs (d::dg R):=fun e he=>by
    rcases List.mem_cons.1 he with h|h
    ·omega
    ·exact zbh R e h
   have HTR:=Lib.hid (zil hrow hdS (by simp;omega));have hSv:zbe (d::dg R)=d+10*R:=by rw[zbe,za0]
   rw[hSv]at HTR;have ht2:=ht.trans t2;have hq2:=hq.keep t2;have bA2:=bAr.keep t2 id;have bB2:=bBr.keep t2 id;have HRB:=Lib.hid hRb;have HDD:=Lib.hid hdd
   obtain⟨S,hS⟩:∃S,d+10*R=S:=⟨_,rfl⟩
   have HS:=Lib.hid hS;rw[hS]at HTR;have hSb:S<10*b:=by omega
   have HSB:=Lib.hid hSb;have HVB:=Lib.hid (fun wx (t9:Tf w2 wx)=>Row.keepTo (P':=fun g=>B g∧g≠z+1+1∧g≠z+1+1+1) HV.out ((tw.trans ht2).trans t9) (fun g hlt hg=>⟨id,hg,by have:=HZW.out;omega,by have:=HZW.out;omega⟩));have hsz2:=ht2.size;clear hb2 hrow tg ho2 hg2 hl2 hownD hrD tD t2 hdS hSv hS hSb q0 hr ht hq bAr bBr hRb hdd g1 hszr;go_wp2_with fail;refine HTR.out.mono ?_;rintro _ _ ⟨r',rfl,hr',rfl⟩;obtain⟨Ar',cr',rfl,_,_⟩:=hr'.form;clear HTR;have h10:(10:Nat)≤10:=Nat.le_refl _;go_wp2_with fail;go_loopw [7,9] (fun r n wx=>∃m T:Nat,n=.int .i64 (m:Int)∧m≤9∧S=m*b+T∧zfc (fun g=>B g∧g≠z+1+1∧g≠z+1+1+1) wx r (dg T)∧Tf w2 wx) (fun _ n _=>10-(intOf n).toNat)
   case atStart=>exact⟨0,S,rfl,by omega,by omega,hr',Tch.refl _ _⟩
   case round=>
    obtain⟨m,T,rfl,hm9,hST,hrT,htx⟩:=hrel;have HST:=Lib.hid hST;clear hST;obtain⟨At,ct,rfl,_,_⟩:=hrT.form;have hbx:=HVB.out _ htx;have hbx2:=bB2.keep htx id;have HDG:=Lib.hid (zfs hrT hbx);have g1:=hbx2.cell 1;simp only[List.getElem?_toArray,List.getElem?_cons_succ,List.getElem?_cons_zero]at g1;by_cases hTb:T<b
    ·have HDL:=Lib.hid (show(if T<b then(-1:Int)else if b<T then 1 else 0)= -1 from if_pos hTb);rw[HDL.out]at HDG;clear HDL;go_wp2_with fail;refine HDG.out.mono ?_;rintro _ w5 ⟨rfl,t5⟩;have hq5:=(hq2.keep htx).keep t5;have hr5:=hrT.keep t5;have ht5:=(ht2.trans htx).trans t5;have tD:=tal w5 (.cells #[iV (m:Int)] 3);have hqD:=hq5.keep tD;have hrD:=hr5.keep tD;have hownD:=ztp (base:=0) (size:=1) (n:=1) (Blk.new w5 3 #[iV (m:Int)]) (Nat.zero_le _) rfl (by decide);have hszr:=ht5.size;have hqll:ql.length≤90000:=by omega
     clear HDG hbx g1 t5 hq5;go_wp2_with (at_builtin;refine Hid.out ?_);refine Lib.hid ?_;refine apd zaj hownD hqD.src (by intro u9 hu9;obtain⟨x9,_,hx9⟩:=List.mem_flatMap.1 hu9;simp[zq3]at hx9;subst hx9;rfl) ?_;intro v3 w6 ho3 hg3 hl3
     have hb3:∀g,v3.ownBlock=some g→B g∧g≠z+1+1∧g≠z+1+1+1:=fun g hg=>by
      rcases hl3 g hg with h9|h9
      ·have h9:some w5.heap.size=some g:=h9;injection h9 with h9;have:=HZW.out;exact⟨hB g (by omega),by omega,by omega⟩
      ·simp at h9;have:=HZW.out;exact⟨hB g (by omega),by omega,by omega⟩
     have hrow3:zfc (fun g=>B g∧g≠z+1+1∧g≠z+1+1+1) w6 v3 (m::ql):=by
      have h:=Row.own (P:=fun g=>B g∧g≠z+1+1∧g≠z+1+1+1) ho3 hb3;have e9:1+ql.length=(m::ql).length:=by simp[Nat.add_comm]
      unfold zfc zae;rw[←e9];simpa[zq3]using h
     have tg:=Tch.grown (F:=fun k=>w5.heap.size≤k) hg3 (fun k hk=>.inl (by have hk:some w5.heap.size=some k:=hk;injection hk with hk;omega));have hr6:=Row.keepTo (P':=fun g=>B g∧g≠z+1+1∧g≠z+1+1+1) hr5 (tD.trans' tg (fun i hi=>.inr hi)) (fun g hlt hg=>⟨id,hg⟩);have t6:=ht5.trans (tD.trans' tg (fun i hi=>.inr hi));clear hqD hrD hownD ho3 hg3 hl3 hb3 tD tg;have hwj:wrap64 ((j:Int)-1)=(j:Int)-1:=by unfold wrap64;omega
     have HNV:=Lib.hid (show zbe (D.drop j)=(m+10*Q)*b+T by
      have h1:=HDR.out;have h2:=HVAL.out;have h3:=HS.out;have h4:=HST.out;rw[h1,h2,Nat.add_mul,Nat.mul_assoc 10 Q b]
      omega)
     clear HDR HVAL HS HST HVB HDD HRB HSB;go_wp2;go_roundw
     case rel=>exact⟨j,T,m+10*Q,m::ql,by omega,by go_num,⟨HNV.out,hTb⟩,⟨fun e he=>(List.mem_cons.1 he).elim (fun h=>by omega) (hqd e),by rw[zbe,HQV.out],by simp;omega⟩,hrow3,hr6,t6⟩
     case measure=>simp[intOf]<;>omega
    ·have hDL:(if T<b then(-1:Int)else if b<T then 1 else 0)=1∨(if T<b then(-1:Int)else if b<T then 1 else 0)=0:=by
      rw[if_neg hTb];by_cases h:b<T
      ·exact .inl (if_pos h)
      ·exact .inr (if_neg h)
     have HM9:=Lib.hid (show m+1≤9 by
      have h1:=HST.out;have h2:=HSB.out;have h3:(m+1)*b<10*b:=by rw[Nat.add_mul,Nat.one_mul];omega
      have h4:=Nat.lt_of_mul_lt_mul_right h3
      omega)
     have hm9':=HM9.out
     have HST2:=Lib.hid (show S=(m+1)*b+(T-b) by
      have h1:=HST.out
      rw[Nat.add_mul,Nat.one_mul];omega)
     have HTL:=Lib.hid (show(dg T).length≤90001 by
      have h1:=HST.out;have h2:=HSB.out;have h3:T<10*b:=by have:=Nat.zero_le (m*b);omega
      have h4:(dg (10*b)).length≤(dg b).length+1:=by
       rw[zht (by omega)];have e:10*b/10=b:=by omega
       rw[e];simp
      have h5:=zhe (Nat.le_of_lt h3)
      omega)
     have hm0:=znn m
     obtain⟨dv,hdv⟩:∃dv:Int,(if T<b then(-1:Int)else if b<T then 1 else 0)=dv:=⟨_,rfl⟩
     rw[hdv]at HDG hDL;have hge:(0:Int)≤dv:=by omega
     clear hdv hDL;go_wp2_with fail;refine HDG.out.mono ?_;rintro _ w5 ⟨rfl,t5⟩;have hr5:=hrT.keep t5;have hb5:=hbx.keep t5;have ht5:=htx.trans t5;have g2:=(hbx2.keep t5 id).at1;have HFW:=Lib.hid (zgo (B:=fun g=>B g∧g≠z+1+1∧g≠z+1+1+1) hr5 hb5 (zbh T) (zbh b) (Nat.le_trans HTL.out (by decide)) (zhe (by omega)) (by rw[za0,za0];omega) (fun g hg=>by have:=(ht2.trans ht5).size;have:=HZW.out;exact⟨hB g (by omega),by omega,by omega⟩));rw[za0,za0]at HFW;clear HDG hbx hrT t5 hr5 hb5 g1;go_wp2_with fail;refine HFW.out.mono ?_;rintro _ w6 ⟨r2,rfl,hr6,t6⟩;clear HFW g2;go_wp2;go_roundw
     case rel=>exact⟨m+1,T-b,by go_num,HM9.out,HST2.out,hr6,ht5.trans t6⟩
     case measure=>simp[intOf]<;>omega
open Go.RowKit Go.Gk
def zx9 (z:Nat) (w:World):Nat:=
 match w.cell? ⟨z,1,none⟩with
 |some (.slice (some a) n _)=>zbe ((List.range n).map fun i=>match w.cell? ⟨a.block,a.off+i,none⟩with |some (.int _ v)=>v.toNat|_=>0)
 |_=>0
theorem zqn {P:Nat→Prop} {w:World} {z y:Nat} {T:TypeId} {A:Option Addr} {c:Nat} (hb:Blk w z T #[.bool false,.slice A (dg y).length c]) (hr:zfc P w (.slice A (dg y).length c) (dg y)):zx9 z w=y:=by
 have h1:=hb.at1;unfold zx9;rw[h1];rcases Nat.eq_zero_or_pos (dg y).length with h0|h0
 ·have hy:y=0:=by
   have:=za0 y;rw[List.eq_nil_of_length_eq_zero h0]at this;exact this.symm
  rw[h0]
  cases A with
  |none=>exact hy.symm
  |some a=>simp[hy,zbe]
 ·obtain⟨g,o,rfl⟩:=hr.head h0;simp only
  have e:((List.range (dg y).length).map fun i=>match w.cell? ⟨g,o+i,none⟩with |some (.int _ v)=>v.toNat|_=>0)=dg y:=by
   apply List.ext_getElem
   ·simp
   ·intro i h2 h3;have hc:=zjf hr h3;simp only[List.getElem_map,List.getElem_range];rw[hc];simp[h3]
  rw[e,za0]
theorem zsm {B:Nat→Prop} {w:World} {u v:Value} {a b:Nat} (ha:BigIs B w u (a:Int)) (hb:BigIs B w v (b:Int)) (hB:∀g,w.heap.size≤g→B g) (na:(dg a).length≤90000) (nb:(dg b).length≤90000):
 Calls Tryz.prog 317 #[u,v] w fun e w'=>∃x,e=.returned x∧BigIs B w' x ((Nat.gcd a b:Nat):Int)∧Tf w w':=by
 obtain⟨du,rfl,hu⟩:=ha;obtain⟨dv,rfl,hv⟩:=hb;simp only[Int.natAbs_natCast]at hu hv;have ea:decide ((a:Int)<0)=false:=by simp
 have eb:decide ((b:Int)<0)=false:=by simp
 rw[ea,eb];obtain⟨Aa,ca,rfl,ha1,ha2⟩:=hu.form;obtain⟨Ab,cb,rfl,hb1,hb2⟩:=hv.form;have t1:=tal w (.cells #[.bool false,.slice Aa (dg a).length ca] 220);have t2:=tal (w.alloc (.cells #[.bool false,.slice Aa (dg a).length ca] 220)) (.cells #[.bool false,.slice Ab (dg b).length cb] 220);have t3:=tal ((w.alloc (.cells #[.bool false,.slice Aa (dg a).length ca] 220)).alloc (.cells #[.bool false,.slice Ab (dg b).length cb] 220)) (.cells #[.bool false,.slice none 0 0] 220);have tw:=(t1.trans t2).trans t3;have bA:=((Blk.new w 220 #[.bool false,.slice Aa (dg a).length ca]).keep t2 id).keep t3 id;have bB:=(Blk.new2 w (.cells #[.bool false,.slice Aa (dg a).length ca] 220) 220 #[.bool false,.slice Ab (dg b).length cb]).keep t3 id;have bO:Blk (((w.alloc (.cells #[.bool false,.slice Aa (dg a).length ca] 220)).alloc (.cells #[.bool false,.slice Ab (dg b).length cb] 220)).alloc (.cells #[.bool false,.slice none 0 0] 220)) (w.heap.size+1+1) 220 #[.bool false,.slice none 0 0]:=by simpa using Blk.new ((w.alloc (.cells #[.bool false,.slice Aa (dg a).length ca] 220)).alloc (.cells #[.bool false,.slice Ab (dg b).length cb] 220)) 220 #[.bool false,.slice none 0 0]
 have hsz:(((w.alloc (.cells #[.bool false,.slice Aa (dg a).length ca] 220)).alloc (.cells #[.bool false,.slice Ab (dg b).length cb] 220)).alloc (.cells #[.bool false,.slice none 0 0] 220)).heap.size=w.heap.size+3:=by simp
 have HU:=Lib.hid hu;have HV:=Lib.hid hv
 obtain⟨G,hG⟩:∃G,Nat.gcd a b=G:=⟨_,rfl⟩
 have HG:=Lib.hid hG;rw[hG];clear t1 t2 t3 hu hv ea eb hG;go_enter Tryz.func317,Tryz.ntmps317;go_wp2_with fail;generalize((w.alloc (.cells #[.bool false,.slice Aa (dg a).length ca] 220)).alloc (.cells #[.bool false,.slice Ab (dg b).length cb] 220)).alloc _=W at *;generalize hzw:w.heap.size=z at *;have HZW:=Lib.hid hzw;clear hzw;have HUW:=Lib.hid (Row.keepTo (P':=(fun g=>B g∧g≠z∧g≠z+1∧g≠z+1+1)) HU.out tw (fun g hlt hg=>⟨id,hg,by have:=HZW.out;omega,by have:=HZW.out;omega,by have:=HZW.out;omega⟩));have HVW:=Lib.hid (Row.keepTo (P':=(fun g=>B g∧g≠z∧g≠z+1∧g≠z+1+1)) HV.out tw (fun g hlt hg=>⟨id,hg,by have:=HZW.out;omega,by have:=HZW.out;omega,by have:=HZW.out;omega⟩));go_loopw [] (fun wr=>∃(x y:Nat) (Ax Ay:Option Addr) (cx cy:Nat),(Nat.gcd x y=G∧(dg x).length≤90000∧(dg y).length≤90000)∧Blk wr z 220 #[.bool false,.slice Ax (dg x).length cx]∧Blk wr (z+1) 220 #[.bool false,.slice Ay (dg y).length cy]∧zfc (fun g=>B g∧g≠z∧g≠z+1∧g≠z+1+1) wr (.slice Ax (dg x).length cx) (dg x)∧zfc (fun g=>B g∧g≠z∧g≠z+1∧g≠z+1+1) wr (.slice Ay (dg y).length cy) (dg y)∧Tch (fun g=>g=z∨g=z+1) W wr) (fun wr=>zx9 (z+1) wr)
 case atStart=>exact⟨a,b,Aa,Ab,ca,cb,⟨HG.out,na,nb⟩,bA,bB,HUW.out,HVW.out,Tch.refl _ _⟩
 case round=>
  obtain⟨x,y,Ax,Ay,cx,cy,⟨hg,nx,ny⟩,hX,hY,rX,rY,ht⟩:=hrel;have HGG:=Lib.hid hg;clear hg;have HN1:=Lib.hid (zqn hY rY);have Tr:=tw.trans' ht (fun i hi=>.inr (by have:=HZW.out;rcases hi with hi|hi<;>omega));have bOr:=bO.keep ht (by omega);have hzr:z+1+1<wr.heap.size:=bOr.lt;have y1:=hY.at1;obtain⟨x0,x1⟩:=hX.f2;by_cases hy:y=0
  ·subst hy;have hl0:(dg 0).length=0:=by rw[zcj];rfl
   rw[hl0]at y1;have HGX:=Lib.hid (show x=G by rw[←HGG.out,Nat.gcd_zero_right]);have hrx:=Row.keepTo (P':=B) rX (Tch.refl (fun g=>g=z+1+1) wr) (fun g _ hg=>⟨hg.2.2.2,hg.1⟩);have HRX:=Lib.hid (fun w' (t9:Tch (fun g=>g=z+1+1) wr w')=>Row.keepTo (P':=B) rX t9 (fun g _ hg=>⟨hg.2.2.2,hg.1⟩));clear hrx HGG HN1 hX hY rX rY ht bA bB HU HV HUW HVW hl0;go_wp2_with (refine stH (z+1+1) #[.bool false,.slice Ax (dg x).length cx] bOr ?_);intro w9 HBF HTF;clear bOr x0 x1 y1;go_wp2;(try simp only[Exit.inBlock,Exit.then]);(try rw[Exit.noGoto_ret]);refine zfe HBF.out ?_;refine⟨_,rfl,⟨_,by rw[show decide (((G:Nat):Int)<0)=false by simp],?_⟩,Tr.trans' (F':=fun g=>g=z+1+1) HTF.out (fun i hi=>.inr (by have hi:i=z+1+1:=hi;have:=HZW.out;omega))⟩;simp only[Int.natAbs_natCast];have h9:=HRX.out w9 HTF.out;rw[HGX.out]at h9⊢;exact h9
  ·have hy0:0<y:=by omega
   have hly:(0:Int)<((dg y).length:Int):=by
    have h9:(dg y).length≠0:=fun e=>by
     have:=za0 y;rw[List.eq_nil_of_length_eq_zero e]at this;exact hy this.symm
    omega
   have y0:=hY.at0;have HDI:=Lib.hid (zsl (B:=(fun g=>B g∧g≠z∧g≠z+1∧g≠z+1+1)) (w:=wr) (u:=.agg #[.bool false,.slice Ax (dg x).length cx]) (v:=.agg #[.bool false,.slice Ay (dg y).length cy]) (a:=x) (b:=y) ⟨_,by rw[show decide (((x:Nat):Int)<0)=false by simp],by simpa using rX⟩ ⟨_,by rw[show decide (((y:Nat):Int)<0)=false by simp],by simpa using rY⟩ (fun g hg=>⟨hB g (by have:=HZW.out;omega),by omega,by omega,by omega⟩) hy0 nx ny);have HMOD:=Lib.hid (Nat.mod_lt x hy0);have HG2:=Lib.hid (show Nat.gcd y (x%y)=G by rw[←HGG.out,Nat.gcd_comm x y,Nat.gcd_rec y x,Nat.gcd_comm]);have HLM:=Lib.hid (show(dg (x%y)).length≤90000 from Nat.le_trans (zhe (Nat.le_of_lt (Nat.mod_lt x hy0))) ny);generalize x%y=rm at *;generalize x/y=qt at *;clear hy HGG HUW HVW HU HV;go_wp2_with fail;refine HDI.out.mono ?_;rintro _ w4 ⟨vq,vr,rfl,⟨dq,rfl,hq⟩,⟨dr,rfl,hr⟩,t4⟩;simp only[Int.natAbs_natCast]at hq hr;obtain⟨Aq,cq,rfl,_,_⟩:=hq.form;obtain⟨Ar,cr,rfl,_,_⟩:=hr.form;rw[show decide (((qt:Nat):Int)<0)=false by simp,show decide (((rm:Nat):Int)<0)=false by simp];have tp:=tal w4 (.cells #[.bool false,.slice Aq (dg qt).length cq] 220);have tq:=tal (w4.alloc (.cells #[.bool false,.slice Aq (dg qt).length cq] 220)) (.cells #[.bool false,.slice Ar (dg rm).length cr] 220);have bR:=Blk.new2 w4 (.cells #[.bool false,.slice Aq (dg qt).length cq] 220) 220 #[.bool false,.slice Ar (dg rm).length cr];have t46:=t4.trans (tp.trans tq);have hX6:=hX.keep t46 id;have hY6:=hY.keep t46 id;have rY6:=rY.keep t46;have rR6:=hr.keep (tp.trans tq);have ht6:=ht.trans (t46.mono fun _ _ h=>h.elim);have hs4:=t4.size;obtain⟨b0,b1⟩:=hY6.f2;clear HDI hq hr tp tq t46 hX hY rX rY t4 x0 x1 y0 y1 bOr ht;go_wp2_with (refine stK z #[.bool false,.slice Ay (dg y).length cy] hX6 ?_);intro w7 hX7 ts7;generalize(w4.alloc (.cells #[.bool false,.slice Aq (dg qt).length cq] 220)).alloc _=W6 at *;generalize w4.heap.size=y4 at *;have hY7:=hY6.keep ts7 (by omega);have bR7:=bR.keep ts7 (by omega);have rY7:=Row.keepTo (P':=(fun g=>B g∧g≠z∧g≠z+1∧g≠z+1+1)) rY6 ts7 (fun g _ hg=>⟨hg.2.1,hg⟩);have rR7:=Row.keepTo (P':=(fun g=>B g∧g≠z∧g≠z+1∧g≠z+1+1)) rR6 ts7 (fun g _ hg=>⟨hg.2.1,hg⟩);have ht7:=ht6.trans (ts7.mono fun _ _ h=>.inl h);obtain⟨c0,c1⟩:=bR7.f2;clear hX6 hY6 rY6 rR6 ht6 ts7 bR b0 b1 bR7;go_wp2_with (refine stK (z+1) #[.bool false,.slice Ar (dg rm).length cr] hY7 ?_);intro w8 hY8 ts8;have hX8:=hX7.keep ts8 (by omega);have rY8:=Row.keepTo (P':=(fun g=>B g∧g≠z∧g≠z+1∧g≠z+1+1)) rY7 ts8 (fun g _ hg=>⟨hg.2.2.1,hg⟩);have rR8:=Row.keepTo (P':=(fun g=>B g∧g≠z∧g≠z+1∧g≠z+1+1)) rR7 ts8 (fun g _ hg=>⟨hg.2.2.1,hg⟩);have ht8:=ht7.trans (ts8.mono fun _ _ h=>.inr h);have HN2:=Lib.hid (zqn hY8 rR8);clear hY7 rY7 rR7 ht7 ts8 c0 c1 hX7;go_wp2;go_roundw
   case rel=>exact⟨y,rm,Ay,Ar,cy,cr,⟨HG2.out,ny,HLM.out⟩,hX8,hY8,rY8,rR8,ht8⟩
   case measure=>rw[HN1.out,HN2.out];exact HMOD.out
end Go.Proofs.YtnjhfcopphpkpaaGreatDoor
namespace Go.Gk
theorem digs_rep (k:Nat):Digs (List.replicate k 0):=fun d h=>by have:=List.eq_of_mem_replicate h;omega
theorem ztq:∀k,zbe (List.replicate k 0)=0
 |0=>rfl
 |k+1=>by rw[List.replicate_succ,zbe,ztq k]
structure TimesBy (a:List Nat) (d p:Nat) (out:List Nat) (k carry:Nat):Prop where
 len:out.length=p+k
 digs:Digs out
 small:carry≤9
 val:zbe out+10^(p+k)*carry=10^p*(zbe (a.take k)*d)
theorem TimesBy.start (a:List Nat) (d p:Nat):TimesBy a d p (List.replicate p 0) 0 0:=⟨by simp,digs_rep p,by omega,by simp[ztq,zbe]⟩
theorem TimesBy.step {a out:List Nat} {d p k carry:Nat} (h:TimesBy a d p out k carry) (ha:Digs a) (hd:d<10) {e:Nat} (he:e=carry+a.getD k 0*d):TimesBy a d p (out++[e%10]) (k+1) (e/10):=by
 have h1:=h.small
 have ga:a.getD k 0<10:=by
  simp only[List.getD_eq_getElem?_getD]
  cases e:a[k]? with
  |none=>simp
  |some x=>exact ha x (List.mem_of_getElem? e)
 have gm:a.getD k 0*d≤9*9:=Nat.mul_le_mul (by omega) (by omega)
 have ta:zbe (a.take (k+1))=zbe (a.take k)+10^k*a.getD k 0:=by
  by_cases hi:k<a.length
  ·exact zfw hi
  ·rw[List.take_of_length_le (by omega),List.take_of_length_le (by omega)];simp[List.getElem?_eq_none (show a.length≤k by omega)]
 refine⟨by simp[h.len];omega,fun x hx=>?_,by omega,?_⟩
 ·rcases List.mem_append.1 hx with hx|hx
  ·exact h.digs x hx
  ·obtain rfl:x=e%10:=by simpa using hx
   omega
 ·rw[zir,h.len,ta];have hv:=h.val
  have e1:10^(p+(k+1))*(e/10)+10^(p+k)*(e%10)=10^(p+k)*e:=by
   rw[show p+(k+1)=(p+k)+1 by omega,Nat.pow_succ,Nat.mul_assoc,←Nat.mul_add];congr 1;omega
  have e2:10^(p+k)*e=10^(p+k)*carry+10^p*(10^k*a.getD k 0*d):=by
   rw[he,Nat.mul_add,Nat.pow_add,Nat.mul_assoc (10^p),Nat.mul_assoc (10^p),Nat.mul_assoc (10^k)]
  rw[Nat.add_mul,Nat.mul_add];omega
theorem TimesBy.stop {a out:List Nat} {d p k:Nat} (h:TimesBy a d p out k 0) (ha:a.length≤k):zbe out=10^p*(zbe a*d):=by
 have:=h.val;rwa [Nat.mul_zero,Nat.add_zero,zdl ha]at this
theorem zya {a b:List Nat} {i:Nat} (h:i<b.length):zbe a*zbe (b.take i)+10^i*(zbe a*b.getD i 0)=zbe a*zbe (b.take (i+1)):=by
 rw[zfw h,Nat.mul_add,Nat.mul_left_comm]
theorem zjs {a b:Nat}:(dg (a*b)).length≤(dg a).length+(dg b).length:=by
 rcases Nat.lt_or_ge ((dg a).length+(dg b).length) (dg (a*b)).length with h|h
 ·exfalso
  have h1:=zlm (zbh a);have h2:=zlm (zbh b);rw[za0]at h1 h2;have hne:dg (a*b)≠[]:=by intro e;rw[e]at h;simp at h
  have hl:=(zwi (a*b)).2 hne;have hs:=zdd (dg (a*b)).dropLast [(dg (a*b)).getLast hne];rw[List.dropLast_concat_getLast,za0]at hs;simp only[zbe,List.length_dropLast,Nat.mul_zero,Nat.add_zero]at hs;have h3:10^((dg (a*b)).length-1)*1≤10^((dg (a*b)).length-1)*((dg (a*b)).getLast hne):=Nat.mul_le_mul_left _ (by omega);have hp:10^((dg a).length+(dg b).length)≤10^((dg (a*b)).length-1):=Nat.pow_le_pow_right (by decide) (by omega);rw[Nat.pow_add]at hp;have h4:a*b<10^(dg a).length*10^(dg b).length:=Nat.mul_lt_mul'' h1 h2;omega
 ·exact h
end Go.Gk
namespace Go.Proofs.YtnjhfcopphpkpaaGreatDoor
open Go.RowKit Go.Gk
theorem zkp {B:Nat→Prop} {w:World} {u v:Value} {a b:Nat} (ha:BigIs B w u (a:Int)) (hb:BigIs B w v (b:Int)) (hB:∀g,w.heap.size≤g→B g) (na:(dg a).length≤20000) (nb:(dg b).length≤20000):
 Calls Tryz.prog 287 #[u,v] w fun e w'=>∃x,e=.returned x∧BigIs B w' x ((a*b:Nat):Int)∧Tf w w':=by
 obtain⟨du,rfl,hu⟩:=ha;obtain⟨dv,rfl,hv⟩:=hb;simp only[Int.natAbs_natCast]at hu hv;have ea:decide ((a:Int)<0)=false:=by simp
 have eb:decide ((b:Int)<0)=false:=by simp
 rw[ea,eb];obtain⟨Aa,ca,rfl,ha1,ha2⟩:=hu.form;obtain⟨Ab,cb,rfl,hb1,hb2⟩:=hv.form;have t1:=tal w (.cells #[.bool false,.slice Aa (dg a).length ca] 220);have t2:=tal (w.alloc (.cells #[.bool false,.slice Aa (dg a).length ca] 220)) (.cells #[.bool false,.slice Ab (dg b).length cb] 220);have t3:=tal ((w.alloc (.cells #[.bool false,.slice Aa (dg a).length ca] 220)).alloc (.cells #[.bool false,.slice Ab (dg b).length cb] 220)) (.cells #[.bool false,.slice none 0 0] 220);have tw:=(t1.trans t2).trans t3;have bA:=((Blk.new w 220 #[.bool false,.slice Aa (dg a).length ca]).keep t2 id).keep t3 id;have bB:=(Blk.new2 w (.cells #[.bool false,.slice Aa (dg a).length ca] 220) 220 #[.bool false,.slice Ab (dg b).length cb]).keep t3 id;have bO:Blk (((w.alloc (.cells #[.bool false,.slice Aa (dg a).length ca] 220)).alloc (.cells #[.bool false,.slice Ab (dg b).length cb] 220)).alloc (.cells #[.bool false,.slice none 0 0] 220)) (w.heap.size+1+1) 220 #[.bool false,.slice none 0 0]:=by simpa using Blk.new ((w.alloc (.cells #[.bool false,.slice Aa (dg a).length ca] 220)).alloc (.cells #[.bool false,.slice Ab (dg b).length cb] 220)) 220 #[.bool false,.slice none 0 0]
 have HU:=Lib.hid (fun w' (t:Tf (((w.alloc (.cells #[.bool false,.slice Aa (dg a).length ca] 220)).alloc (.cells #[.bool false,.slice Ab (dg b).length cb] 220)).alloc (.cells #[.bool false,.slice none 0 0] 220)) w')=>(hu.keep tw).keep t);have HV:=Lib.hid (fun w' (t:Tf (((w.alloc (.cells #[.bool false,.slice Aa (dg a).length ca] 220)).alloc (.cells #[.bool false,.slice Ab (dg b).length cb] 220)).alloc (.cells #[.bool false,.slice none 0 0] 220)) w')=>(hv.keep tw).keep t);have hDa:=zbh a;have hDb:=zbh b;have HA:=Lib.hid (za0 a);have HB:=Lib.hid (za0 b);have HLM:=Lib.hid (fun m (hm:m≤a*b)=>Nat.le_trans (zhe hm) (Nat.le_trans (zjs (a:=a) (b:=b)) (Nat.add_le_add na nb)));have hsz:(((w.alloc (.cells #[.bool false,.slice Aa (dg a).length ca] 220)).alloc (.cells #[.bool false,.slice Ab (dg b).length cb] 220)).alloc (.cells #[.bool false,.slice none 0 0] 220)).heap.size=w.heap.size+3:=by simp
 clear t1 t2 t3 hu hv ea eb;generalize dg a=D at *;generalize dg b=E at *;go_enter Tryz.func287,Tryz.ntmps287;go_wp2_with fail;generalize((w.alloc (.cells #[.bool false,.slice Aa D.length ca] 220)).alloc (.cells #[.bool false,.slice Ab E.length cb] 220)).alloc _=W at *;generalize hzw:w.heap.size=z at *;have HZW:=Lib.hid hzw;clear hzw;have hD9:=hDa;go_loopw [5,6] (fun out i wr=>∃j:Nat,j≤E.length∧i=.int .i64 (j:Int)∧zfc (fun g=>B g∧g≠z+1+1) wr out (dg (a*zbe (E.take j)))∧Tf W wr) (fun _ i _=>E.length-(intOf i).toNat)
 case atStart=>exact⟨0,Nat.zero_le _,rfl,by rw[List.take_zero];show zfc _ _ _ (dg (a*0));rw[Nat.mul_zero,zcj];exact Row.nil _ _ _,Tch.refl _ _⟩
 case round=>
  obtain⟨j,hj,rfl,hq,ht⟩:=hrel
  obtain⟨w1,hw1⟩:∃x,x=wr:=⟨_,rfl⟩
  subst hw1;have g1:=(bB.keep ht id).at1;by_cases hlt:j<E.length
  ·have hlt':(j:Int)<(E.length:Int):=by omega
   have hj0:=znn j;have hvr:=HV.out w1 ht;obtain⟨gB,oB,rfl⟩:=hvr.head (by omega);have HQV:=Lib.hid hvr;have hd10:=zjg hDb j;have HTR:=Lib.hid (zya (a:=D) (b:=E) hlt);have HQ:=Lib.hid hq
   have HTE:=Lib.hid (show a*zbe (E.take (j+1))≤a*b from Nat.mul_le_mul_left _ (by
    have:=zdd (E.take (j+1)) (E.drop (j+1));rw[List.take_append_drop,HB.out]at this
    omega))
   obtain⟨Aq,cq,rfl,_,_⟩:=hq.form;have hszr:=ht.size;generalize hd:E.getD j 0=d at *;have HD:=Lib.hid hd;clear hvr hq hd g1;have hjn:j≤20000:=by omega
   have g1:=(bB.keep ht id).at1;go_wp2_with fail;clear g1;go_loopw [7,8] (fun row k wx=>∃m:Nat,m≤j∧k=.int .i64 (m:Int)∧wx.ownsRow w1.heap.size 3 1 row (List.replicate m 0).length ((List.replicate m 0).flatMap zq3)∧Tf w1 wx) (fun _ k _=>j-(intOf k).toNat)
   case atStart=>exact⟨0,Nat.zero_le _,rfl,World.ownsRow_nil _ _ _ _,Tch.refl _ _⟩
   case round=>
    obtain⟨m,hm,rfl,ho,htx⟩:=hrel
    obtain⟨wx,hwx⟩:∃x,x=wr:=⟨_,rfl⟩
    subst hwx;obtain⟨O,co,rfl,_,_,_⟩:=zac ho;have hon:∀g,(Value.slice O (List.replicate m 0).length co).ownBlock=some g→w1.heap.size≤g:=fun g e=>(ho.lt g e).1
    have hml:(List.replicate m 0).length=m:=by simp
    by_cases hmj:m<j
    ·have hmj':(m:Int)<(j:Int):=by omega
     have hm0:=znn m;have HRS:=Lib.hid (show List.replicate (m+1) 0=List.replicate m 0++[0]from List.replicate_succ');generalize List.replicate m 0=ol at *;have HML:=Lib.hid hml;have hol1:ol.length≤200000:=by omega
     clear hml;go_wp2_with (at_builtin;refine apd zaj (ho.alloc _) (Go.Gk.Src.one (news:=[iV (0)]) rfl (fun m u hu=>by rw[(Blk.new wx 3 #[iV (0)]).cell m];simpa using hu)) (by simp;rfl) ?_;intro v2 w2 ho2 hg2 hl2;obtain⟨O2,co2,rfl,_,_,_⟩:=zac ho2);have hb2:∀g,(Value.slice O2 (ol.length+1) co2).ownBlock=some g→w1.heap.size≤g:=fun g e=>(hl2 g e).elim (hon g) (fun h=>by have:=htx.size;simp at h;omega)
     have t2:=htx.trans' ((Tch.alloc (fun k=>w1.heap.size≤k) wx _).trans (Tch.grown hg2 (fun k e=>.inl (hon k e)))) (fun k hk=>.inr hk);go_roundw
     case rel=>exact⟨m+1,hmj,by go_num,by rw[HRS.out];exact zbk (zb0 (d:=0) ho2 rfl) hb2,t2⟩
     case measure=>simp[intOf]<;>omega
    ·obtain rfl:m=j:=by omega
     have hmj':¬(m:Int)<(m:Int):=by omega
     have HW2:=Lib.hid (HQV.out.keep htx);have bAx:=(bA.keep ht id).keep htx id;have bBx:=(bB.keep ht id).keep htx id;have hs0:=TimesBy.start D d m;generalize List.replicate m 0=ol0 at *;clear hml;go_wp2_with fail;go_loopw [7,9,10] (fun row carry k wy=>∃(n c:Nat) (ol:List Nat),k=.int .i64 (n:Int)∧carry=.int .i64 (c:Int)∧(n≤D.length+1∧(0<c→n≤D.length))∧TimesBy D d m ol n c∧wy.ownsRow w1.heap.size 3 1 row ol.length (ol.flatMap zq3)∧Tf w1 wy) (fun _ _ k _=>D.length+1-(intOf k).toNat)
     case atStart=>exact⟨0,0,ol0,rfl,rfl,⟨Nat.zero_le _,fun _=>Nat.zero_le _⟩,hs0,ho,htx⟩
     case round=>
      obtain⟨n,c,ol,rfl,rfl,⟨hn,hnc⟩,hM,hoy,hty⟩:=hrel
      obtain⟨wy,hwy⟩:∃x,x=wr:=⟨_,rfl⟩
      subst hwy;have ho:=hoy;obtain⟨Oy,coy,rfl,_,_,_⟩:=zac ho;have hony:∀g,(Value.slice Oy ol.length coy).ownBlock=some g→w1.heap.size≤g:=fun g e=>(hoy.lt g e).1
      have hc:=hM.small;have hol:=hM.len;have HM:=Lib.hid hM;have hol1:ol.length≤200000:=by omega
      have HOL:=Lib.hid hol;have bAy:=(bA.keep ht id).keep hty id;have bBy:=(bB.keep ht id).keep hty id;have c1:=bAy.at1;have c2:=bBy.at1;have hc0:=znn c;have hc9:(c:Int)≤9:=by omega
      have hn0:=znn n;clear hM hol hoy;by_cases hna:n<D.length
      ·have hna':(n:Int)<(D.length:Int):=by omega
       have hnb:decide (n<D.length)=true:=by simpa using hna
       have hua:=HU.out wy (ht.trans hty);obtain⟨gA,oA,rfl⟩:=hua.head (by omega);have q0:=zjf hua hna
       have q1:wy.cell? ⟨gB,oB+m,none⟩=some (iV ((d:Nat):Int)):=by
        have h9:=zjf (HQV.out.keep hty) hlt;rw[HD.out]at h9;exact h9
       have hx10:=zjg hDa n;have hst:=fun e he=>(HM.out).step (e:=e) hDa hd10 he
       generalize D.getD n 0=x at *;have hst:=hst (c+x*d) rfl
       obtain⟨X,hX⟩:∃X:Int,((x:Nat):Int)=X:=⟨_,rfl⟩
       obtain⟨Y,hY⟩:∃Y:Int,((d:Nat):Int)=Y:=⟨_,rfl⟩
       have hP:x*d≤9*9:=Nat.mul_le_mul (by omega) (by omega);have hPe:(x:Int)*(d:Int)=((x*d:Nat):Int):=by simp
       generalize x*d=p at *;have hst':=hst;have hu:((c:Int)+(p:Int))%10=(((c+p)%10:Nat):Int):=by omega
       have hv9:((c:Int)+(p:Int))/10=(((c+p)/10:Nat):Int):=by omega
       have HUU:=Lib.hid hu;have HVV:=Lib.hid hv9;have HST:=Lib.hid hst;have hp0:=znn p;have hp1:(p:Int)≤81:=by omega
       have hw9:wrap64 ((x:Int)*(d:Int))=(p:Int):=by rw[hPe];unfold wrap64;omega
       rw[hX,hY]at hw9;rw[hX]at q0;rw[hY]at q1;have HCN:=Lib.hid (show(0:Nat)<(c+p)/10→n+1≤D.length from fun _=>hna);have c1:=bAy.at1;clear hst hst' hu hv9 hP hPe hua hnb hX hY;go_wp2_with fail;have x1:=wc0 c1;have x2:=wc0 c2;have x3:=wc0 q0;have x4:=wc0 q1;refine zai (fun _=>False) [0] 11 [] [] ?_ ?_
       ·exact trivial
       intro bef _;iterate 11 (refine zbt ?_;(try simp only[zaw]))
       refine za6 ?_;intro wz hr hp9 hap;have t4:=(Tch.drew _ wy).trans hr;clear hap hp9 hr x1 x2 x3 x4;have hty2:=hty.trans t4;have ho:=t4.own ho (fun _ _=>id);clear c1 c2 q0 q1 hty bAy bBy;go_wp2_with (at_builtin;refine apd zaj (ho.alloc _) (Go.Gk.Src.one (news:=[iV (((c:Int)+(p:Int))%10)]) rfl (fun m u hu=>by rw[(Blk.new wz 3 #[iV (((c:Int)+(p:Int))%10)]).cell m];simpa using hu)) (by simp;rfl) ?_;intro v2 w2 ho2 hg2 hl2;obtain⟨O2,co2,rfl,_,_,_⟩:=zac ho2);have hb2:∀g,(Value.slice O2 (ol.length+1) co2).ownBlock=some g→w1.heap.size≤g:=fun g e=>(hl2 g e).elim (hony g) (fun h=>by have:=hty2.size;simp at h;omega)
       have t2:=hty2.trans' ((Tch.alloc (fun k=>w1.heap.size≤k) wz _).trans (Tch.grown hg2 (fun k e=>.inl (hony k e)))) (fun k hk=>.inr hk);go_roundw
       case rel=>exact⟨n+1,_,_,by go_num,by rw[HVV.out],⟨by omega,HCN.out⟩,HST.out,zbk (zb0 ho2 HUU.out) hb2,t2⟩
       case measure=>simp[intOf]<;>omega
      ·have hna':¬(n:Int)<(D.length:Int):=by omega
       have hnb:decide (n<D.length)=false:=by simpa using hna
       by_cases hc1:c=0
       ·subst hc1;have HRV:=Lib.hid ((HM.out).stop (by omega));have HDR:=Lib.hid ((HM.out).digs);have hrow:=Row.own (P:=fun g=>B g∧g≠z+1+1) ho (fun g e=>by have h9:=hony g e;have:=HZW.out;exact⟨hB g (by omega),by omega⟩);have HTM:=Lib.hid (zil hrow HDR.out (by omega));rw[HRV.out]at HTM;have hqy:=HQ.out.keep hty
        have HSM:=Lib.hid (show a*zbe (E.take m)+10^m*(a*d)=a*zbe (E.take (m+1)) by
         have h9:=HTR.out;rw[HA.out]at h9;rw[←HD.out]at h9⊢
         exact h9)
        rw[HA.out]at HTM;have HL1:=Lib.hid (show(dg (a*zbe (E.take m))).length≤100000 from Nat.le_trans (HLM.out _ (by have:=HSM.out;have:=HTE.out;omega)) (by decide));have HL2:=Lib.hid (show(dg (10^m*(a*d))).length≤100000 from Nat.le_trans (HLM.out _ (by have:=HSM.out;have:=HTE.out;omega)) (by decide));have Ty:=ht.trans hty;generalize a*zbe (E.take m)=s1 at *;generalize 10^m*(a*d)=s2 at *;clear hrow hna c2;go_wp2_with fail;refine HTM.out.mono ?_;rintro _ _ ⟨v3,rfl,hr3,rfl⟩;have HMR:=Lib.hid (zs2 hqy hr3 (zbh _) (zbh _) HL1.out HL2.out (fun g hg=>by have:=(hty.size);have:=HZW.out;exact⟨hB g (by omega),by omega⟩));simp only[za0]at HMR;rw[HSM.out]at HMR;clear HTM hr3;go_wp2_with fail;refine HMR.out.mono ?_;rintro _ w6 ⟨v4,rfl,hr4,t4⟩;clear HMR;go_wp2;go_roundw
        case rel=>exact⟨m+1,by omega,by go_num,hr4,Ty.trans t4⟩
        case measure=>simp[intOf]<;>omega
       ·have hcp:(0:Int)<(c:Int):=by omega
        have hst:=(HM.out).step (e:=c) hDa hd10 (by rw[zim hna];omega);have hu:(c:Int)%10=((c%10:Nat):Int):=by omega
        have hv9:(c:Int)/10=((c/10:Nat):Int):=by omega
        have HUU:=Lib.hid hu;have HVV:=Lib.hid hv9;have HST:=Lib.hid hst;have hnm:=hnc (by omega);have HCN:=Lib.hid (show(0:Nat)<c/10→n+1≤D.length from fun h=>by omega);clear hst hu hv9 hc1;go_wp2_with (at_builtin;refine apd zaj (ho.alloc _) (Go.Gk.Src.one (news:=[iV ((c:Int)%10)]) rfl (fun m u hu=>by rw[(Blk.new wy 3 #[iV ((c:Int)%10)]).cell m];simpa using hu)) (by simp;rfl) ?_;intro v2 w2 ho2 hg2 hl2;obtain⟨O2,co2,rfl,_,_,_⟩:=zac ho2);have hb2:∀g,(Value.slice O2 (ol.length+1) co2).ownBlock=some g→w1.heap.size≤g:=fun g e=>(hl2 g e).elim (hony g) (fun h=>by have:=hty.size;simp at h;omega)
        have t2:=hty.trans' ((Tch.alloc (fun k=>w1.heap.size≤k) wy _).trans (Tch.grown hg2 (fun k e=>.inl (hony k e)))) (fun k hk=>.inr hk);go_roundw
        case rel=>exact⟨n+1,_,_,by go_num,by rw[HVV.out],⟨by omega,HCN.out⟩,HST.out,zbk (zb0 ho2 HUU.out) hb2,t2⟩
        case measure=>simp[intOf]<;>omega
  ·obtain rfl:j=E.length:=by omega
   have hlt':¬(E.length:Int)<(E.length:Int):=by omega
   rw[List.take_length,HB.out]at hq;obtain⟨Aq,cq,rfl,_,_⟩:=hq.form;have bAr:=bA.keep ht id;have bBr:=bB.keep ht id;have bOr:=bO.keep ht id;have c0:=bAr.at0;have d0:=bBr.at0;have Tr:=tw.trans ht;have HQ:=Lib.hid hq;clear hq bAr bBr;go_wp2_with (refine stK (z+1+1) #[.bool false,.slice Aq (dg (a*b)).length cq] bOr ?_);intro w6 hF tF;have HF:=Lib.hid hF;have HTF:=Lib.hid tF;have HQ6:=Lib.hid (Row.keepTo (P':=B) HQ.out tF (fun g _ hg=>⟨fun e=>hg.2 e,hg.1⟩));clear hF tF bOr c0 d0;go_wp2;(try simp only[Exit.inBlock,Exit.then]);(try rw[Exit.noGoto_ret]);refine zfe HF.out ?_;refine⟨_,rfl,⟨_,by rw[show decide (((a*b:Nat):Int)<0)=false from decide_eq_false (Int.not_lt.2 (Int.natCast_nonneg _))],?_⟩,Tr.trans' (F':=fun g=>g=z+1+1) HTF.out (fun i hi=>.inr (by have hi:i=z+1+1:=hi;have:=HZW.out;omega))⟩;simp only[Int.natAbs_natCast];exact HQ6.out
end Go.Proofs.YtnjhfcopphpkpaaGreatDoor
namespace Go.Gk
open Go.RowKit
theorem zsn {l:List Rt6} {j:Nat} (h:j<l.length) (k:Rk4):zbl (l.take (j+1)) k=if rkey l[j]=k then(l[j].2.2.2.2,true)else zbl (l.take j) k:=by
 unfold zbl;rw[zkk h];by_cases e:rkey l[j]=k
 ·rw[if_pos e,if_pos e]
 ·rw[if_neg e,if_neg e]
end Go.Gk
namespace Go.Proofs.YtnjhfcopphpkpaaGreatDoor
open Go.RowKit Go.Gk
theorem zso (c:Int) (w:World):Calls Tryz.prog 193 #[iV c] w fun e w'=>e=.returned (.bool (decide (1≤c∧c≤8)))∧w=w':=by
 by_cases h1:1≤c
 ·by_cases h2:c≤8
  ·rw[decide_eq_true ⟨h1,h2⟩];go_enter Tryz.func193,Tryz.ntmps193;go_wp2;go_ret;exact⟨rfl,rfl⟩
  ·rw[decide_eq_false (fun h=>h2 h.2)];go_enter Tryz.func193,Tryz.ntmps193;go_wp2;go_ret;exact⟨rfl,rfl⟩
 ·rw[decide_eq_false (fun h=>h1 h.1)];go_enter Tryz.func193,Tryz.ntmps193;go_wp2;go_ret;exact⟨rfl,rfl⟩
theorem zvk (r1 r2 r3 r4 r5 r6 k1 k2 k3 k4 k5 k6:Int) (w:World):
 Calls Tryz.prog 315 #[.agg #[iV r1,iV r2,iV r3,iV r4,iV r5,iV r6],.agg #[iV k1,iV k2,iV k3,iV k4,iV k5,iV k6]] w fun e w'=>e=.returned (.bool (decide ((r1,r2,r3,r4)=(k1,k2,k3,k4))))∧Tf w w':=by
 by_cases e1:r1=k1
 ·subst e1;by_cases e2:r2=k2
  ·subst e2;by_cases e3:r3=k3
   ·subst e3;by_cases e4:r4=k4
    ·subst e4;rw[decide_eq_true rfl];go_enter Tryz.func315,Tryz.ntmps315;go_wp2;go_ret;exact⟨rfl,(Tch.alloc _ _ _).trans (Tch.alloc _ _ _)⟩
    ·rw[decide_eq_false (by simp[e4])];have b:(r4==k4)=false:=by simpa using e4
     clear e4;go_enter Tryz.func315,Tryz.ntmps315;go_wp2;go_ret;exact⟨rfl,(Tch.alloc _ _ _).trans (Tch.alloc _ _ _)⟩
   ·rw[decide_eq_false (by simp[e3])];have b:(r3==k3)=false:=by simpa using e3
    clear e3;go_enter Tryz.func315,Tryz.ntmps315;go_wp2;go_ret;exact⟨rfl,(Tch.alloc _ _ _).trans (Tch.alloc _ _ _)⟩
  ·rw[decide_eq_false (by simp[e2])];have b:(r2==k2)=false:=by simpa using e2
   clear e2;go_enter Tryz.func315,Tryz.ntmps315;go_wp2;go_ret;exact⟨rfl,(Tch.alloc _ _ _).trans (Tch.alloc _ _ _)⟩
 ·rw[decide_eq_false (by simp[e1])];have b:(r1==k1)=false:=by simpa using e1
  clear e1;go_enter Tryz.func315,Tryz.ntmps315;go_wp2;go_ret;exact⟨rfl,(Tch.alloc _ _ _).trans (Tch.alloc _ _ _)⟩
theorem zd5 (r1 r2:Int) (w:World):
 Calls Tryz.prog 285 #[.agg #[iV r1,iV r2]] w fun e w'=>e=.returned (iV (if zb7 (r1,r2)=true then 0 else 11))∧Tf w w':=by
 have HR:=Lib.hid (zbp (r:=(r1,r2)))
 obtain⟨A,hA⟩:∃A,(if zb7 (r1,r2)=true then(0:Int)else 11)=A:=⟨_,rfl⟩
 have HA:=Lib.hid hA;rw[hA];clear hA;by_cases h1:r1<1
 ·obtain rfl:A=11:=by rw[←HA.out,if_neg (fun h=>by have:=HR.out.1 h;omega)]
  clear HR HA;go_enter Tryz.func285,Tryz.ntmps285;go_wp2;go_ret;exact⟨rfl,Tch.alloc _ _ _⟩
 by_cases h2:r2<1
 ·obtain rfl:A=11:=by rw[←HA.out,if_neg (fun h=>by have:=HR.out.1 h;omega)]
  clear HR HA;go_enter Tryz.func285,Tryz.ntmps285;go_wp2;go_ret;exact⟨rfl,Tch.alloc _ _ _⟩
 by_cases h3:1000000000000<r1
 ·obtain rfl:A=11:=by rw[←HA.out,if_neg (fun h=>by have:=HR.out.1 h;omega)]
  clear HR HA;go_enter Tryz.func285,Tryz.ntmps285;go_wp2;go_ret;exact⟨rfl,Tch.alloc _ _ _⟩
 by_cases h4:1000000000000<r2
 ·obtain rfl:A=11:=by rw[←HA.out,if_neg (fun h=>by have:=HR.out.1 h;omega)]
  clear HR HA;go_enter Tryz.func285,Tryz.ntmps285;go_wp2;go_ret;exact⟨rfl,Tch.alloc _ _ _⟩
 ·obtain rfl:A=0:=by rw[←HA.out,if_pos (HR.out.2 ⟨by simp only;omega,by simp only;omega,by simp only;omega,by simp only;omega⟩)]
  clear HR HA;go_enter Tryz.func285,Tryz.ntmps285;go_wp2;go_ret;exact⟨rfl,Tch.alloc _ _ _⟩
theorem zme {w:World} {v:Value} {l:List Rt6} (hl:zae za2 6 (fun _=>True) w v l) (hn:l.length≤1000000) (k1 k2 k3 k4 k5 k6:Int):
 Calls Tryz.prog 283 #[v,.agg #[iV k1,iV k2,iV k3,iV k4,iV k5,iV k6]] w fun e w'=>e=.returned (.tuple #[.agg #[iV (zbl l (k1,k2,k3,k4)).1.1,iV (zbl l (k1,k2,k3,k4)).1.2],.bool (zbl l (k1,k2,k3,k4)).2])∧Tf w w':=by
 have ta:=tal w (.cells #[iV k1,iV k2,iV k3,iV k4,iV k5,iV k6] 166);have tb:=tal (w.alloc (.cells #[iV k1,iV k2,iV k3,iV k4,iV k5,iV k6] 166)) (.cells #[iV 0,iV 0] 42);have tc:=tal ((w.alloc (.cells #[iV k1,iV k2,iV k3,iV k4,iV k5,iV k6] 166)).alloc (.cells #[iV 0,iV 0] 42)) (.cells #[iV 0,iV 0] 42);have tw:=(ta.trans tb).trans tc;have bK:=((Blk.new w 166 #[iV k1,iV k2,iV k3,iV k4,iV k5,iV k6]).keep tb id).keep tc id;have bO:=(Blk.new2 w (.cells #[iV k1,iV k2,iV k3,iV k4,iV k5,iV k6] 166) 42 #[iV 0,iV 0]).keep tc id;have bF:Blk (((w.alloc (.cells #[iV k1,iV k2,iV k3,iV k4,iV k5,iV k6] 166)).alloc (.cells #[iV 0,iV 0] 42)).alloc (.cells #[iV 0,iV 0] 42)) (w.heap.size+1+1) 42 #[iV 0,iV 0]:=by simpa using Blk.new ((w.alloc (.cells #[iV k1,iV k2,iV k3,iV k4,iV k5,iV k6] 166)).alloc (.cells #[iV 0,iV 0] 42)) 42 #[iV 0,iV 0]
 obtain⟨A,cc,rfl,hc1,hc2⟩:=hl.form;have HLT:=Lib.hid (fun w' (t9:Tf w w')=>hl.keep t9)
 obtain⟨AV,hAV⟩:∃AV,zbl l (k1,k2,k3,k4)=AV:=⟨_,rfl⟩
 have HAV:=Lib.hid hAV;rw[hAV];obtain⟨⟨v1,v2⟩,v3⟩:=AV;simp only;clear ta tb tc hl hAV;go_enter Tryz.func283,Tryz.ntmps283;go_wp2_with fail;generalize((w.alloc (.cells #[.int .i64 k1,.int .i64 k2,.int .i64 k3,.int .i64 k4,.int .i64 k5,.int .i64 k6] 166)).alloc (.cells #[.int .i64 0,.int .i64 0] 42)).alloc _=W at *;generalize hzw:w.heap.size=z at *;have HZW:=Lib.hid hzw;clear hzw;go_loopw [7,8] (fun fd i wr=>∃(j:Nat) (a1 a2:Int) (ok:Bool),j≤l.length∧i=.int .i64 j∧fd=.bool ok∧zbl (l.take j) (k1,k2,k3,k4)=((a1,a2),ok)∧Blk wr (z+1+1) 42 #[.int .i64 a1,.int .i64 a2]∧Tch (fun g=>g=z+1+1) W wr) (fun _ i _=>l.length-(intOf i).toNat)
 case atStart=>exact⟨0,0,0,false,Nat.zero_le _,rfl,rfl,rfl,bF,Tch.refl _ _⟩
 case round=>
  obtain⟨j,a1,a2,ok,hj,rfl,rfl,hf,hF,ht⟩:=hrel;have HFF:=Lib.hid hf;clear hf;have Tr:=tw.trans' ht (fun i hi=>.inr (by have hi:i=z+1+1:=hi;have:=HZW.out;omega));have bKr:=bK.keep ht (by omega);have bOr:=bO.keep ht (by omega);by_cases hlt:j<l.length
  ·have hlt':(j:Int)<(l.length:Int):=by omega
   have hj0:=znn j;have hlr:=HLT.out wr Tr;have HTK:=Lib.hid (zsn hlt (k1,k2,k3,k4));obtain⟨g,oo,rfl⟩:=hlr.head (by omega);have HROW:=Lib.hid (fun w' (t9:Tf w w')=>Row.six (HLT.out w' t9) zd3 hlt rfl);generalize l[j]=r at *;obtain⟨r1,r2,r3,r4,r5,r6⟩:=r;simp only[rkey]at HTK HROW;obtain⟨q0,q1,q2,q3,q4,q5⟩:=HROW.out wr Tr;have y0:=wc0 q0;have y1:=wc0 q1;have y2:=wc0 q2;have y3:=wc0 q3;have y4:=wc0 q4;have y5:=wc0 q5;obtain⟨x0,x1,x2,x3,x4,x5⟩:=bKr.w6;have HON:=Lib.hid (fun w'=>zvk r1 r2 r3 r4 r5 r6 k1 k2 k3 k4 k5 k6 w');have htk:=HTK.out;rw[HFF.out]at htk;have HTK2:=Lib.hid htk;clear q0 q1 q2 q3 q4 q5 hlr htk HTK HFF;go_wp2_with fail;refine zai (fun _=>False) [] 5 [] [] ?_ ?_
   ·exact trivial
   intro bef _;iterate 5 (refine zbt ?_;(try simp only[zaw]))
   refine za6 ?_;intro w3 hr hp9 hap;have t3:=(Tch.drew (fun _=>False) wr).trans hr;have hF3:=hF.keep t3 id;have T3:=Tr.trans t3;have ht3:=ht.trans (t3.mono fun _ _ h=>h.elim);clear hap hp9 hr y0 y1 y2 y3 y4 y5 x0 x1 x2 x3 x4 x5 hF bKr bOr;go_wp2_with fail;refine(HON.out w3).mono ?_;rintro _ w4 ⟨rfl,t4⟩;have hF4:=hF3.keep t4 id;have T4:=T3.trans t4;have ht4:=ht3.trans (t4.mono fun _ _ h=>h.elim);obtain⟨_,_,_,_,q4,q5⟩:=HROW.out w4 T4;clear HON hF3 HROW Tr t3 ht3 T3;by_cases he:(r1,r2,r3,r4)=(k1,k2,k3,k4)
   ·have HT3:=Lib.hid (show zbl (l.take (j+1)) (k1,k2,k3,k4)=((r5,r6),true)from by
     rw[HTK2.out]
     exact if_pos he)
    rw[decide_eq_true he];clear HTK2 he;go_wp2_with (refine stK (z+1+1) #[iV r5,iV r6] hF4 ?_);intro w5 hF5 ts5;have ht5:=ht4.trans ts5;clear hF4 ts5 q4 q5;go_wp2;go_roundw
    case rel=>exact⟨j+1,r5,r6,true,by omega,by go_num,rfl,HT3.out,hF5,ht5⟩
    case measure=>simp[intOf]<;>omega
   ·have HT3:=Lib.hid (show zbl (l.take (j+1)) (k1,k2,k3,k4)=((a1,a2),ok)from by
     rw[HTK2.out]
     exact if_neg he)
    rw[decide_eq_false he];clear HTK2 he q4 q5;go_wp2;go_roundw
    case rel=>exact⟨j+1,a1,a2,ok,by omega,by go_num,rfl,HT3.out,hF4,ht4⟩
    case measure=>simp[intOf]<;>omega
  ·obtain rfl:j=l.length:=by omega
   have hlt':¬(l.length:Int)<(l.length:Int):=by omega
   have hf:=HFF.out;rw[List.take_length,HAV.out]at hf;injection hf with e1 e2;injection e1 with e0 e1;subst e0;subst e1;subst e2;obtain⟨f0,f1⟩:=hF.f2;clear HFF hF bKr bK bO bF hlt HLT HAV;go_wp2_with (refine stH (z+1) #[iV v1,iV v2] bOr ?_);intro w9 HBF HTF;clear f0 f1;go_wp2;(try simp only[exS]);refine zbi HBF.out ?_;exact⟨rfl,Tr.trans' (F':=fun g=>g=z+1) HTF.out (fun i hi=>.inr (by have hi:i=z+1:=hi;have:=HZW.out;omega))⟩
open Go.RowKit Go.Gk
theorem zqo {w:World} {v:Value} {l:List Int} (hl:zae zby 1 (fun _=>True) w v l) (x:Int):
 Calls Tryz.prog 192 #[v,iV x] w fun y w'=>(∃k:Int,y=.returned (.tuple #[iV (if 1≤x∧x≤l.length then(l[(x-1).toNat]?).getD 0 else 0),iV k]))∧w=w':=by
 obtain⟨A,c,rfl,hc1,hc2⟩:=hl.form;by_cases hx:1≤x∧x≤(l.length:Int)
 ·rw[if_pos hx]
  obtain⟨k,rfl⟩:∃k:Nat,x=(k:Int)+1:=⟨(x-1).toNat,by omega⟩
  have hk:k<l.length:=by omega
  have e:((k:Int)+1-1).toNat=k:=by omega
  rw[e,List.getElem?_eq_getElem hk,Option.getD_some];obtain⟨g,o,rfl⟩:=hl.head (by omega);have q0:=Row.one hl zap hk rfl;have hk':(k:Int)<(l.length:Int):=by omega
  have hk0:=znn k;have g1:¬((k:Int)+1)<1:=by omega
  have g2:¬(l.length:Int)<((k:Int)+1):=by omega
  have g3:wrap64 ((k:Int)+1-1)=(k:Int):=by unfold wrap64;omega
  generalize l[k]=y at *;clear hl e hx;go_enter Tryz.func192,Tryz.ntmps192;go_wp2;go_ret2
  exact⟨⟨_,rfl⟩,rfl⟩
 ·rw[if_neg hx];by_cases h1:x<1
  ·clear hx hl;go_enter Tryz.func192,Tryz.ntmps192;go_wp2;go_ret2
   exact⟨⟨_,rfl⟩,rfl⟩
  ·have h2:(l.length:Int)<x:=by omega
   clear hx hl;go_enter Tryz.func192,Tryz.ntmps192;go_wp2;go_ret2
   exact⟨⟨_,rfl⟩,rfl⟩
theorem zqp {w:World} {e a s r l n:Value} {b:Bks} {us:List (Ent×Value)} (h:BksAt w e a s r l n b us) (x:Int):
 Calls Tryz.prog 111 #[.agg #[e,a,s,r,l,n],iV x] w fun y w'=>y=.returned (iV (zgg b x))∧Tf w w':=by
 have ta:=tal w (.cells #[e,a,s,r,l,n] 29);have bB:=Blk.new w 29 #[e,a,s,r,l,n];have HC:=Lib.hid (zqo (h.ents.keep ta) x);obtain⟨Ae,ce,rfl,_,_⟩:=h.ents.form;obtain⟨Aa,ca,rfl,_,_⟩:=h.accs.form;obtain⟨As,cs,rfl,_,_⟩:=h.stakes.form;obtain⟨Ar,cr,rfl,_,_⟩:=h.rates.form;obtain⟨Al,cl,rfl,_,_⟩:=h.locks.form;obtain⟨An,cn,rfl,_,_⟩:=h.ent.row.form;have g0:=bB.at0;have HE:=Lib.hid (show zgg b x=if 1≤x∧x≤(b.ents.length:Int)then(b.ents[(x-1).toNat]?).getD 0 else 0 from rfl);rw[←HE.out]at HC;generalize zgg b x=cu at *;clear h bB HE;go_enter Tryz.func111,Tryz.ntmps111;go_wp2_with fail;refine HC.out.mono ?_;rintro _ _ ⟨⟨k,rfl⟩,rfl⟩;go_wp2;go_ret;exact⟨rfl,ta⟩
theorem zqq {w:World} {e a s r l n:Value} {b:Bks} {us:List (Ent×Value)} (h:BksAt w e a s r l n b us) {k:Nat} (hk:k<b.accs.length) (x:Int) (hx:x=(k:Int)+1):
 Calls Tryz.prog 112 #[.agg #[e,a,s,r,l,n],iV x] w fun y w'=>y=.returned (.tuple #[.agg (zfq b.accs[k]).toArray,.bool true])∧Tf w w':=by
 subst hx;have ta:=tal w (.cells #[e,a,s,r,l,n] 29);have tb:=tal (w.alloc (.cells #[e,a,s,r,l,n] 29)) (.cells #[iV 0,iV 0,.bool false,.bool false] 81);have tw:=ta.trans tb;have bB:=(Blk.new w 29 #[e,a,s,r,l,n]).keep tb id;have bA:=Blk.new2 w (.cells #[e,a,s,r,l,n] 29) 81 #[iV 0,iV 0,.bool false,.bool false];have hacc:=h.accs.keep tw;obtain⟨Ae,ce,rfl,_,_⟩:=h.ents.form;obtain⟨Aa,ca,rfl,_,_⟩:=h.accs.form;obtain⟨As,cs,rfl,_,_⟩:=h.stakes.form;obtain⟨Ar,cr,rfl,_,_⟩:=h.rates.form;obtain⟨Al,cl,rfl,_,_⟩:=h.locks.form;obtain⟨An,cn,rfl,_,_⟩:=h.ent.row.form;obtain⟨g,o,rfl⟩:=hacc.head (by omega);obtain⟨q0,q1,q2,q3⟩:=Row.four hacc zcm hk rfl;have g1:=bB.cell 1;simp only[List.getElem?_toArray,List.getElem?_cons_succ,List.getElem?_cons_zero]at g1;have hk':(k:Int)<(b.accs.length:Int):=by omega
 have hk0:=znn k;have c1:¬((k:Int)+1)<1:=by omega
 have c2:¬(b.accs.length:Int)<((k:Int)+1):=by omega
 have c3:wrap64 ((k:Int)+1-1)=(k:Int):=by unfold wrap64;omega
 generalize b.accs[k]=y at *;obtain⟨y1,y2,y3,y4⟩:=y;unfold zfq;simp only at q0 q1 q2 q3⊢;have hsz:((w.alloc (.cells #[.slice Ae b.ents.length ce,.slice (some ⟨g,o,none⟩) b.accs.length ca,.slice As b.stakes.length cs,.slice Ar b.rates.length cr,.slice Al b.locks.length cl,.slice An us.length cn] 29)).alloc (.cells #[iV 0,iV 0,.bool false,.bool false] 81)).heap.size=w.heap.size+2:=by simp
 clear h hacc ta tb bB;have HTW:=Lib.hid tw;clear tw;go_enter Tryz.func112,Tryz.ntmps112;go_wp2_with (refine stH (w.heap.size+1) #[iV y1,iV y2,.bool y3,.bool y4] bA ?_);intro w9 HBF HTF;clear bA q0 q1 q2 q3 g1;go_wp2;(try simp only[exS]);refine zbi HBF.out ?_;exact⟨rfl,HTW.out.trans' (F':=fun g=>g=w.heap.size+1) HTF.out (fun i hi=>.inr (by have hi:i=w.heap.size+1:=hi;omega))⟩
