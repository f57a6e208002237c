/-
  The books and the cell are small enough, walked. (Printed by gen_kd.py.)
-/
import Derived.Test.YtlnlghboaheemaaGreatDoorZ84
set_option maxRecDepth 100000
set_option maxHeartbeats 25600000
namespace Go.Proofs.YtlnlghboaheemaaGreatDoor
open Go.RowKit Go.Gk
def FewRet (b:Bks) (p:Int) (w:World) (x:Ending) (w':World):Prop:=∃m:Bool,x=.returned (.bool m)∧(m=true→zuj b=true∧b.ents.length≤6∧b.accs.length≤9∧p≤3)∧Tf w w'
theorem z2e {w:World} {e a s r l n:Value} {b:Bks} {us:List (Ent×Value)} (h:BksAt w e a s r l n b us) (c1 c2 c3 c4 c5 c6:Int):
 Calls Tryz.prog 7 #[.agg #[e,a,s,r,l,n],.agg #[.int .i64 c1,.int .i64 c2,.int .i64 c3,.int .i64 c4,.int .i64 c5,.int .i64 c6]] w (FewRet b c4 w):=by
 obtain⟨W,hW,tw,bB,bC⟩:=al2 w #[e,a,s,r,l,n] #[.int .i64 c1,.int .i64 c2,.int .i64 c3,.int .i64 c4,.int .i64 c5,.int .i64 c6] 29 31;have HF:=Lib.hid (zwy (h.keep tw));obtain⟨Ae,ce,rfl,_,_⟩:=h.ents.form;obtain⟨Aa,ca,rfl,_,_⟩:=h.accs.form;obtain⟨As,cs,rfl,_,_⟩:=h.stakes.form;obtain⟨Ar,cr,rfl,_,_⟩:=h.rates.form;obtain⟨Al,cl,rfl,_,_⟩:=h.locks.form;obtain⟨An,cn,rfl,_,_⟩:=h.ent.row.form;obtain⟨g0,g1,g2,g3,g4,g5⟩:=bB.f6;clear h
 obtain⟨m,hm⟩:∃m,zuj b=m:=⟨_,rfl⟩
 rw[hm]at HF;have HM:=Lib.hid hm;clear hm;generalize hn0:b.ents.length=n0 at *;generalize hn1:b.accs.length=n1 at *;have HN0:=Lib.hid hn0;have HN1:=Lib.hid hn1;clear hn0 hn1;generalize us.length=n2 at *;generalize b.stakes.length=n3 at *;generalize b.rates.length=n4 at *;generalize b.locks.length=n5 at *;go_enter Tryz.func7,Tryz.ntmps7;go_wp2_with fail;refine HF.out.mono ?_;rintro _ w1 ⟨rfl,t1⟩;have bB1:=bB.keep t1 id;have bC1:=bC.keep t1 id;have tt:=tw.trans t1;clear HF g0 g1 g2 g3 g4 g5 hW tw t1 bB bC;obtain⟨g0,g1,g2,g3,g4,g5⟩:=bB1.f6;have k3:=bC1.at3;clear bB1 bC1
 cases m
 ·go_wp2;go_ret;exact⟨false,rfl,(fun h=>by cases h),tt⟩
 by_cases h0:(n0:Int)≤6
 rotate_left
 ·go_wp2;go_ret;exact⟨false,rfl,(fun h=>by cases h),tt⟩
 by_cases h1:(n1:Int)≤9
 rotate_left
 ·go_wp2;go_ret;exact⟨false,rfl,(fun h=>by cases h),tt⟩
 by_cases h2:(n2:Int)≤12
 rotate_left
 ·go_wp2;go_ret;exact⟨false,rfl,(fun h=>by cases h),tt⟩
 go_wp2;go_ret;exact⟨_,rfl,fun h9=>⟨HM.out,by rw[HN0.out];omega,by rw[HN1.out];omega,of_decide_eq_true h9⟩,tt⟩
end Go.Proofs.YtlnlghboaheemaaGreatDoor
namespace Go.Gk.V38
open Go.RowKit Go.Gk.V32 Go.Gk.V33 Go.Gk.V37
def z03 (e p u a:Int):Rt6:=(7,e,a,p,u,0)
theorem keyT_in {b:Bks} (hok:zba b=true) {e p u a:Int} (h:za3 (z03 e p u 1) b.ents.length b.accs.length=0) (ha:zas b.accs a=true):za3 (z03 e p u a) b.ents.length b.accs.length=0:=z0e hok (z41 (r:=7) (by omega) h) ha (by omega)
theorem z4k {b:Bks} (hok:zba b=true) {e p u a:Int} (h:za3 (z03 e p u 1) b.ents.length b.accs.length=0) (ha:a∈zag b.accs):z2o (zyq b (z03 e p u a)):=z1z hok _ (Nat.lt_succ_self _) (keyT_in hok h (zy1.1 ha))
theorem keyT_sum {b:Bks} (hok:zba b=true) {e p u:Int} (h:za3 (z03 e p u 1) b.ents.length b.accs.length=0) (hz:∀a∈zag b.accs,(zyq b (z03 e p u a)).2=0):((zag b.accs).map fun a=>(zyq b (z03 e p u a)).1).sum=0:=trial hok 42 (by omega) (z41 (r:=7) (by omega) h) hz
end Go.Gk.V38
namespace Go.Proofs.YtlnlghboaheemaaGreatDoor
open Go.RowKit Go.Gk Go.Gk.V32 Go.Gk.V33 Go.Gk.V37 Go.Gk.V38
theorem z0p {w:World} {e a s r l n:Value} {b:Bks} {us:List (Ent×Value)} (h:BksAt w e a s r l n b us) (h64:Bks64 b) (hT:Tab64 3 w) (c1 c2 c3 c4 c5 c6:Int):
 Calls Tryz.prog 4 #[.agg #[e,a,s,r,l,n],.agg #[.int .i64 c1,.int .i64 c2,.int .i64 c3,.int .i64 c4,.int .i64 c5,.int .i64 c6]] w fun x w'=>x=.returned (.bool true)∧Tf w w':=by
 have HTA:=Lib.hid (fun w' (t9:Tf w w')=>hT.keep t9);clear hT;obtain⟨W,hW,tw,hbB,hbC⟩:=al2 w #[e,a,s,r,l,n] #[.int .i64 c1,.int .i64 c2,.int .i64 c3,.int .i64 c4,.int .i64 c5,.int .i64 c6] 29 31;have HF:=Lib.hid (z2e (h.keep tw) c1 c2 c3 c4 c5 c6);have HW:=Lib.hid (h.keep tw);have hsz:w.heap.size+2≤W.heap.size:=hbC.lt;obtain⟨Ae,ce,rfl,_,_⟩:=h.ents.form;obtain⟨Aa,ca,rfl,_,_⟩:=h.accs.form;obtain⟨As,cs,rfl,_,_⟩:=h.stakes.form;obtain⟨Ar,cr,rfl,_,_⟩:=h.rates.form;obtain⟨Al,cl,rfl,_,_⟩:=h.locks.form;obtain⟨An,cn,rfl,_,_⟩:=h.ent.row.form;clear h;obtain⟨g0,g1,g2,g3,g4,g5⟩:=hbB.f6;obtain⟨k0,k1,k2,k3,k4,k5⟩:=hbC.f6;go_enter Tryz.func4,Tryz.ntmps4;go_wp2_with fail;generalize hzw:w.heap.size=z at *;have HZW:=Lib.hid hzw;clear hzw;refine HF.out.mono ?_;rintro _ w1 ⟨fw,rfl,hfw,t1⟩;clear HF k0 k1 k2 k3 k4 k5 g0 g1 g2 g3 g4 g5 hW;have tt1:=tw.trans t1
 cases fw
 ·clear hfw;go_wp2_with fail;refine(zy0 w1 (HTA.out w1 tt1)).mono ?_;rintro _ w2 ⟨rfl,t2⟩;go_wp2;go_ret;exact⟨rfl,tt1.trans t2⟩
 have hfew:=zwv (hfw rfl).1;have hB1:=hbB.keep t1 id;have hC1:=hbC.keep t1 id;have h1:=HW.out.keep t1;have hk1:z+2≤w1.heap.size:=by have:=t1.size;omega
 clear hbB hbC HW tw t1 hfw hsz;obtain⟨g0,g1,g2,g3,g4,g5⟩:=hB1.f6;go_wp2_with fail;refine(z5d h1 hfew h64).mono ?_;rintro _ w2 ⟨hsee,t2⟩;have tt2:=tt1.trans t2
 rcases hsee with⟨_,m,rfl,hm⟩|⟨hok,bv,bi,B,t,mr,mp,e',a',s',r',l',n',lv,fs,us',rfl,hV,hFar⟩
 ·have hm2:(m !=0)=true:=by simpa using hm
  clear g0 g1 g2 g3 g4 g5 hm;go_wp2_with fail;refine(zy0 w2 (HTA.out w2 tt2)).mono ?_;rintro _ w3 ⟨rfl,t3⟩;go_wp2;go_ret;exact⟨rfl,tt2.trans t3⟩
 have hk5:z+2≤w2.heap.size:=Nat.le_trans hk1 t2.size;have hC2:=hC1.keep t2 id;clear g0 g1 g2 g3 g4 g5 hB1 hC1 h1 tt1 t2;have hn:=zvc hfew;have hpl:=z34 hfew;have FACTS:=Lib.hid (show RuleFacts b from⟨hn,zxs hfew,ztj h64,by have:=hfew.rates;omega,(zec hok).1,by have:=hfew.accs;omega,hok⟩);have HOK:=Lib.hid hok;have HPL:=Lib.hid hpl;clear hfew h64 hok hpl;go_wp2_with (refine zab rfl _ _ _ rfl (z+1) 0 (.int .i64 7) (by rfl) (by rfl) rfl (by rfl) hC2 (by simp) ?_;refine Hid.out ?_);refine Lib.hid ?_;intro wa hCa tsa;(try simp only[List.setIfInBounds_toArray,List.set_cons_succ,List.set_cons_zero]at hCa);go_wp2_with (refine zab rfl _ _ _ rfl (z+1) 5 (.int .i64 0) (by rfl) (by rfl) rfl (by rfl) hCa (by simp) ?_;refine Hid.out ?_);refine Lib.hid ?_;intro wb hCb tsb;(try simp only[List.setIfInBounds_toArray,List.set_cons_succ,List.set_cons_zero]at hCb);go_wp2_with (refine zab rfl _ _ _ rfl (z+1) 2 (.int .i64 1) (by rfl) (by rfl) rfl (by rfl) hCb (by simp) ?_;refine Hid.out ?_);refine Lib.hid ?_;intro w5 hC5 tsc;(try simp only[List.setIfInBounds_toArray,List.set_cons_succ,List.set_cons_zero]at hC5);have tS:=(tsa.trans tsb).trans tsc;have hz5:z+2≤w5.heap.size:=by have:=tS.size;omega
 have tt5:=tt2.trans' tS (fun i hi=>.inr (by have hi:i=z+1:=hi;have:=HZW.out;omega));obtain⟨us5,hV5⟩:=hFar.view hV tS (fun g hg=>by have hg:g=z+1:=hg;omega);clear hC2 hCa hCb tsa tsb tsc tt2;have HMY:=Lib.hid (ze3 hV5 (z03 c2 c4 c5 1));unfold z03 zcq at HMY;simp only at HMY;have HIN:=Lib.hid (show∀m,za3 (7,c2,1,c4,c5,0) b.ents.length b.accs.length=m→za3 (z03 c2 c4 c5 1) b.ents.length b.accs.length=m from fun _ h=>h);generalize hci:za3 (7,c2,1,c4,c5,0) b.ents.length b.accs.length=ci at *;have HCI:=Lib.hid (HIN.out ci rfl);obtain⟨k0,k1,k2,k3,k4,k5⟩:=hC5.f6;clear hci HIN;go_wp2_with fail;refine HMY.out.mono ?_;rintro _ w4 ⟨rfl,t4⟩;have hC4:=hC5.keep t4 id;have tt4:=tt5.trans t4;have tS4:=tS.trans (t4.mono fun i _ h=>h.elim);have hV4:=hV5.keep t4;clear HMY k0 k1 k2 k3 k4 k5 hC5 tt5 tS t4 hV5;by_cases hc0:ci=0
 rotate_left
 ·have hcb:(ci !=0)=true:=by simpa using hc0
  clear hc0 hC4 hV4;go_wp2_with fail;refine(zy0 w4 (HTA.out w4 tt4)).mono ?_;rintro _ wz ⟨rfl,tz⟩;go_wp2;(try rw[Exit.noGoto_ret]);go_ret;exact⟨rfl,tt4.trans tz⟩
 subst hc0;have HLV:=Lib.hid (zg4 hV4 hn);have HYW:=Lib.hid tt4.size;have hzz:z+2≤w4.heap.size:=by have:=hC4.lt;omega
 go_wp2_with fail;refine HLV.out.mono ?_;rintro _ w7 ⟨u,rfl,hO⟩;have hC7:=hC4.keep hO.tch id;have tt7:=tt4.trans hO.tch;have tS7:=tS4.trans (hO.tch.mono fun i _ h=>h.elim);have HSM:=Lib.hid (keyT_sum (b:=b) (e:=c2) (p:=c4) (u:=c5) HOK.out HCI.out);have HFI:=Lib.hid (fun a (ha:a∈zag b.accs)=>z4k (b:=b) (e:=c2) (p:=c4) (u:=c5) HOK.out HCI.out ha);have hlen:(zag b.accs).length≤1000:=hn;have HVV:=Lib.hid (fun w' (ht:Tch (fun g=>g=z+1) w2 w')=>hFar.view hV ht (fun g hg=>by have hg:g=z+1:=hg;omega));clear HLV hn HCI tS4 hC4 hV4 tt4;generalize zag b.accs=L at *;have HROW:=Lib.hid (fun wr (ht:Tch (fun g=>g=z+1) w7 wr)=>Row.keepTo (P':=fun _=>True) (Row.own hO.own (P:=fun g=>w4.heap.size≤g) (fun g hg=>(hO.own.lt g hg).1)) ht (fun g _ hg=>⟨fun e=>by have e:g=z+1:=e;have hg:w4.heap.size≤g:=hg;omega,trivial⟩));have HO7:=Lib.hid hO.tch.size;obtain⟨U,cu,rfl,hu1,hu2⟩:=hO.form;have hln:(L.length:Int)≤1000:=by omega
 clear hO;go_wp2_with fail;go_loopw [7,9] (fun o i wr=>∃(j:Nat) (A:Option Addr) (k:Nat) (c3:Int),j≤L.length∧i=.int .i64 j∧o=.slice A j k∧wr.ownsRow w7.heap.size 31 6 (.slice A j k) j (((L.take j).map (z03 c2 c4 c5)).flatMap za2)∧Blk wr (z+1) 31 #[.int .i64 7,.int .i64 c2,.int .i64 c3,.int .i64 c4,.int .i64 c5,.int .i64 0]∧Tch (fun g=>g=z+1) w7 wr) (fun _ i _=>L.length-(intOf i).toNat)
 case atStart=>exact⟨0,none,0,1,Nat.zero_le _,rfl,rfl,World.ownsRow_nil _ _ _ _,hC7,Tch.refl _ _⟩
 case round=>
  obtain⟨j,A,k,c3,hj,rfl,rfl,hK,hC,ht⟩:=hrel;have hj0:=znn j;by_cases hlt:j<L.length
  ·have hlt':(j:Int)<(L.length:Int):=by omega
   have hl9:=HROW.out wr ht;obtain⟨g,o9,rfl⟩:=hl9.head (by omega);have q0:=Row.one hl9 zap hlt rfl;have HTK:=Lib.hid (show(L.take (j+1)).map (z03 c2 c4 c5)=(L.take j).map (z03 c2 c4 c5)++[z03 c2 c4 c5 L[j]] by rw[List.take_succ_eq_append_getElem hlt,List.map_append];rfl);generalize L[j]=x at *;clear hl9;go_wp2_with (refine zab rfl _ _ _ rfl (z+1) 2 (.int .i64 x) (by rfl) (by rfl) rfl (by rfl) hC (by simp) ?_;refine Hid.out ?_);refine Lib.hid ?_;intro ws hCs tss;(try simp only[List.setIfInBounds_toArray,List.set_cons_succ,List.set_cons_zero]at hCs);have hKs:=tss.own hK (fun g hg e=>by have:=(hK.lt g hg).1;have e:g=z+1:=e;have:=HO7.out;omega);have hts:=ht.trans tss;have HTS:=Lib.hid hts.size;have tA:=tal ws (.cells #[.int .i64 7,.int .i64 c2,.int .i64 x,.int .i64 c4,.int .i64 c5,.int .i64 0] 31);have bA:=Blk.new ws 31 #[.int .i64 7,.int .i64 c2,.int .i64 x,.int .i64 c4,.int .i64 c5,.int .i64 0];have hrA:zae za2 6 (fun _=>True) _ (.slice (some ⟨ws.heap.size,0,none⟩) 1 1) [z03 c2 c4 c5 x]:=Row.blk (B:=fun _=>True) (n:=1) (size:=6) bA trivial rfl (by decide);have hsA:=hrA.src;have hKA:=tA.own hKs (fun _ _=>id);have hCA:=hCs.keep tA id;have htA:=hts.trans (Exn.touch tA);obtain⟨k0,k1,k2,k3,k4,k5⟩:=hCs.f6;have HC2:=Lib.hid hCA;have HTT:=Lib.hid htA;have hkl:=hKs.lt;clear hK hC ht tss hKs hts tA bA hCs hCA htA hrA;go_wp2_with (at_builtin;refine apd z00 hKA hsA (ziv _) ?_ (h63:=by unfold maxLen;omega) (hbytes:=by omega);refine Hid.out ?_);refine Lib.hid ?_;intro v2 w10 ho2 hg2 hl2;obtain⟨A10,k10,rfl,_,_⟩:=zac ho2;have tg:=Tch.grown (F:=fun m=>(Value.slice A j k).ownBlock=some m) hg2 (fun m hm=>.inl hm);have hC10:=HC2.out.keep tg (fun hf=>by have:=(hKA.lt _ hf).1;have:=HO7.out;omega);have ht10:=HTT.out.trans' tg (fun i hi=>.inr (hKA.lt i hi).1)
   have hK10:=zbk ho2 (fun g hg=>show w7.heap.size≤g by
    rcases hl2 g hg with h|h
    ·exact(hKA.lt g h).1
    ·have:=HTS.out;omega)
   clear hKA hsA k0 k1 k2 k3 k4 k5 ho2 hg2 hl2 tg hkl q0;go_wp2;go_roundw
   case rel=>exact⟨j+1,A10,k10,x,by omega,by go_num,rfl,by rw[HTK.out,List.flatMap_append];simpa using hK10,hC10,ht10⟩
   case measure=>simp[intOf]<;>omega
  ·obtain rfl:j=L.length:=by omega
   have hlt':¬(L.length:Int)<(L.length:Int):=by omega
   rw[List.take_length]at hK;have Tr:=tt7.trans' ht (fun i hi=>.inr (by have hi:i=z+1:=hi;have:=HZW.out;omega));have t2r:=tS7.trans ht;obtain⟨usr,hVr⟩:=HVV.out wr t2r
   have HVS:=Lib.hid (z0i (cl:=L.map (z03 c2 c4 c5)) hVr FACTS.out HPL.out (HTA.out wr Tr) (by
    have h9:=Row.own hK (P:=fun _=>True) (fun _ _=>trivial);show Row (fun _=>True) wr (.slice A L.length k) (L.map (z03 c2 c4 c5)).length 6 _;rw[List.length_map]
    exact h9) (by rw[List.length_map];omega))
   have HV64:=Lib.hid (fun a=>z40 HOK.out (z03 c2 c4 c5 a));rw[List.map_map]at HVS
   obtain⟨Vf,hVf⟩:∃Vf:Int→Vl,(zyq b∘z03 c2 c4 c5)=Vf:=⟨_,rfl⟩
   have HVE:∀a,zyq b (z03 c2 c4 c5 a)=Vf a:=fun a=>by rw[←hVf];rfl
   rw[hVf]at HVS;simp only[HVE]at HSM HFI HV64;have hzr:=hC.lt;clear hVf HVE hK ht hVr t2r hC hC7 HVV HROW HOK HPL FACTS tS7 tt7;go_wp2_with fail;refine HVS.out.mono ?_;rintro _ w8 ⟨u8,rfl,hr8,t8⟩;have hr8:=hr8.weak (P':=fun _=>True) (fun _ _=>trivial);obtain⟨A8,k8,rfl,_,_⟩:=hr8.form;have T8:=Tr.trans t8;have tB:=tal w8 (.cells #[.bool false,.slice none 0 0] 60);have bS:=Blk.new w8 60 #[.bool false,.slice none 0 0];have HYW:=Lib.hid T8.size;have hz8:z+2≤w8.heap.size:=by have:=t8.size;omega
   have hr9:=Row.keepTo (P':=fun g=>g<w8.heap.size) (Row.keepTo (P':=fun g=>g<w8.heap.size) hr8 (Tch.refl (fun _=>False) _) (fun g hg _=>⟨id,hg⟩)) tB (fun g _ hg=>⟨id,hg⟩);have T9:=T8.trans tB;rw[List.length_map];clear HVS hr8 Tr t8 T8 tB;go_wp2_with fail;generalize w8.alloc _=w9 at *;generalize hyy:w8.heap.size=y at *;have HYY:=Lib.hid hyy;clear hyy;have HROW:=Lib.hid (fun wr (ht:Tch (fun g=>g=y) w9 wr)=>Row.keepTo (P':=fun _=>True) hr9 ht (fun g _ hg=>⟨fun e=>by have e:g=y:=e;have hg:g<y:=hg;omega,trivial⟩));clear hr9;go_loopw [12] (fun i wr=>∃(j:Nat) (S:Int),j≤L.length∧i=.int .i64 j∧(∀a∈L.take j,(Vf a).2=0)∧S=((L.take j).map fun a=>(Vf a).1).sum∧S.natAbs≤j*9223372036854775808∧SumAt2 60 (z+1) y wr S∧Tch (fun g=>g=y) w9 wr) (fun i _=>L.length-(intOf i).toNat)
   case atStart=>exact⟨0,0,Nat.zero_le _,rfl,(fun a ha=>by rw[List.take_zero]at ha;cases ha),rfl,by simp,SumAt2.zero bS,Tch.refl _ _⟩
   case round=>
    obtain⟨j,S,hj,rfl,hz,hS,hSb,hSM,ht⟩:=hrel;obtain⟨sg,D,nd,cd,hb,hbig⟩:=hSM;have HZ:=Lib.hid hz;have HS:=Lib.hid hS;have HSB:=Lib.hid hSb;have hj0:=znn j;have Tr:=T9.trans' ht (fun i hi=>.inr (by have hi:i=y:=hi;have:=HYW.out;omega));clear hz hS hSb;by_cases hlt:j<L.length
    ·have hlt':(j:Int)<(L.length:Int):=by omega
     have hl9:=HROW.out wr ht;have hlm:(L.map Vf).length=L.length:=List.length_map _;have hl9:zae zzb 2 (fun _=>True) wr (.slice A8 (L.map Vf).length k8) (L.map Vf):=hl9;obtain⟨g,o9,rfl⟩:=hl9.head (by omega);obtain⟨q0,q1⟩:=Row.two (i:=j) hl9 zyt (by omega) (by rw[List.getElem_map];rfl);have HTK:=Lib.hid (show L.take (j+1)=L.take j++[L[j]]from List.take_succ_eq_append_getElem hlt);have HME:=Lib.hid (show L[j]∈L from List.getElem_mem _);generalize L[j]=x at *;have HFX:=Lib.hid (HFI.out x HME.out);have H64:=Lib.hid (HV64.out x);generalize hvx:Vf x=vx at *;have HEX:=Lib.hid hvx;obtain⟨v1,v2⟩:=vx;simp only at q0 q1;have hfx:=HFX.out;clear hvx hl9 hlm;by_cases hv2:v2=0
     rotate_left
     ·have hv2b:(v2 !=0)=true:=by simpa using hv2
      unfold z2o at hfx;simp only at hfx;have h1040:v2=10∨v2=40:=by omega
      clear hfx hv2 hb hbig ht;rcases h1040 with rfl|rfl
      ·go_wp2_with fail;refine(zy0 _ (HTA.out _ Tr)).mono ?_;rintro _ wz ⟨rfl,tz⟩;go_wp2;(try rw[Exit.noGoto_ret]);go_ret;exact⟨rfl,Tr.trans tz⟩
      ·go_wp2_with fail;refine(zy0 _ (HTA.out _ Tr)).mono ?_;rintro _ wz ⟨rfl,tz⟩;go_wp2;(try rw[Exit.noGoto_ret]);go_ret;exact⟨rfl,Tr.trans tz⟩
     subst hv2;have h64: -9223372036854775808≤v1∧v1≤9223372036854775807:=H64.out;have hyd:=hb.lt;have HO1:=Lib.hid (fun wa (h9:wr.heap.size≤wa.heap.size)=>zft (B:=fun g=>g≠z+1∧g≠y) (w:=wa) (x:=v1) h64.1 h64.2 (fun g hg=>by omega));obtain⟨y0,y1⟩:=hb.f2;have X0:=wc0 y0;have X1:=wc0 y1;have X2:=wc0 q0;have HFS:=Lib.hid (show(dg S.natAbs).length≤50000 from z49 (Nat.le_trans HSB.out (Nat.mul_le_mul_right _ (by omega))));have HFV:=Lib.hid (show(dg v1.natAbs).length≤50000 from z49 (by have h1:=h64.1;have h2:=h64.2;omega));have HNB:=Lib.hid (show(S+v1).natAbs≤(j+1)*9223372036854775808 by have h1:=h64.1;have h2:=h64.2;have:=HSB.out;omega);have HBD:=Lib.hid hbig;have HHB:=Lib.hid hb;have HHT:=Lib.hid ht;clear hfx h64 hbig hb ht;go_wp2_with fail;refine zai (fun _=>False) [] 7 [(6,.inr fun u w'=>BigIs (fun g=>g≠z+1∧g≠y) w' u v1)] [] ?_ ?_
     ·exact⟨fun u a b hr h=>h.beside hr (fun _ _ h=>h.elim),trivial⟩
     intro bef _;iterate 6 (refine zbt ?_;(try simp only[zaw]))
     refine zaq (by rfl) (by rfl) (fun wa hr hf=>?_) (fun dv=>?_)
     ·have hs9:=((Tch.drew (fun _=>False) wr).trans hr).size;refine zaa (d:=93) rfl (by simp) (fun K hK=>?_);go_step;refine(HO1.out wa hs9).mono ?_;rintro _ wb ⟨v',rfl,ho,tb⟩;exact hK _ _ ⟨⟨ho,tb⟩,zaf⟩
     simp only[zaw];refine za6 ?_;intro we hr hp hap;have hdv:=hp (6,fun w'=>BigIs (fun g=>g≠z+1∧g≠y) w' dv v1) (List.mem_cons_self ..);simp only at hdv;have te:=(Tch.drew _ wr).trans hr;have HPL:=Lib.hid (zsy (HBD.out.beside te (fun _ _ h=>h.elim)) hdv HFS.out HFV.out (fun g hg=>by have:=te.size;omega));have hb8:=HHB.out.keep te id;have ht8:=HHT.out.trans (Exn.touch te);clear hap hp hr X0 X1 X2 y0 y1 hdv HO1 HBD HHB HHT te q0 q1;go_wp2_with fail;refine HPL.out.mono ?_;rintro _ wf ⟨v',rfl,hsum,tf⟩;obtain⟨sg2,D2,n2,cd2,rfl⟩:=hsum.form2;have hb9:=hb8.keep tf id;have ht9:=ht8.trans (Exn.touch tf);have HSU:=Lib.hid hsum;clear HPL hb8 ht8 tf hsum;go_wp2_with (refine stK y #[.bool sg2,.slice D2 n2 cd2] hb9 ?_);intro wg hbF tF;have HSA:=Lib.hid (show SumAt2 60 (z+1) y wg (S+v1)from⟨sg2,D2,n2,cd2,hbF,HSU.out.beside tF (fun _ hg=>hg.2)⟩);have htF:=ht9.trans tF;clear hb9 ht9 hbF tF
     have HZN:=Lib.hid (show∀a∈L.take (j+1),(Vf a).2=0 by
      rw[HTK.out];intro a ha;rcases List.mem_append.1 ha with h|h
      ·exact HZ.out a h
      ·obtain rfl:=List.mem_singleton.1 h
       rw[HEX.out])
     have HSN:=Lib.hid (show S+v1=((L.take (j+1)).map fun a=>(Vf a).1).sum by
      rw[HTK.out,List.map_append,List.sum_append,←HS.out]
      simp[HEX.out])
     go_wp2;go_roundw
     case rel=>exact⟨j+1,S+v1,by omega,by go_num,HZN.out,HSN.out,HNB.out,HSA.out,htF⟩
     case measure=>simp[intOf]<;>omega
    ·obtain rfl:j=L.length:=by omega
     have hlt':¬(L.length:Int)<(L.length:Int):=by omega
     have hz:=HZ.out;have hs:=HS.out;rw[List.take_length]at hz hs;have hs0:=HSM.out hz;rw[hs0]at hs;subst hs;obtain⟨dv,hdv,hd⟩:=hbig;obtain⟨A0,c0,rfl,_,_⟩:=hd.form;injection hdv with hdv;have hd2:sg=false∧D=A0∧nd=(dg (0:Int).natAbs).length∧cd=c0:=by simpa using(show #[Value.bool sg,.slice D nd cd]= #[.bool _,.slice A0 _ c0]from hdv)
     have hn0:nd=0:=by rw[hd2.2.2.1];simp[zcj]
     subst hn0;have y1:=hb.at1;clear hz hs0 hdv hd2 hd hb ht;go_wp2_with fail;refine(zy0 wr (HTA.out wr Tr)).mono ?_;rintro _ wz ⟨rfl,tz⟩;go_wp2;(try rw[Exit.noGoto_ret]);go_ret;exact⟨rfl,Tr.trans tz⟩
theorem z0q {w:World} {u v:Value} (hT:Tab64 3 w) (hu:∃b,BooksIs (fun _=>True) w u b∧Bks64 b) (hv:∃c:Rt6,v=zcq c∧(I64 c.1∧I64 c.2.1∧I64 c.2.2.1∧I64 c.2.2.2.1∧I64 c.2.2.2.2.1∧I64 c.2.2.2.2.2)):
 Calls Tryz.prog 4 #[u,v] w fun x w'=>x=.returned (.bool true)∧Tf w w':=by
 obtain⟨b,hb,h64⟩:=hu;obtain⟨⟨c1,c2,c3,c4,c5,c6⟩,rfl,_⟩:=hv;obtain⟨e,a,s,r,l,n,us,rfl,h⟩:=hb.at;exact z0p h h64 hT c1 c2 c3 c4 c5 c6
