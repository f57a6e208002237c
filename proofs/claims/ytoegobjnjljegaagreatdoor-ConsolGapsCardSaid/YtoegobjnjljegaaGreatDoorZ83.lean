/-
  The cells that some need, walked.
-/
import Derived.Test.YtoegobjnjljegaaGreatDoorZ81
import Derived.Test.YtoegobjnjljegaaGreatDoorZ82
set_option maxRecDepth 100000
set_option maxHeartbeats 25600000
namespace Go.Gk.V38
theorem zy8 (v:Value) (c:Rt6):∀th:List Rt6,zar (th.map fun k=>(k,v)) c=if c∈th then some v else none
 |[]=>rfl
 |x::r=>by
  have ih:=zy8 v c r;rw[List.map_cons];show(if c=x then some v else zar (r.map fun k=>(k,v)) c)=_;by_cases h:c=x
  ·simp[h]
  ·rw[if_neg h,ih];simp[h]
end Go.Gk.V38
namespace Go.Proofs.YtoegobjnjljegaaGreatDoor
open Go.RowKit Go.Gk Go.Gk.V33 Go.Gk.V37 Go.Gk.V38
section
variable {w:World} {bv bi B t mr mp:Nat} {e a s r l n lv:Value} {fs:List Value} {b:Bks} {us:List (Ent×Value)}
theorem zz3 (h:Vw w bv bi B t mr mp e a s r l n lv fs b us) (F:RuleFacts b) (hpl:(zay b.entries).length≤3000) (hT:Tab64 0 w) {v:Value} {cl:List Rt6} (hl:zae za2 6 (fun _=>True) w v cl) (hn:cl.length≤100000) (most:Int):
 Calls Tryz.prog 103 #[.pointer (some ⟨bv,0,none⟩),v,iV most] w fun x w'=>∃(L:List Rt6) (u:Value) (er:Int),x=.returned (.tuple #[u,iV er])∧Outs za2 6 31 w w' u L∧NeedsAns b cl most L er:=by
 obtain⟨A,c,rfl,hc1,hc2⟩:=hl.form;have HV:=Lib.hid (fun w' (t9:Tf w w')=>h.keep t9);have HTT:=Lib.hid (fun w' (t9:Tf w w')=>hT.keep t9);have HLL:=Lib.hid (fun w' (t9:Tf w w')=>hl.keep t9);have HRL:=Lib.hid (fun c=>z1l F.hok hpl c);have hmm:=@run_makeMap Tryz.prog;clear h hT hl;by_cases h1:most<1
 ·have HA:=Lib.hid (show NeedsAns b cl most [] 2 from⟨fun _=>⟨rfl,rfl⟩,fun h=>absurd (.inl h1) h,fun h=>absurd (.inl h1) h⟩);go_enter Tryz.func103,Tryz.ntmps103;go_wp2;(try simp only[Exit.inBlock,Exit.then]);(try rw[Exit.noGoto_ret]);go_ret2
  exact⟨[],_,_,rfl,Outs.start _ _ _ (Tch.refl _ _),HA.out⟩
 by_cases h2:20000<most
 ·have HA:=Lib.hid (show NeedsAns b cl most [] 2 from⟨fun _=>⟨rfl,rfl⟩,fun h=>absurd (.inr h2) h,fun h=>absurd (.inr h2) h⟩);go_enter Tryz.func103,Tryz.ntmps103;go_wp2;(try simp only[Exit.inBlock,Exit.then]);(try rw[Exit.noGoto_ret]);go_ret2
  exact⟨[],_,_,rfl,Outs.start _ _ _ (Tch.refl _ _),HA.out⟩
 have HNA:=Lib.hid (show¬(most<1∨20000<most) by omega);go_enter Tryz.func103,Tryz.ntmps103;go_wp2_with fail;go_loopw [24] (fun i wr=>∃j:Nat,j≤cl.length∧i=.int .i64 j∧z3p b (cl.drop j)=z3p b cl∧Tf w wr) (fun i _=>cl.length-(intOf i).toNat)
 case atStart=>exact⟨0,Nat.zero_le _,rfl,rfl,Tch.refl _ _⟩
 case round=>
  obtain⟨j,hj,rfl,hbad,ht⟩:=hrel;have HB:=Lib.hid hbad;have hj0:=znn j;clear hbad;by_cases hlt:j<cl.length
  ·have hlt':(j:Int)<(cl.length:Int):=by omega
   have hl9:=HLL.out wr ht;obtain⟨g,o9,rfl⟩:=hl9.head (by omega);obtain⟨q0,q1,q2,q3,q4,q5⟩:=Row.six hl9 zd3 hlt rfl;have HBC:=Lib.hid (show(if za3 cl[j] b.ents.length b.accs.length≠0 then za3 cl[j] b.ents.length b.accs.length else z3p b (cl.drop (j+1)))=z3p b cl by rw[←HB.out,List.drop_eq_getElem_cons hlt];rfl);have tA:=tal wr (.cells #[iV cl[j].1,iV cl[j].2.1,iV cl[j].2.2.1,iV cl[j].2.2.2.1,iV cl[j].2.2.2.2.1,iV cl[j].2.2.2.2.2] 31);have bz:=Blk.new wr 31 #[iV cl[j].1,iV cl[j].2.1,iV cl[j].2.2.1,iV cl[j].2.2.2.1,iV cl[j].2.2.2.2.1,iV cl[j].2.2.2.2.2];have HMY:=Lib.hid (ze3 (HV.out _ (ht.trans tA)) cl[j]);generalize cl[j]=cc at *;obtain⟨c1,c2,c3,c4,c5,c6⟩:=cc;unfold zcq at HMY;simp only at q0 q1 q2 q3 q4 q5 tA bz HMY;obtain⟨g0,g1,g2,g3,g4,g5⟩:=bz.f6;generalize za3 (c1,c2,c3,c4,c5,c6) b.ents.length b.accs.length=ci at *;have tt:=ht.trans tA;clear hl9 HB ht tA bz;go_wp2_with fail;refine HMY.out.mono ?_;rintro _ w1 ⟨rfl,t1⟩;have T1:=tt.trans t1;clear HMY q0 q1 q2 q3 q4 q5 g0 g1 g2 g3 g4 g5 tt t1;by_cases hci:ci=0
   ·subst hci;go_wp2;go_roundw
    case rel=>exact⟨j+1,by omega,by go_num,by rw[←HBC.out,if_neg (by simp)],T1⟩
    case measure=>simp[intOf]<;>omega
   ·have hcb:(ci !=0)=true:=by simpa using hci
    have HA:=Lib.hid (show NeedsAns b cl most [] ci from⟨fun h=>absurd h HNA.out,fun _ _=>⟨rfl,by rw[←HBC.out,if_pos hci]⟩,fun _ h0=>by rw[←HBC.out,if_pos hci]at h0;exact absurd h0 hci⟩);clear hci;go_wp2;(try simp only[Exit.inBlock,Exit.then]);(try rw[Exit.noGoto_ret]);go_ret2
    exact⟨[],_,_,rfl,Outs.start _ _ _ T1,HA.out⟩
  ·obtain rfl:j=cl.length:=by omega
   have hlt':¬(cl.length:Int)<(cl.length:Int):=by omega
   have HB0:=Lib.hid (show z3p b cl=0 by rw[←HB.out,List.drop_length];rfl);have tM:=tal wr (.map #[] 0);have hM0:=MapB.new zcq wr;have T1:=ht.trans tM;have HWM:=Lib.hid ht.size;have HCL:=Lib.hid (z05 (HLL.out _ T1) (by omega));clear hlt HB ht tM;go_wp2_with fail;generalize hmb:wr.heap.size=mb at *;generalize wr.alloc _=W1 at *;have HMB:=Lib.hid hM0.lt;clear hmb;refine HCL.out.mono ?_;rintro _ w2 ⟨u,rfl,hO⟩;obtain⟨A2,c2,rfl,_,_⟩:=hO.form;have hM2:=hM0.keep hO.tch id;have T2:=T1.trans hO.tch;have ho2:=zbk (zb8 hO.own) (fun g hg=>show mb+1≤g by have:=(hO.own.lt g hg).1;have:=HMB.out;omega);clear HCL hM0 hO T1 HLL hmm;go_wp2_with fail;have HWS:=Lib.hid (Went.start b cl);go_loopw [12] (fun o w5=>∃(th td:List Rt6) (A5:Option Addr) (k5:Nat),o=.slice A5 td.length k5∧w5.ownsRow (mb+1) 31 6 (.slice A5 td.length k5) td.length (td.flatMap za2)∧MapB zcq w5 mb (th.map fun k=>(k,.int .i64 1))∧Went b cl th td∧(th.length:Int)≤most∧td.length≤cl.length+5001*th.length∧Tf w w5) (fun o w5=>(20002-mapN w5 mb)*6000+lenS o)
   case atStart=>exact⟨[],cl,A2,c2,rfl,ho2,hM2,HWS.out,by simp;omega,by simp,T2⟩
   case round=>
    obtain⟨th,td,A5,k5,rfl,hO5,hM5,hW5,hth,htd,ht5⟩:=hrel;have HMN:=Lib.hid hM5.size;rw[List.length_map]at HMN;have HTH:=Lib.hid hth;have HTD:=Lib.hid htd;have HWT:=Lib.hid hW5;clear hth htd hW5;by_cases h0:td.length=0
    ·obtain rfl:td=[]:=List.eq_nil_of_length_eq_zero h0;have HDN:=Lib.hid HWT.out.done;have hnd:=HWT.out.nd;have tB:=tal wr (.cells #[.map (some mb)] 156);obtain⟨es,ck,E1,E2,E3⟩:=hM5.keep tB id
     have hks:es.toList.map (·.key)=th.map zcq:=by
      have h9:=congrArg (fun l:List (Value×Value)=>l.map (·.1)) E2;simp only[List.map_map]at h9;exact h9
     have HCO:=Lib.hid (z2v (Bm:=wr.heap.size) hks E3 ((Blk.new wr 156 #[.map (some mb)]).at0) (by simp) E1 (by have:=HTH.out;omega));have HKE:=Lib.hid (z5g mb wr);have T6:=ht5.trans tB;have HTL:=Lib.hid (show th.length≤20000 by have:=HTH.out;omega);have HND:=Lib.hid hnd;clear hO5 hM5 E1 E2 E3 hks ht5 hnd tB;simp only[List.length_nil];go_wp2_with fail;refine HKE.out.mono ?_;rintro _ _ ⟨rfl,rfl⟩;clear HKE;go_wp2_with fail;generalize wr.alloc _=W6 at *;refine HCO.out.mono ?_;rintro _ w7 ⟨u7,ys,rfl,hp,hO7⟩;have HSO:=Lib.hid (z3o hO7.row (by rw[hp.length_eq];have:=HTL.out;omega) (hp.nodup_iff.2 HND.out));have HA:=Lib.hid (show NeedsAns b cl most (zza ys) 0 from⟨fun h=>absurd h HNA.out,fun _ h=>absurd HB0.out h,fun _ _=>.inr ⟨rfl,by rw[z0n,hp.length_eq];exact HTH.out,ys,hp.nodup_iff.2 HND.out,rfl,fun k=>(hp.mem_iff).trans (HDN.out k)⟩⟩);have T7:=T6.trans hO7.tch;clear HCO hO7 hp T6;go_wp2_with fail;refine HSO.out.mono ?_;rintro _ w8 ⟨u8,rfl,hO8⟩;have HO8:=Lib.hid (hO8.base T7);clear HSO hO8 T7;go_wp2;go_ret2
     exact⟨_,_,_,rfl,HO8.out,HA.out⟩
    obtain⟨td,cc,rfl⟩:∃td' c',td=td'++[c']:=⟨td.dropLast,td.getLast (fun e=>h0 (by rw[e];rfl)),(List.dropLast_concat_getLast _).symm⟩
    have hlN:(td++[cc]).length=td.length+1:=by simp
    obtain⟨g5,rfl⟩:=ziq hO5 (by omega);have hrow:=Row.own hO5 (P:=fun _=>True) (fun _ _=>trivial);obtain⟨q0,q1,q2,q3,q4,q5⟩:=Row.six (i:=td.length) (show zae za2 6 (fun _=>True) wr (.slice (some ⟨g5,0,none⟩) (td++[cc]).length k5) (td++[cc])from hrow) zd3 (by omega) (by rw[List.getElem_concat_length rfl];rfl);have hot:=own_take hO5 (k:=td.length) (by omega);have htk:((td++[cc]).flatMap za2).take (td.length*6)=td.flatMap za2:=by rw[List.flatMap_append];exact List.take_left' (zc5 zd3 td)
    rw[htk]at hot;obtain⟨A9,k9,hf9,hnk,hkm,_⟩:=zac hO5;obtain⟨rfl,rfl⟩:A9=some ⟨g5,0,none⟩∧k9=k5:=by injection hf9 with e1 e2 e3;exact⟨e1.symm,e3.symm⟩
    have HTL:=Lib.hid HTD.out;rw[hlN]at hnk HTL⊢
    obtain⟨N,hN⟩:∃N,td.length+1=N:=⟨_,rfl⟩
    have hN1:td.length=N-1:=by omega
    rw[hN]at hnk HTL⊢;rw[hN1]at q0 q1 q2 q3 q4 q5 hot;simp only[Nat.zero_add]at q0 q1 q2 q3 q4 q5;have HN:=Lib.hid hN1;have HNP:=Lib.hid (show 1≤N by omega);have hNp:(N:Int)>0:=by omega
    have hNq:(0:Int)≤(N:Int)-1:=by omega
    have hNk:(N:Int)≤(k9:Int):=by omega
    have hk63:(k9:Int)≤9223372036854775807:=by unfold maxLen at hkm;omega
    obtain⟨c1,c2',c3,c4,c5,c6⟩:=cc;have q0:wr.cell? ⟨g5,(N-1)*6,none⟩=some (iV c1):=q0;have q1:wr.cell? ⟨g5,(N-1)*6+1,none⟩=some (iV c2'):=q1;have q2:wr.cell? ⟨g5,(N-1)*6+2,none⟩=some (iV c3):=q2;have q3:wr.cell? ⟨g5,(N-1)*6+3,none⟩=some (iV c4):=q3;have q4:wr.cell? ⟨g5,(N-1)*6+4,none⟩=some (iV c5):=q4;have q5:wr.cell? ⟨g5,(N-1)*6+5,none⟩=some (iV c6):=q5;have tA:=tal wr (.cells #[iV c1,iV c2',iV c3,iV c4,iV c5,iV c6] 31);have bz:=Blk.new wr 31 #[iV c1,iV c2',iV c3,iV c4,iV c5,iV c6];have hotA:=tA.own hot (fun _ _=>id);have hMA:=hM5.keep tA id;have T5:=ht5.trans tA;have hmlt:=hM5.lt;have HMA:=Lib.hid hMA;have HOT:=Lib.hid hotA;have HT5:=Lib.hid T5;have HZ:=Lib.hid (show wr.heap.size≠mb by omega);have HBZ:=Lib.hid bz;obtain⟨g0,g1,g2,g3,g4,g6⟩:=bz.f6;clear hO5 hrow hot htk hf9 hN1 hN hlN hnk hkm h0 tA bz hMA hotA T5 ht5 hM5 hmlt;go_wp2_with (refine zh6 rfl _ _ _ false rfl zym Tryz.underlying156 (zyr _) (k:=(c1,c2',c3,c4,c5,c6)) (by rfl) (by rfl) HMA.out.is ?_;refine Hid.out ?_);refine Lib.hid ?_;have HMS:=Lib.hid HMA.out.size;rw[List.length_map]at HMS;by_cases hcm:((c1,c2',c3,c4,c5,c6):Rt6)∈th
    ·have hf:zar (th.map fun k=>(k,Value.int .i64 1)) (c1,c2',c3,c4,c5,c6)=some (iV 1):=by rw[zy8,if_pos hcm]
     rw[hf];simp only[Option.getD_some];have HW6:=Lib.hid (HWT.out.skip hcm);clear hcm hf q0 q1 q2 q3 q4 q5 g0 g1 g2 g3 g4 g6;go_wp2;go_roundw
     case rel=>exact⟨th,td,some ⟨g5,0,none⟩,k9,by rw[HN.out],by rw[HN.out];exact HOT.out,HMA.out,HW6.out,HTH.out,by have:=HTL.out;have:=HNP.out;have:=HN.out;omega,HT5.out⟩
     case measure=>
      rw[HMS.out,HMN.out];show(20002-th.length)*6000+(N-1)<(20002-th.length)*6000+N;have:=HNP.out;omega
    have hf:zar (th.map fun k=>(k,Value.int .i64 1)) (c1,c2',c3,c4,c5,c6)=none:=by rw[zy8,if_neg hcm]
    have HFN:=Lib.hid hf;rw[hf];simp only[Option.getD_none];have HW6:=Lib.hid (HWT.out.take hcm);obtain⟨es,ck,E1,E2,E3⟩:=HMA.out;obtain⟨es',ck',X1,X2⟩:=z1v zym Tryz.underlying156 zyr E2 E3 mb (c1,c2',c3,c4,c5,c6) hf;have HX1:=Lib.hid X1;have HX2:=Lib.hid X2;have HE2:=Lib.hid E2;clear hcm hf q0 q1 q2 q3 q4 q5 g0 g1 g2 g3 g4 g6 X1 X2 E2 E3 HWT;go_wp2_with fail;have hbz:=HBZ.out;have hot:=HOT.out;have hT5:=HT5.out;generalize hWA:wr.alloc _=W5 at *;generalize hzz:wr.heap.size=z at *
    obtain⟨I,hI⟩:∃I:World→Prop,I=fun w'=>w'.heap[mb]?=some (.map es ck)∨w'.heap[mb]?=some (.map es' ck'):=⟨_,rfl⟩
    obtain⟨J,hJ⟩:∃J:Nat→World→Prop,J=fun s w'=>w'.heap[mb]?=some (.map (if s=0 then es else es') (if s=0 then ck else ck')):=⟨_,rfl⟩
    have HI:=Lib.hid hI;have HJ:=Lib.hid hJ;clear hI hJ hWA hzz;have y0:=zyl (F:=fun g=>g=mb) (I:=I) hbz.at0 HZ.out;have y1:=zyl (F:=fun g=>g=mb) (I:=I) hbz.at1 HZ.out;have y2:=zyl (F:=fun g=>g=mb) (I:=I) hbz.at2 HZ.out;have y3:=zyl (F:=fun g=>g=mb) (I:=I) hbz.at3 HZ.out;have y4:=zyl (F:=fun g=>g=mb) (I:=I) hbz.at4 HZ.out;have y5:=zyl (F:=fun g=>g=mb) (I:=I) hbz.at5 HZ.out;refine zy2 (fun g=>g=mb) I (fun a b t h=>?_) [] 6 [(2,.inl (iV 0)),(4,.inl (.tuple #[iV 0,iV (ck:Int)]))] [(4,0)] 1 J (by kernel_rfl) rfl (by kernel_rfl) (by kernel_rfl) rfl (fun d _ _ _ _ h=>by cases d<;>exact h) trivial ?_ (fun s w1 w2 ht hj=>?_) ?_
    ·rw[HI.out]at h⊢;rcases h with h|h
     ·exact .inl ((t.block _ (Array.getElem?_eq_some_iff.1 h).1 id).trans h)
     ·exact .inr ((t.block _ (Array.getElem?_eq_some_iff.1 h).1 id).trans h)
    ·rw[HJ.out];exact E1
    ·rw[HJ.out]at hj⊢;exact(ht.block _ (Array.getElem?_eq_some_iff.1 hj).1 id).trans hj
    intro bef ops hbef hops;clear hbef;subst hops;simp only[List.take_succ_cons,List.take_zero,List.drop_succ_cons,List.drop_zero];iterate 2 (refine z0m (by rfl) (by rfl) (by rfl) (by rfl) (fun K hK=>?_);go_big_quiet_op;(first|refine hK _ ?_|refine⟨_,fun _=>rfl,hK _ ?_⟩);clear hK K;(try simp only[zaw]))
    refine z24 (iV 0) (by rfl) (by rfl) (by rfl) (fun w1 hr hf=>?_) ?_
    ·have hi:=hr.2 (by rw[HI.out];exact .inl E1);rw[HI.out]at hi;rcases hi with h|h
     ·refine zrg _ _ _ rfl zym Tryz.underlying156 (zyr w1) (k:=(c1,c2',c3,c4,c5,c6)) (by rfl) (by rfl) (show MapIs zcq w1 mb _ from⟨es,ck,h,HE2.out⟩) ⟨by rw[HFN.out];rfl,Tch.refl _ _⟩
     ·refine zrg _ _ _ rfl zym Tryz.underlying156 (zyr w1) (k:=(c1,c2',c3,c4,c5,c6)) (by rfl) (by rfl) (HX2.out w1 h).1 ⟨by rw[z0c _ _ _ HFN.out];rfl,Tch.refl _ _⟩
    simp only[zaw];iterate 1 (refine z0m (by rfl) (by rfl) (by rfl) (by rfl) (fun K hK=>?_);go_big_quiet_op;(first|refine hK _ ?_|refine⟨_,fun _=>rfl,hK _ ?_⟩);clear hK K;(try simp only[zaw]))
    refine p_fix (.tuple #[iV 0,iV (ck:Int)]) 0 (by rfl) (by rfl) (by rfl) (fun w1 hr hj hf=>?_) ?_
    ·rw[HJ.out]at hj;obtain⟨w2,hrun,hh,t2⟩:=HX1.out w1 hj;refine zdm (enc:=zcq) _ _ _ rfl (k:=(c1,c2',c3,c4,c5,c6)) (by rfl) (by rfl) hrun ⟨rfl,⟨t2,fun _=>by rw[HI.out];exact .inr hh⟩,?_⟩;rw[HJ.out];exact hh
    simp only[zaw];iterate 1 (refine z0m (by rfl) (by rfl) (by rfl) (by rfl) (fun K hK=>?_);go_big_quiet_op;(first|refine hK _ ?_|refine⟨_,fun _=>rfl,hK _ ?_⟩);clear hK K;(try simp only[zaw]))
    refine p_nil ?_;intro w6 hr hj hp;rw[HJ.out]at hj;refine zzd rfl _ _ _ _ rfl (b:=mb) (n:=ck) (u:=iV 1) (by rfl) (by rfl) (by first|rfl|(go_num)) ((HX2.out w6 hj).2 (iV 1)) (fun w7 hM7=>?_);obtain⟨hM7,t7⟩:=hM7;have tr:=((Tch.drew (fun g=>g=mb) W5).trans hr.1).trans t7;have b7:=hbz.keep tr HZ.out;have hO7:=tr.own hot (fun g hg e=>by have:=(hot.lt g hg).1;have e:g=mb:=e;omega);have T7:=hT5.trans' tr (fun i hi=>.inr (by have hi:i=mb:=hi;have:=HWM.out;omega));have hM7:MapB zcq w7 mb ((th++[(c1,c2',c3,c4,c5,c6)]).map fun k=>(k,iV 1)):=by rw[List.map_append];exact hM7
    obtain⟨mm,hmq⟩:∃mm,((th++[(c1,c2',c3,c4,c5,c6)]).map fun k=>(k,Value.int .i64 1))=mm:=⟨_,rfl⟩
    rw[hmq]at hM7
    obtain⟨K,hK⟩:∃K,mm.length=K:=⟨_,rfl⟩
    have HK:=Lib.hid (show K=th.length+1 by rw[←hK,←hmq];simp);have HMQ:=Lib.hid hmq;have HKL:=Lib.hid hK;have HM7:=Lib.hid hM7;obtain⟨y0,y1,y2,y3,y4,y5⟩:=b7.f6;have hK0:=znn K;have hK9:(K:Int)≤30000:=by have:=HK.out;have:=HTH.out;omega
    clear hj hp hr t7 tr hbz hot hT5 HX1 HX2 HE2 HI HJ HFN HBZ HOT HMA E1 hM7 hK hmq;go_wp2_with (at_len;refine z1i rfl _ _ rfl 3 Tryz.underlying156 (by rfl) HM7.out ?_;refine Hid.out ?_);refine Lib.hid ?_;rw[HKL.out];by_cases hfull:most<(K:Int)
    ·have hf':(K:Int)>most:=hfull;have HA:=Lib.hid (show NeedsAns b cl most [] 3 from⟨fun h=>absurd h HNA.out,fun _ h=>absurd HB0.out h,fun _ _=>.inl ⟨rfl,rfl,th++[(c1,c2',c3,c4,c5,c6)],HW6.out.nd,fun k hk=>HW6.out.need k (.inl hk),by rw[List.length_append,List.length_singleton,←HK.out];exact hfull⟩⟩);clear hfull y0 y1 y2 y3 y4 y5;go_wp2;(try simp only[Exit.inBlock,Exit.then]);(try rw[Exit.noGoto_ret]);go_ret2
     exact⟨[],_,_,rfl,Outs.start _ _ _ T7,HA.out⟩
    have hf':¬(K:Int)>most:=hfull;have HKM:=Lib.hid (show(K:Int)≤most by omega);have HREC:=Lib.hid (zga (HV.out w7 T7) F (HTT.out w7 T7) c1 c2' c3 c4 c5 c6);have HRLc:=Lib.hid (HRL.out (c1,c2',c3,c4,c5,c6));clear hfull;go_wp2_with fail;refine HREC.out.mono ?_;rintro _ w8 ⟨v1,rfl,hr1,t8⟩;clear HREC y0 y1 y2 y3 y4 y5 b7;generalize zfg b (c1,c2',c3,c4,c5,c6)=RR at *;obtain⟨R,er⟩:=RR;simp only at hr1 HRLc;have HRW:=Lib.hid (show RcpIs w8 v1 R from hr1)
    obtain⟨RR,hRR⟩:∃RR,R=RR:=⟨_,rfl⟩
    have HRR:=Lib.hid hRR;rw[hRR]at HW6 HRLc HRW;obtain⟨⟨b1,b2⟩,pl,mi,⟨s1,s2,s3,s4,s5,s6⟩,rd,⟨r1,r2⟩,hs⟩:=R;obtain⟨p1,m1,rfl,hp1,hm1⟩:=hr1;obtain⟨P1,k1,rfl,_,_⟩:=hp1.form;obtain⟨M1,d1,rfl,_,_⟩:=hm1.form;unfold z4g at HRW⊢;simp only at HRW⊢;have tG:=tal w8 (.cells #[iV b1,iV b2,.slice P1 pl.length k1,.slice M1 mi.length d1,iV s1,iV s2,iV s3,iV s4,iV s5,iV s6,.bool rd,iV r1,iV r2,.bool hs] 48);have bG:=Blk.new w8 48 #[iV b1,iV b2,.slice P1 pl.length k1,.slice M1 mi.length d1,iV s1,iV s2,iV s3,iV s4,iV s5,iV s6,.bool rd,iV r1,iV r2,.bool hs];have HRD:=Lib.hid (zz5 (HRW.out.keep tG) (by have:=HRLc.out;omega))
    have HLN:=Lib.hid (show(zyk RR).length≤5001 by
     unfold zyk zys;refine Nat.le_trans (zzr _) ?_;rw[List.length_append,List.length_append];have:=HRLc.out
     split<;>simp <;>omega)
    have t8G:=t8.trans tG;have hO8:=t8G.own hO7 (fun _ _=>id);have hM8:=HM7.out.keep t8G id;rw[←HMQ.out]at hM8;have T8:=T7.trans t8G;obtain⟨f0,f1,f2,f3,f4,f5,f6,f7,f8,f9,f10,f11,f12,f13⟩:=bG.f14;clear hRR hp1 hm1 tG bG t8 t8G hO7 HM7 HRW T7;go_wp2_with fail;generalize w8.alloc _=W8 at *;generalize w8.heap.size=zG at *;refine HRD.out.mono ?_;rintro _ w9 ⟨u,rfl,hrow,t9⟩;obtain⟨U,cu,rfl,_,_⟩:=hrow.form;have hO9:=t9.own hO8 (fun _ _=>id);have hM9:=hM8.keep t9 id;have T9:=T8.trans t9;have hln:=HLN.out;have htd9:N-1≤100120000:=by have:=HTL.out;have:=HTH.out;omega
    clear HRD f0 f1 f2 f3 f4 f5 f6 f7 f8 f9 f10 f11 f12 f13 hO8 hM8 T8 t9;go_wp2_with (at_builtin;refine apd z00 hO9 hrow.src (ziv _) ?_ (h63:=by unfold maxLen;omega) (hbytes:=by omega);refine Hid.out ?_);refine Lib.hid ?_;intro v2 w10 ho2 hg2 hl2;obtain⟨A10,k10,rfl,_,_⟩:=zac ho2;have tg:=Tch.grown (F:=fun k=>(Value.slice (some ⟨g5,0,none⟩) (N-1) k9).ownBlock=some k) hg2 (fun k hk=>.inl hk);have hM10:=hM9.keep tg (fun hf=>by have:=(hO9.lt _ hf).1;omega);have T10:=T9.trans' tg (fun i hi=>.inr (by have:=(hO9.lt _ hi).1;have:=HWM.out;omega))
    have hO10:=zbk ho2 (fun g hg=>show mb+1≤g by
     rcases hl2 g hg with h|h
     ·exact(hO9.lt g h).1
     ·have:=hM9.lt;omega)
    have HS10:=Lib.hid hM10.size;rw[List.length_map,List.length_append,List.length_singleton]at HS10;have HO10:=Lib.hid hO10;have HM10:=Lib.hid hM10;have HT10:=Lib.hid T10;clear hO9 hM9 T9 hrow ho2 hg2 hl2 tg hM10 T10 hO10;go_wp2;go_roundw
    case rel=>exact⟨th++[(c1,c2',c3,c4,c5,c6)],td++zyk RR,A10,k10,by rw[List.length_append,HN.out],by rw[List.length_append,HN.out,List.flatMap_append];exact HO10.out,HM10.out,HW6.out,by rw[List.length_append,List.length_singleton,←HK.out];exact HKM.out,by rw[List.length_append,List.length_append,List.length_singleton];have:=HTL.out;have:=HN.out;have:=HNP.out;omega,HT10.out⟩
    case measure=>
     rw[HS10.out,HMN.out];show(20002-(th.length+1))*6000+(N-1+(zyk RR).length)<(20002-th.length)*6000+N;have:=HNP.out;have:=HLN.out;have:=HTH.out;omega
end
end Go.Proofs.YtoegobjnjljegaaGreatDoor
namespace Go.Gk
open Go.RowKit
section
variable {P:Program} {ops:Array Oper} {rest:List Oper} {o:Oper} {a:Act} {w:World} {Q:Exit→Act→World→Prop}
theorem z1s (hgd:o.guard=none) (s:Operand) (t:TypeId) (ho:o.op=.call {callee:=.builtin .clear,args:= #[s],argTypes:= #[t]}) {e:TypeId} (hu:P.underlying t=some (.slice e)) {z:Value} (hv:∀w,(zeroValue e).run P w=.ok z w) {k:Nat} (hz:z.cells.size=k) (h1:∀u∈z.cells,u.oneCell'=true)
 {g n c off:Nat} {pre mid suf:List Value} (hoff:off=pre.length) (hs:a.eval s=.slice (some ⟨g,off,none⟩) n c) (hn:0<n) (hm:mid.length=n*k) {T:TypeId} (hb:Blk w g T (pre++mid++suf).toArray)
 (h:∀W zs,zs.length=mid.length→Blk W g T (pre++zs++suf).toArray→Tch (fun k=>k=g) w W→wpList P ops Q rest (a.put o.dst (.tuple #[])) W):wpList P ops Q (o::rest) a w:=by
 subst hoff
 have hl:(Builtin.zeroCells z.cells n).toList.length=mid.length:=by
  rw[Array.length_toList,size_zeroCells,hm,hz]
 have hcell:∀j,j<(Builtin.zeroCells z.cells n).toList.length→(w.cell? ⟨g,pre.length+j,none⟩).isSome=true:=fun j hj=>by
  have hc:=hb.cell (pre.length+j);rw[List.getElem?_toArray,List.append_assoc,List.getElem?_append_right (by omega),Nat.add_sub_cancel_left,List.getElem?_append_left (by omega),List.getElem?_eq_getElem (by omega)]at hc;rw[hc];rfl
 have hst:=run_storeCells_cells (P:=P) g pre.length (Builtin.zeroCells z.cells n).toList 0 w (by simpa using hcell) (fun j _=>hb.frozen _) (fun v hv=>by
  have hv':=Array.mem_toList_iff.1 hv;unfold Builtin.zeroCells at hv';obtain⟨i,hi,rfl⟩:=Array.mem_map.1 hv';have hi:=Array.mem_range.1 hi
  have hp:0<z.cells.size:=by
   rcases Nat.eq_zero_or_pos z.cells.size with h0|h0
   ·rw[h0]at hi;omega
   ·exact h0
  rw[getElem!_pos z.cells (i%z.cells.size) (Nat.mod_lt i hp)]
  exact h1 _ (Array.getElem_mem _))
 simp only[Nat.add_zero]at hst
 have hrun:(Builtin.clear_ #[t] o.type #[.slice (some ⟨g,pre.length,none⟩) n c]).run P w=.ok (.tuple #[]) (w.setCells g pre.length (Builtin.zeroCells z.cells n).toList):=by
  obtain⟨m,rfl⟩:∃m,n=m+1:=⟨n-1,by omega⟩
  simp[Builtin.clear_,run_underlying hu,hv,hst]
 refine wpList_plain hgd fun K hK=>?_
 unfold Oper.wp;simp[execOp,ho,resolve,invoke,builtin,hs,hrun,Result.andThen];exact hK _ _ (h _ _ hl (zki _ _ w pre mid suf hl.symm rfl hb) (Tch.setCells g _ _ w))
end
theorem six_at {cs:List Value} {j:Nat} {x:Rt6} {r:List Rt6} {m:Nat} (h:(cs.drop (j*6)).take m=(x::r).flatMap za2) {i:Nat} (hi:i<6):cs[j*6+i]?=(za2 x)[i]?:=by
 have h1:=congrArg (fun l:List Value=>l[i]?) h;simp only[List.flatMap_cons]at h1;rw[List.getElem?_append_left (by rw[zd3];exact hi),List.getElem?_take]at h1;split at h1
 ·rw[List.getElem?_drop]at h1;exact h1
 ·rw[List.getElem?_eq_getElem (by rw[zd3];exact hi)]at h1;cases h1
end Go.Gk
namespace Go.Proofs.YtoegobjnjljegaaGreatDoor
open Go.RowKit Go.Gk
theorem z20 {w:World} {v:Value} {l:List Rt6} (hl:zae za2 6 (fun _=>True) w v l) (hn:l.length≤200000) (p:Rt6→Bool) (g:Nat) (lb:Array Value) (eg:∀args w,(callFunc g args).run Tryz.prog w=.ok (.enter g args) w)
 (hp:∀(x:Rt6) w',Tf w w'→Calls Tryz.prog g (#[.agg #[iV x.1,iV x.2.1,iV x.2.2.1,iV x.2.2.2.1,iV x.2.2.2.2.1,iV x.2.2.2.2.2]]++lb) w' (zgr (p x) w')):
 Calls Tryz.prog 193 #[v,.func (.func g) #[] lb] w fun e w'=>∃i:Int,e=.returned (iV i)∧((i= -1∧l.any p=false)∨∃k,∃h:k<l.length,i=(k:Int)∧(l.take k).any p=false∧p l[k]=true)∧Tf w w':=by
 obtain⟨A,c,rfl,hc1,hc2⟩:=hl.form;have HP:=Lib.hid hp;clear hp;go_enter Tryz.func193,Tryz.ntmps193;go_wp2_with fail;go_loopw [8] (fun i wr=>∃j:Nat,j≤l.length∧i=.int .i64 j∧(l.take j).any p=false∧Tf w wr) (fun i _=>l.length-(intOf i).toNat)
 case atStart=>exact⟨0,Nat.zero_le _,rfl,rfl,Tch.refl _ _⟩
 case round=>
  obtain⟨j,hj,rfl,h2,ht⟩:=hrel;have H2:=Lib.hid h2;clear h2;by_cases hlt:j<l.length
  ·obtain⟨g',o,rfl⟩:=hl.head (by omega);obtain⟨q0,q1,q2,q3,q4,q5⟩:=Row.six (hl.keep ht) zd3 hlt rfl;have hs:=zcx (p:=p) hlt;have hc:=HP.out l[j] wr ht
   obtain⟨x,hx⟩:∃x,l[j]=x:=⟨_,rfl⟩
   simp only[hx]at q0 q1 q2 q3 q4 q5 hs hc;have HS:=Lib.hid hs;have HC:=Lib.hid hc;have HX:=Lib.hid (show∃h:j<l.length,l[j]=x from⟨hlt,hx⟩);clear hs hc hx;have hlt':(j:Int)<(l.length:Int):=by omega
   have hj0:=znn j;go_wp2_with fail;refine HC.out.mono ?_;rintro _ w2 ⟨rfl,t2⟩;clear HC
   cases hb:p x
   ·rw[hb]at HS;clear hb;go_wp2;go_roundw
    case rel=>exact⟨j+1,by omega,by go_num,by rw[HS.out,H2.out];rfl,ht.trans t2⟩
    case measure=>simp[intOf];omega
   ·have HB:=Lib.hid hb;clear hb;go_wp2;go_ret;obtain⟨h9,h8⟩:=HX.out;exact⟨j,rfl,.inr ⟨j,h9,rfl,H2.out,by rw[h8];exact HB.out⟩,ht.trans t2⟩
  ·obtain rfl:l.length=j:=by omega
   rw[List.take_length]at H2;go_wp2;go_ret;exact⟨-1,rfl,.inl ⟨rfl,H2.out⟩,ht⟩
theorem hasC_any {w:World} {v:Value} {l:List Rt6} (hl:zae za2 6 (fun _=>True) w v l) (hn:l.length≤200000) (p:Rt6→Bool) (g:Nat) (lb:Array Value) (eg:∀args w,(callFunc g args).run Tryz.prog w=.ok (.enter g args) w)
 (hp:∀(x:Rt6) w',Tf w w'→Calls Tryz.prog g (#[.agg #[iV x.1,iV x.2.1,iV x.2.2.1,iV x.2.2.2.1,iV x.2.2.2.2.1,iV x.2.2.2.2.2]]++lb) w' (zgr (p x) w')):
 Calls Tryz.prog 175 #[v,.func (.func g) #[] lb] w (zgr (l.any p) w):=by
 have HI:=Lib.hid (z20 hl hn p g lb eg hp);obtain⟨A,c,rfl,hc1,hc2⟩:=hl.form;have HY:=Lib.hid (fun k (h:k<l.length) (h2:p l[k]=true)=>zjh (p:=p) h h2);generalize l.any p=bb at *;clear hp hl hn;go_enter Tryz.func175,Tryz.ntmps175;go_wp2_with fail;refine HI.out.mono ?_;rintro _ w1 ⟨i,rfl,h1,t⟩
 rcases h1 with⟨rfl,rfl⟩|⟨k,hk,rfl,_,h2⟩
 ·clear HI HY;go_wp2;go_ret;exact⟨rfl,t⟩
 ·obtain rfl:=HY.out k hk h2;have hk0:=znn k;clear HI HY hk h2;go_wp2;go_ret;exact⟨by first|(simp;done)|(simpa using hk0),t⟩
theorem z2h {w:World} {base:Nat} {v:Value} {l:List Rt6} (hO:w.ownsRow base 31 6 v l.length (l.flatMap za2)) (hn:l.length≤200000) (p:Rt6→Bool) (f:Nat) (lb:Array Value) (eg:∀args w,(callFunc f args).run Tryz.prog w=.ok (.enter f args) w)
 (hp:∀(x:Rt6) w',Tch (fun k=>v.ownBlock=some k) w w'→Calls Tryz.prog f (#[.agg #[iV x.1,iV x.2.1,iV x.2.2.1,iV x.2.2.2.1,iV x.2.2.2.2.1,iV x.2.2.2.2.2]]++lb) w' (zgr (p x) w')):
 Calls Tryz.prog 120 #[v,.func (.func f) #[] lb] w fun e w'=>∃u,e=.returned u∧zae za2 6 (fun k=>base≤k) w' u (l.filter fun x=>!p x)∧Tch (fun k=>v.ownBlock=some k) w w':=by
 have hrow:=Row.own hO (P:=fun _=>True) (fun _ _=>trivial);have HI:=Lib.hid (z20 (l:=l) hrow hn p f lb eg (fun x w' t=>hp x w' (Exn.touch t)));have HOW:=Lib.hid hO;obtain⟨A,c,rfl,hc1,hc2,_⟩:=zac hO;have HP:=Lib.hid hp;clear hp hrow;go_enter Tryz.func120,Tryz.ntmps120;go_wp2_with fail;refine HI.out.mono ?_;rintro _ w1 ⟨i,rfl,h1,t1⟩;have HO1:=Lib.hid (t1.own HOW.out (fun _ _=>id))
 rcases h1 with⟨rfl,hany⟩|⟨k,hk,rfl,hbef,hat⟩
 ·have HF:=Lib.hid (show(l.filter fun x=>!p x)=l from List.filter_eq_self.2 fun x hx=>by
   have:=List.any_eq_false.1 hany x hx
   simpa using this)
  clear HI HP hany hO;go_wp2;(try simp only[Exit.inBlock,Exit.then]);(try rw[Exit.noGoto_ret]);go_ret;refine⟨.slice A l.length c,rfl,?_,Exn.touch t1⟩;rw[HF.out];exact Row.own HO1.out (fun g hg=>(HO1.out.lt g hg).1)
 obtain⟨g,rfl⟩:=ziq hO (by omega);have hk0:=znn k;have hkm:((k:Int)== -1)=false:=by rw[beq_eq_false_iff_ne];omega
 have hwk:wrap64 ((k:Int)+1)=(k:Int)+1:=by unfold wrap64;omega
 obtain⟨cs,hcs,hBk,hct⟩:∃cs:List Value,cs.length=c*6∧Blk w1 g 31 cs.toArray∧cs.take (l.length*6)=l.flatMap za2:=by
  rcases HO1.out.2 with⟨h9,_⟩|⟨g',cap,cur,hv,_,hg,_,_,hsz,ht⟩
  ·cases h9
  ·injection hv with e1 _ e3;injection e1 with e1;injection e1 with e1;subst e1 e3;exact⟨cur.toList,by rw[Array.length_toList];exact hsz,hg,ht⟩
 have hgb:=(HO1.out.lt g rfl).1;have HGB:=Lib.hid hgb
 have hkeep:(l.take k).filter (fun x=>!p x)=l.take k:=List.filter_eq_self.2 fun x hx=>by
  have:=List.any_eq_false.1 hbef x hx;simpa using this
 have HST:=Lib.hid (show k=((l.take (k+1)).filter fun x=>!p x).length∧cs.take (k*6)=((l.take (k+1)).filter fun x=>!p x).flatMap za2∧(cs.drop ((k+1)*6)).take ((l.length-(k+1))*6)=(l.drop (k+1)).flatMap za2 by
  rw[List.take_succ_eq_append_getElem hk,List.filter_append,hkeep];have h9:[l[k]].filter (fun x=>!p x)=[]:=by simp[hat]
  rw[h9,List.append_nil];have h7:l.flatMap za2=(l.take k).flatMap za2++(l.drop k).flatMap za2:=by rw[←List.flatMap_append,List.take_append_drop]
  have h6:l.flatMap za2=(l.take (k+1)).flatMap za2++(l.drop (k+1)).flatMap za2:=by rw[←List.flatMap_append,List.take_append_drop]
  refine⟨by rw[List.length_take];omega,?_,?_⟩
  ·have h8:=congrArg (List.take (k*6)) hct;rw[List.take_take,Nat.min_eq_left (by omega),h7,List.take_left' (by rw[zc5 zd3,List.length_take];omega)]at h8;exact h8
  ·have h8:=congrArg (List.drop ((k+1)*6)) hct;rw[h6,List.drop_left' (by rw[zc5 zd3,List.length_take];omega),List.drop_take]at h8;rw[←h8];congr 1
   omega)
 have HK1:=Lib.hid (show k+1≤l.length by omega);have hcl:(l.length:Int)≤200000:=by omega
 clear hbef hat hkeep hct hO hgb HI HOW;go_wp2_with fail;go_loopw [5,6] (fun x5 x6 wr=>∃(i j:Nat) (cs:List Value),x5=.int .i64 (i:Int)∧x6=.int .i64 (j:Int)∧i<j∧j≤l.length∧Blk wr g 31 cs.toArray∧cs.length=c*6∧(i=((l.take j).filter fun x=>!p x).length∧cs.take (i*6)=((l.take j).filter fun x=>!p x).flatMap za2∧(cs.drop (j*6)).take ((l.length-j)*6)=(l.drop j).flatMap za2)∧Tch (fun k=>k=g) w1 wr) (fun _ x6 _=>l.length-(intOf x6).toNat)
 case atStart=>exact⟨k,k+1,cs,rfl,by simp,by omega,HK1.out,hBk,hcs,HST.out,Tch.refl _ _⟩
 case round=>
  obtain⟨i,j,cs,rfl,rfl,hij,hj,hB,hcs,hST,ht⟩:=hrel;have HST:=Lib.hid hST;have HCS:=Lib.hid hcs;have HIJ:=Lib.hid hij;have hj0:=znn j;have hi0:=znn i;have HB:=Lib.hid hB;have HT:=Lib.hid ht;have hil:(i:Int)<(l.length:Int):=by omega
  clear hST hcs hij hBk;by_cases hlt:j<l.length
  ·have hlt':(j:Int)<(l.length:Int):=by omega
   have h9:=HST.out.2.2;rw[List.drop_eq_getElem_cons hlt]at h9
   have hq:∀i,i<6→wr.cell? ⟨g,j*6+i,none⟩=(za2 l[j])[i]?:=fun i hi=>by
    rw[hB.cell (j*6+i),List.getElem?_toArray];exact six_at h9 hi
   have hcp:=HP.out l[j] (wr.alloc (.cells (za2 l[j]).toArray 31)) ((((Exn.touch t1).trans (HT.out.mono (fun i _ hi=>by have hi:i=g:=hi;rw[hi];rfl))).trans (Exn.touch (tal wr _))));have htk:=List.take_succ_eq_append_getElem hlt;have hdr:=congrArg (List.drop 6) h9;rw[List.flatMap_cons,List.drop_left' (zd3 _),List.drop_take,List.drop_drop]at hdr
   have hdr2:(cs.drop ((j+1)*6)).take ((l.length-(j+1))*6)=(l.drop (j+1)).flatMap za2:=by
    rw[←hdr];congr 1
    ·omega
    ·congr 1;omega
   have hfl:(l.take (j+1)).filter (fun x=>!p x)=(l.take j).filter (fun x=>!p x)++(if p l[j]=true then[]else[l[j]]):=by
    rw[htk,List.filter_append];congr 1;by_cases h:p l[j]=true<;>simp[h]
   obtain⟨x,hx⟩:∃x,l[j]=x:=⟨_,rfl⟩
   simp only[hx]at hq hcp hfl;have HFL:=Lib.hid hfl;have HDR:=Lib.hid hdr2;have HJL:=Lib.hid hlt;clear h9 htk hdr hdr2 hfl hx;obtain⟨a1,a2,a3,a4,a5,a6⟩:=x;have q0:wr.cell? ⟨g,j*6,none⟩=some (iV a1):=hq 0 (by decide);have q1:wr.cell? ⟨g,j*6+1,none⟩=some (iV a2):=hq 1 (by decide);have q2:wr.cell? ⟨g,j*6+2,none⟩=some (iV a3):=hq 2 (by decide);have q3:wr.cell? ⟨g,j*6+3,none⟩=some (iV a4):=hq 3 (by decide);have q4:wr.cell? ⟨g,j*6+4,none⟩=some (iV a5):=hq 4 (by decide);have q5:wr.cell? ⟨g,j*6+5,none⟩=some (iV a6):=hq 5 (by decide);unfold za2 at hcp;simp only at hcp;have tA:=tal wr (.cells #[iV a1,iV a2,iV a3,iV a4,iV a5,iV a6] 31);have bz:=Blk.new wr 31 #[iV a1,iV a2,iV a3,iV a4,iV a5,iV a6];have HCP:=Lib.hid hcp;have hBA:=hB.keep tA id;have htA:=ht.trans (Exn.touch tA);obtain⟨g0,g1,g2,g3,g4,g5⟩:=bz.f6;have HGW:=Lib.hid hB.lt;clear hq hcp hB ht hlt HB HT;go_wp2_with fail;generalize hWA:wr.alloc _=WA at *;generalize hzA:wr.heap.size=zA at *;refine HCP.out.mono ?_;rintro _ w5 ⟨rfl,t5⟩;have b5:=bz.keep t5 id;have hB5:=hBA.keep t5 id;have ht5:=htA.trans (Exn.touch t5);clear HCP g0 g1 g2 g3 g4 g5 q0 q1 q2 q3 q4 q5 bz hBA htA t5 tA hWA hzA;obtain⟨g0,g1,g2,g3,g4,g5⟩:=b5.f6
   cases hpx:p (a1,a2,a3,a4,a5,a6)
   ·rw[hpx,if_neg (by decide)]at HFL;have hi6:i*6=(cs.take (i*6)).length:=by rw[List.length_take,HCS.out];have:=HIJ.out;omega
    have hm6:((cs.drop (i*6)).take 6).length=6:=by rw[List.length_take,List.length_drop,HCS.out];have:=HIJ.out;have:=HJL.out;omega
    have HI6:=Lib.hid hi6;have HM6:=Lib.hid hm6
    have HBB:=Lib.hid (show Blk w5 g 31 (cs.take (i*6)++(cs.drop (i*6)).take 6++cs.drop (i*6+6)).toArray by
     rw[List.append_assoc,←List.drop_drop,List.take_append_drop,List.take_append_drop]
     exact hB5)
    clear hpx hi6 hm6 hB5;go_wp2_with (refine zdp rfl _ _ _ rfl g (i*6) (cs.take (i*6)) ((cs.drop (i*6)).take 6) [iV a1,iV a2,iV a3,iV a4,iV a5,iV a6] (cs.drop (i*6+6)) HI6.out (by rfl) (by rfl) (by simp[Value.oneCell']) (by kernel_rfl) HM6.out HBB.out ?_;refine Hid.out ?_);refine Lib.hid ?_;intro w6 hB6 t6;have HB6:=Lib.hid hB6;have HT6:=Lib.hid (ht5.trans t6);clear hB6 t6 ht5;go_wp2;go_roundw
    case rel=>
     refine⟨i+1,j+1,cs.take (i*6)++[iV a1,iV a2,iV a3,iV a4,iV a5,iV a6]++cs.drop (i*6+6),by go_num,by go_num,by have:=HIJ.out;omega,HJL.out,by simpa using HB6.out,?_,⟨?_,?_,?_⟩,HT6.out⟩
     ·rw[List.length_append,List.length_append,←HI6.out,List.length_drop,HCS.out];simp only[List.length_cons,List.length_nil];have:=HIJ.out;have:=HJL.out;omega
     ·rw[HFL.out,List.length_append,←HST.out.1];rfl
     ·rw[List.take_left' (by rw[List.length_append,←HI6.out];simp only[List.length_cons,List.length_nil];omega),HFL.out,List.flatMap_append,←HST.out.2.1];rfl
     ·rw[show(j+1)*6=(i*6+6)+((j+1)*6-(i*6+6)) by have:=HIJ.out;omega,←List.drop_drop,List.drop_left' (by rw[List.length_append,←HI6.out];rfl),List.drop_drop,show(i*6+6)+((j+1)*6-(i*6+6))=(j+1)*6 by have:=HIJ.out;omega];exact HDR.out
    case measure=>have:=HJL.out;simp[intOf]<;>omega
   ·rw[hpx,if_pos rfl,List.append_nil]at HFL;have HB5:=Lib.hid hB5;clear hpx hB5;go_wp2;go_roundw
    case rel=>exact⟨i,j+1,cs,rfl,by go_num,by have:=HIJ.out;omega,HJL.out,HB5.out,HCS.out,⟨by rw[HFL.out];exact HST.out.1,by rw[HFL.out];exact HST.out.2.1,HDR.out⟩,ht5⟩
    case measure=>have:=HJL.out;simp[intOf]<;>omega
  ·obtain rfl:j=l.length:=by omega
   have hlt':¬(l.length:Int)<(l.length:Int):=by omega
   have HI6:=Lib.hid (show(cs.take (i*6)).length=i*6 by rw[List.length_take,HCS.out];have:=HIJ.out;omega);have HM6:=Lib.hid (show((cs.drop (i*6)).take ((l.length-i)*6)).length=(l.length-i)*6 by rw[List.length_take,List.length_drop,HCS.out];have:=HIJ.out;omega)
   have HBB:=Lib.hid (show Blk wr g 31 (cs.take (i*6)++(cs.drop (i*6)).take ((l.length-i)*6)++(cs.drop (i*6)).drop ((l.length-i)*6)).toArray by
    rw[List.append_assoc,List.take_append_drop,List.take_append_drop]
    exact hB)
   have HNI:=Lib.hid (show 0<l.length-i by have:=HIJ.out;omega);have HIC:=Lib.hid (show i≤l.length by have:=HIJ.out;omega);clear hB ht hlt HB;go_wp2_with (refine z1s rfl _ _ rfl Tryz.underlying42 (z:=.agg #[iV 0,iV 0,iV 0,iV 0,iV 0,iV 0]) (fun w=>by kernel_rfl) (k:=6) rfl (fun u hu=>by simp[Value.cells]at hu;rcases hu with rfl<;>rfl) (off:=i*6) (pre:=cs.take (i*6)) (mid:=(cs.drop (i*6)).take ((l.length-i)*6)) HI6.out.symm (by rfl) HNI.out HM6.out HBB.out ?_;refine Hid.out ?_);refine Lib.hid ?_;intro w6 zs hzs hB6 t6;have HB6:=Lib.hid hB6;have HT6:=Lib.hid (HT.out.trans t6);clear hB6 t6 hzs;go_wp2;go_ret;refine⟨_,rfl,?_,?_⟩
   ·have hfi:((l.filter fun x=>!p x)).length=i:=by have:=HST.out.1;rw[List.take_length]at this;exact this.symm
    have hft:cs.take (i*6)=(l.filter fun x=>!p x).flatMap za2:=by have:=HST.out.2.1;rw[List.take_length]at this;exact this
    refine⟨some ⟨g,0,none⟩,c,by rw[hfi];rfl,by rw[hfi];have:=HIC.out;omega,hc2,zc5 zd3 _,(fun h=>by cases h),fun _=>⟨g,0,rfl,⟨HGB.out,HB6.out.lt⟩,fun m u hu=>?_⟩⟩;rw[Nat.zero_add,HB6.out.cell m,List.getElem?_toArray];(try rw[List.append_assoc]);rw[List.getElem?_append_left (by rw[hft];exact(List.getElem?_eq_some_iff.1 hu).1),hft];exact hu
   ·exact(Exn.touch t1).trans (HT6.out.mono fun i _ hi=>by have hi:i=g:=hi;rw[hi];rfl)
end Go.Proofs.YtoegobjnjljegaaGreatDoor
namespace Go.Gk.V38
open Go.Gk.V37 Go.Gk.V33 Go.RowKit
def zzu (b:Bks) (L:List Rt6):List Rt6:=L.filter fun k=>decide ((zyq b k).2≠0)
def delB (b:Bks) (B:List Rt6) (x:Rt6):Bool:=!decide (x∈B)||(zyk (zfg b x).1).any fun y=>decide (y∈B)
structure BlameAns (b:Bks) (c:Rt6) (L:List Rt6) (er:Int):Prop where
 bad:za3 c b.ents.length b.accs.length≠0→L=[]∧er=za3 c b.ents.length b.accs.length
 ans:za3 c b.ents.length b.accs.length=0→(L=[]∧er=3∧∃S:List Rt6,S.Nodup∧(∀k∈S,Need b [c] k)∧20000<(S.length:Int))∨(er=0∧∃S:List Rt6,S.Nodup∧(∀k,k∈S↔Need b [c] k)∧L=(zza S).filter fun x=>!delB b (zzu b (zza S)) x)
end Go.Gk.V38
namespace Go.Proofs.YtoegobjnjljegaaGreatDoor
open Go.RowKit Go.Gk Go.Gk.V33 Go.Gk.V37 Go.Gk.V38
theorem z2i {w:World} {bb mb:Nat} {B:List Rt6} (hb:Blk w bb 156 #[.map (some mb)]) (hm:MapIs zcq w mb (B.map fun k=>(k,iV 1))) (x1 x2 x3 x4 x5 x6:Int):
 Calls Tryz.prog 176 #[.agg #[iV x1,iV x2,iV x3,iV x4,iV x5,iV x6],.pointer (some ⟨bb,0,none⟩)] w (zgr (decide (((x1,x2,x3,x4,x5,x6):Rt6)∈B)) w):=by
 have tA:=tal w (.cells #[iV x1,iV x2,iV x3,iV x4,iV x5,iV x6] 31);have hb1:=hb.keep tA id;have HM:=Lib.hid (hm.keep tA id);have n0:=hb1.at0;obtain⟨g0,g1,g2,g3,g4,g5⟩:=(Blk.new w 31 #[iV x1,iV x2,iV x3,iV x4,iV x5,iV x6]).f6;have HT:=Lib.hid tA;clear hb hm hb1 tA;go_enter Tryz.func176,Tryz.ntmps176;go_wp2_with (refine zh6 rfl _ _ _ false rfl zym Tryz.underlying156 (zyr _) (k:=(x1,x2,x3,x4,x5,x6)) (by rfl) (by rfl) HM.out ?_;refine Hid.out ?_);refine Lib.hid ?_;rw[zy8];by_cases hx:((x1,x2,x3,x4,x5,x6):Rt6)∈B
 ·have HD:=Lib.hid (decide_eq_true hx);rw[if_pos hx];simp only[Option.getD_some];clear hx;go_wp2;go_ret;exact⟨by rw[HD.out];rfl,HT.out⟩
 ·have HD:=Lib.hid (decide_eq_false hx);rw[if_neg hx];simp only[Option.getD_none];clear hx;go_wp2;go_ret;exact⟨by rw[HD.out];rfl,HT.out⟩
section
variable {w:World} {bv bi B t mr mp:Nat} {e a s r l n lv:Value} {fs:List Value} {b:Bks} {us:List (Ent×Value)}
theorem z3l (h:Vw w bv bi B t mr mp e a s r l n lv fs b us) (F:RuleFacts b) (hpl:(zay b.entries).length≤3000) (hT:Tab64 0 w) {vb bb mb:Nat} {Bd:List Rt6} (hv:Blk w vb 34 #[.pointer (some ⟨bv,0,none⟩)]) (hb:Blk w bb 156 #[.map (some mb)]) (hm:MapIs zcq w mb (Bd.map fun k=>(k,iV 1))) (c1 c2 c3 c4 c5 c6:Int):
 Calls Tryz.prog 174 #[.agg #[iV c1,iV c2,iV c3,iV c4,iV c5,iV c6],.pointer (some ⟨vb,0,none⟩),.pointer (some ⟨bb,0,none⟩)] w (zgr (delB b Bd (c1,c2,c3,c4,c5,c6)) w):=by
 have tA:=tal w (.cells #[iV c1,iV c2,iV c3,iV c4,iV c5,iV c6] 31);have bz:=Blk.new w 31 #[iV c1,iV c2,iV c3,iV c4,iV c5,iV c6];have HREC:=Lib.hid (zga (h.keep tA) F (hT.keep tA) c1 c2 c3 c4 c5 c6);have HRL:=Lib.hid (z1l F.hok hpl (c1,c2,c3,c4,c5,c6));have hvA:=hv.keep tA id;have hbA:=hb.keep tA id;have hmA:=hm.keep tA id;have v0:=hvA.at0;obtain⟨g0,g1,g2,g3,g4,g5⟩:=bz.f6;unfold delB;clear h hT hv hb hm;go_enter Tryz.func174,Tryz.ntmps174;go_wp2_with fail;generalize w.alloc _=W at *;generalize w.heap.size=z at *;refine HREC.out.mono ?_;rintro _ w1 ⟨v1,rfl,hr1,t1⟩;clear HREC
 obtain⟨RQ,hRQ⟩:∃q,zfg b (c1,c2,c3,c4,c5,c6)=q:=⟨_,rfl⟩
 rw[hRQ]at hr1 HRL;obtain⟨R,er⟩:=RQ;have HRQ:=Lib.hid hRQ;clear hRQ;simp only at hr1 HRL
 obtain⟨RR,hRR⟩:∃RR,R=RR:=⟨_,rfl⟩
 have HRW:=Lib.hid hr1;have HRR:=Lib.hid hRR;rw[hRR]at HRL HRW;obtain⟨⟨b1,b2⟩,pl,mi,⟨s1,s2,s3,s4,s5,s6⟩,rd,⟨r1,r2⟩,hs⟩:=R;obtain⟨p1,m1,rfl,hp1,hm1⟩:=hr1;obtain⟨P1,k1,rfl,_,_⟩:=hp1.form;obtain⟨M1,d1,rfl,_,_⟩:=hm1.form;unfold z4g at HRW⊢;simp only at HRW⊢;have tG:=tal w1 (.cells #[iV b1,iV b2,.slice P1 pl.length k1,.slice M1 mi.length d1,iV s1,iV s2,iV s3,iV s4,iV s5,iV s6,.bool rd,iV r1,iV r2,.bool hs] 48);have bG:=Blk.new w1 48 #[iV b1,iV b2,.slice P1 pl.length k1,.slice M1 mi.length d1,iV s1,iV s2,iV s3,iV s4,iV s5,iV s6,.bool rd,iV r1,iV r2,.bool hs];have t1G:=t1.trans tG;have bz1:=bz.keep t1G id;have hbG:=hbA.keep t1G id;have hmG:=hmA.keep t1G id;have T1:=tA.trans t1G;have HRD:=Lib.hid (zz5 (HRW.out.keep tG) (by have:=HRL.out;omega))
 have HLN:=Lib.hid (show(zyk RR).length≤5001 by
  unfold zyk zys;refine Nat.le_trans (zzr _) ?_;rw[List.length_append,List.length_append];have:=HRL.out
  split<;>simp <;>omega)
 obtain⟨f0,f1,f2,f3,f4,f5,f6,f7,f8,f9,f10,f11,f12,f13⟩:=bG.f14;have n0:=hbG.at0;have HMG:=Lib.hid hmG;obtain⟨q0,q1,q2,q3,q4,q5⟩:=bz1.f6;clear g0 g1 g2 g3 g4 g5 v0 bz hvA hbA hmA tA t1 tG t1G hp1 hm1 bG bz1 hRR HRW;go_wp2_with (refine zh6 rfl _ _ _ false rfl zym Tryz.underlying156 (zyr _) (k:=(c1,c2,c3,c4,c5,c6)) (by rfl) (by rfl) HMG.out ?_;refine Hid.out ?_);refine Lib.hid ?_;rw[zy8];by_cases hx:((c1,c2,c3,c4,c5,c6):Rt6)∈Bd
 rotate_left
 ·have HD:=Lib.hid (decide_eq_false hx);rw[if_neg hx];simp only[Option.getD_none];clear hx HRD q0 q1 q2 q3 q4 q5 f0 f1 f2 f3 f4 f5 f6 f7 f8 f9 f10 f11 f12 f13;go_wp2;go_ret;exact⟨by rw[HD.out];rfl,T1⟩
 have HD:=Lib.hid (decide_eq_true hx);rw[if_pos hx];simp only[Option.getD_some];clear hx;go_wp2_with fail;generalize w1.alloc _=W1 at *;refine HRD.out.mono ?_;rintro _ w2 ⟨u,rfl,hrow,t2⟩;have hr2:=hrow.weak (P':=fun _=>True) (fun _ _=>trivial);have T2:=T1.trans t2;have hb2:=hbG.keep t2 id;have hm2:=hmG.keep t2 id;have HH:=Lib.hid (hasC_any hr2 (by have:=HLN.out;omega) (fun y=>decide (y∈Bd)) 176 #[.pointer (some ⟨bb,0,none⟩)] (enters_of Tryz.func176 (by kernel_rfl) rfl) (fun x w' t'=>z2i (hb2.keep t' id) (hm2.keep t' id) x.1 x.2.1 x.2.2.1 x.2.2.2.1 x.2.2.2.2.1 x.2.2.2.2.2));obtain⟨U,cu,rfl,_,_⟩:=hr2.form;clear HRD hrow hr2 q0 q1 q2 q3 q4 q5 f0 f1 f2 f3 f4 f5 f6 f7 f8 f9 f10 f11 f12 f13 n0 hbG hmG HMG t2 T1 hb2 hm2
 obtain⟨an,han⟩:∃an,((zyk RR).any fun y=>decide (y∈Bd))=an:=⟨_,rfl⟩
 rw[han]at HH;have HAN:=Lib.hid han;clear han;go_wp2_with fail;refine HH.out.mono ?_;rintro _ w3 ⟨rfl,t3⟩;clear HH;go_wp2;go_ret;refine⟨?_,T2.trans t3⟩;rw[HD.out,HRQ.out,HRR.out,HAN.out];rfl
end
end Go.Proofs.YtoegobjnjljegaaGreatDoor
namespace Go.Gk.V38
open Go.Gk.V37 Go.Gk.V33 Go.RowKit
theorem bad_step {b:Bks} {L:List Rt6} {j:Nat} (hj:j<L.length):zzu b (L.take (j+1))=zzu b (L.take j)++if(zyq b L[j]).2≠0 then[L[j]]else[]:=by
 unfold zzu;rw[List.take_succ_eq_append_getElem hj,List.filter_append];congr 1;by_cases h:(zyq b L[j]).2=0
 ·simp[h]
 ·simp[h]
theorem bad_new {b:Bks} {L:List Rt6} (hL:L.Nodup) {j:Nat} (hj:j<L.length):L[j]∉zzu b (L.take j):=fun h=>by
 have h1:=(List.mem_filter.1 h).1;obtain⟨i,hi,e⟩:=List.getElem_of_mem h1;rw[List.length_take]at hi;rw[List.getElem_take]at e;have:=(List.getElem_inj hL).1 e;omega
theorem z4o {b:Bks} {c:Rt6} {er:Int} (h:za3 c b.ents.length b.accs.length=er) (h0:er≠0):BlameAns b c [] er:=⟨fun _=>⟨rfl,h.symm⟩,fun h9=>absurd (h.symm.trans h9) h0⟩
theorem z2j {b:Bks} {c:Rt6} (h:za3 c b.ents.length b.accs.length=0) {L:List Rt6} {er:Int} (hn:NeedsAns b [c] 20000 L er):
 (er≠0→BlameAns b c [] er)∧(er=0→L.Nodup∧L.length≤20000∧BlameAns b c (L.filter fun x=>!delB b (zzu b L) x) 0):=by
 have hb:z3p b [c]=0:=by
  unfold z3p;rw[if_neg (by simpa using h)];rfl
 rcases hn.ans (by omega) hb with⟨rfl,rfl,S,h1,h2,h3⟩|⟨rfl,hl,S,h1,rfl,h3⟩
 ·exact⟨fun _=>⟨fun h9=>absurd h h9,fun _=>.inl ⟨rfl,rfl,S,h1,h2,h3⟩⟩,fun h9=>by omega⟩
 ·exact⟨fun h9=>absurd rfl h9,fun _=>⟨(zzc S).nodup_iff.2 h1,by omega,⟨fun h9=>absurd h h9,fun _=>.inr ⟨rfl,S,h1,h3,rfl⟩⟩⟩⟩
end Go.Gk.V38
namespace Go.Proofs.YtoegobjnjljegaaGreatDoor
open Go.RowKit Go.Gk Go.Gk.V33 Go.Gk.V37 Go.Gk.V38
section
variable {w:World} {bv bi B t mr mp:Nat} {e a s r l n lv:Value} {fs:List Value} {b:Bks} {us:List (Ent×Value)}
theorem z4p (h:Vw w bv bi B t mr mp e a s r l n lv fs b us) (F:RuleFacts b) (hpl:(zay b.entries).length≤3000) (hT:Tab64 0 w) (c1 c2 c3 c4 c5 c6:Int):
 Calls Tryz.prog 104 #[.pointer (some ⟨bv,0,none⟩),.agg #[iV c1,iV c2,iV c3,iV c4,iV c5,iV c6]] w fun x w'=>∃(L:List Rt6) (u:Value) (er:Int),x=.returned (.tuple #[u,iV er])∧zae za2 6 (fun g=>w.heap.size≤g) w' u L∧Tf w w'∧BlameAns b (c1,c2,c3,c4,c5,c6) L er:=by
 obtain⟨W,hW,tw,bV,bC⟩:=al2 w #[.pointer (some ⟨bv,0,none⟩)] #[iV c1,iV c2,iV c3,iV c4,iV c5,iV c6] 34 31;have HV:=Lib.hid (fun w' (t9:Tf w w')=>h.keep t9);have HTT:=Lib.hid (fun w' (t9:Tf w w')=>hT.keep t9);have HREC:=Lib.hid (zga (h.keep tw) F (hT.keep tw) c1 c2 c3 c4 c5 c6);have HRE:=Lib.hid (zz8 (b:=b) (c:=(c1,c2,c3,c4,c5,c6)));have hmm:=@run_makeMap Tryz.prog;have v0:=bV.at0;obtain⟨g0,g1,g2,g3,g4,g5⟩:=bC.f6;clear h hT;go_enter Tryz.func104,Tryz.ntmps104;go_wp2_with fail;refine HREC.out.mono ?_;rintro _ w1 ⟨v1,rfl,hr1,t1⟩;clear HREC;have HZW:=Lib.hid (show w.heap.size≤W.heap.size from tw.size);have hvl:=bV.lt;have hcl:=bC.lt;generalize hzw:w.heap.size=z at *;have HZN:=Lib.hid hzw;clear hzw
 obtain⟨RQ,hRQ⟩:∃q,zfg b (c1,c2,c3,c4,c5,c6)=q:=⟨_,rfl⟩
 rw[hRQ]at hr1 HRE;obtain⟨R,er⟩:=RQ;simp only at hr1 HRE;rw[hRQ];clear hRQ;obtain⟨⟨b1,b2⟩,pl,mi,⟨s1,s2,s3,s4,s5,s6⟩,rd,⟨r1,r2⟩,hs⟩:=R;obtain⟨p1,m1,rfl,hp1,hm1⟩:=hr1;obtain⟨P1,k1,rfl,_,_⟩:=hp1.form;obtain⟨M1,d1,rfl,_,_⟩:=hm1.form;unfold z4g;simp only;by_cases her:er=0
 rotate_left
 ·have tG:=tal w1 (.cells #[iV b1,iV b2,.slice P1 pl.length k1,.slice M1 mi.length d1,iV s1,iV s2,iV s3,iV s4,iV s5,iV s6,.bool rd,iV r1,iV r2,.bool hs] 48);have T1:=tw.trans (t1.trans tG);have hx:(er !=0)=true:=by simpa using her
  have HA:=Lib.hid (z4o HRE.out.symm her);clear her g0 g1 g2 g3 g4 g5 v0 hp1 hm1 tG t1 bV bC hW;go_wp2;(try simp only[Exit.inBlock,Exit.then]);(try rw[Exit.noGoto_ret]);go_ret2
  exact⟨[],_,_,rfl,Row.nil _ _ _,T1,HA.out⟩
 subst her;obtain⟨W1,hW1,tG,bR,bL⟩:=al2 w1 #[iV b1,iV b2,.slice P1 pl.length k1,.slice M1 mi.length d1,iV s1,iV s2,iV s3,iV s4,iV s5,iV s6,.bool rd,iV r1,iV r2,.bool hs] #[iV c1,iV c2,iV c3,iV c4,iV c5,iV c6] 48 31;have t1G:=t1.trans tG;have tR:=tal w1 (.cells #[iV b1,iV b2,.slice P1 pl.length k1,.slice M1 mi.length d1,iV s1,iV s2,iV s3,iV s4,iV s5,iV s6,.bool rd,iV r1,iV r2,.bool hs] 48);have bV1:=(bV.keep t1 id).keep tR id;have bC1:=(bC.keep t1 id).keep tR id;have T1:=tw.trans t1G;have bV2:=bV.keep t1G id;have bC2:=bC.keep t1G id;obtain⟨f0,f1,f2,f3,f4,f5⟩:=bC1.f6;have v1:=bV1.at0;have hr:zae za2 6 (fun _=>True) W1 (.slice (some ⟨w1.heap.size+1,0,none⟩) 1 1) [(c1,c2,c3,c4,c5,c6)]:=Row.own (z0z (base:=0) (size:=6) (n:=1) bL (Nat.zero_le _) rfl (by decide)) (fun _ _=>trivial);have HN:=Lib.hid (zz3 (HV.out W1 T1) F hpl (HTT.out W1 T1) hr (by simp) 20000);have HBN:=Lib.hid (fun L er=>@z2j b _ HRE.out.symm L er);clear g0 g1 g2 g3 g4 g5 v0 hp1 hm1 tG t1G t1 bV bC hW bV1 bC1 bR bL hr HRE tR;go_wp2_with fail;refine HN.out.mono ?_;rintro _ w2 ⟨L,u,er,rfl,hO,hA⟩;clear HN;obtain⟨A2,k2,rfl,_,_⟩:=hO.form;have hbn:=HBN.out L er hA;have bV3:=bV2.keep hO.tch id;have bC3:=bC2.keep hO.tch id;have T2:=T1.trans hO.tch;clear f0 f1 f2 f3 f4 f5 v1 bV2 HBN hW1 hA T1;by_cases her:er=0
 rotate_left
 ·have hx:(er !=0)=true:=by simpa using her
  have HA:=Lib.hid (hbn.1 her);clear her bV3 bC3 hbn hO;go_wp2;(try simp only[Exit.inBlock,Exit.then]);(try rw[Exit.noGoto_ret]);go_ret2
  exact⟨[],_,_,rfl,Row.nil _ _ _,T2,HA.out⟩
 subst her;obtain⟨hnd,hln,hfin⟩:=hbn.2 rfl;have HFIN:=Lib.hid hfin;have HND:=Lib.hid hnd;have HLN:=Lib.hid hln;clear hbn hfin hnd;have tM:=tal w2 (.map #[] 0);have tB:=tal (w2.alloc (.map #[] 0)) (.cells #[.map (some w2.heap.size)] 156);have t3:=tM.trans tB;have hM3:=(MapB.new zcq w2).keep tB id;have bB3:=Blk.new2 w2 (.map #[] 0) 156 #[.map (some w2.heap.size)];have hO3:=hO.keep t3;have bV4:=bV3.keep t3 id;have T3:=T2.trans t3;have v1:=bV4.at0;have HVAL:=Lib.hid (z0i (HV.out _ T3) F hpl (HTT.out _ T3) hO3.row (by omega));have hrL:zae za2 6 (fun g=>g<w2.heap.size) _ _ L:=Row.own hO3.own (fun g hg=>(hO.own.lt g hg).2);have HSZ:=Lib.hid (show z+1<w2.heap.size from bC3.lt);have HOB:=Lib.hid (show∀g,(Value.slice A2 L.length k2).ownBlock=some g→z+1<g∧g<w2.heap.size from fun g hg=>⟨Nat.lt_of_lt_of_le bC2.lt (hO.own.lt g hg).1,(hO.own.lt g hg).2⟩);have HBS:=Lib.hid (show z+1<W1.heap.size from bC2.lt);clear tM tB t3 bV3 bC3 T2 hO hln;go_wp2_with fail;generalize hW3:(w2.alloc _).alloc _=W3 at *;have hsz3:=bB3.lt;generalize w2.heap.size=mb at *;clear hW3;refine HVAL.out.mono ?_;rintro _ w4 ⟨uv,rfl,hrv,t4⟩;clear HVAL v1;obtain⟨AV,kv,rfl,_,_⟩:=hrv.form;have hM4:=hM3.keep t4 id;have bB4:=bB3.keep t4 id;have bV5:=bV4.keep t4 id;have hO4:=hO3.keep t4;have T4:=T3.trans t4;have hrL4:=Row.keepTo (P':=fun g=>g<mb) hrL t4 (fun g _ hp=>⟨id,hp⟩);have HRL:=Lib.hid (fun wr (ht:Tch (fun g=>g=mb) w4 wr)=>Row.keepTo (P':=fun g=>g≠mb) hrL4 ht (fun g _ hp=>⟨fun e=>by have hp:g<mb:=hp;omega,fun e=>by have hp:g<mb:=hp;omega⟩));have HRV:=Lib.hid (fun wr (ht:Tch (fun g=>g=mb) w4 wr)=>Row.keepTo (P':=fun g=>g≠mb) hrv ht (fun g _ hp=>⟨fun e=>by have hp:W3.heap.size≤g:=hp;omega,fun e=>by have hp:W3.heap.size≤g:=hp;omega⟩));rw[List.length_map];clear hM3 bB3 bV4 hO3 T3 t4 hrL hrL4 hrv;go_wp2_with fail;go_loopw [37] (fun i wr=>∃j:Nat,j≤L.length∧i=.int .i64 j∧MapB zcq wr mb ((zzu b (L.take j)).map fun k=>(k,.int .i64 1))∧Tch (fun g=>g=mb) w4 wr) (fun i _=>L.length-(intOf i).toNat)
 case atStart=>exact⟨0,Nat.zero_le _,rfl,hM4,Tch.refl _ _⟩
 case round=>
  obtain⟨j,hj,rfl,hMj,ht⟩:=hrel;have hj0:=znn j;have h20:=HLN.out;by_cases hlt:j<L.length
  ·have hlt':(j:Int)<(L.length:Int):=by omega
   have tZ:=ht.trans (Exn.touch (F:=fun g=>g=mb) (tal wr (.cells #[iV (zyq b L[j]).1,iV (zyq b L[j]).2] 41)));have hrv9:=HRV.out wr ht;have hrl9:=HRL.out _ tZ;obtain⟨gv,ov,rfl⟩:=hrv9.head (by rw[List.length_map];omega);obtain⟨q0,q1⟩:=Row.two (i:=j) (l:=L.map (zyq b)) hrv9 zyt (by rw[List.length_map];omega) (by rw[List.getElem_map];rfl);obtain⟨gl,ol,rfl⟩:=hrl9.head (by omega);obtain⟨p0,p1,p2,p3,p4,p5⟩:=Row.six hrl9 zd3 hlt rfl;have HGL:=Lib.hid (show gl≠mb from(Row.block hrl9 (by omega)).1);have tA:=tal wr (.cells #[iV (zyq b L[j]).1,iV (zyq b L[j]).2] 41);have bz:=Blk.new wr 41 #[iV (zyq b L[j]).1,iV (zyq b L[j]).2];have hMA:=hMj.keep tA id;have bBA:=bB4.keep tZ (by omega);have HNX:=Lib.hid (bad_step (b:=b) hlt);have HNW:=Lib.hid (bad_new (b:=b) HND.out hlt);generalize zyq b L[j]=vv at *;obtain⟨x1,x2⟩:=vv;generalize L[j]=cc at *;obtain⟨e1,e2,e3,e4,e5,e6⟩:=cc;simp only at q0 q1 p0 p1 p2 p3 p4 p5 tZ tA bz hMA bBA HNX hrl9;obtain⟨z0,z1⟩:=bz.f2;clear hMj ht hrv9 hrl9 tA bz;by_cases hx:x2=0
   ·subst hx;have HM9:=Lib.hid hMA;have HT9:=Lib.hid tZ;have HE:=Lib.hid (show zzu b (L.take (j+1))=zzu b (L.take j) by rw[HNX.out,if_neg (by simp),List.append_nil]);clear HNX HNW hMA tZ p0 p1 p2 p3 p4 p5 bBA;go_wp2;go_roundw
    case rel=>exact⟨j+1,by omega,by go_num,by rw[HE.out];exact HM9.out,HT9.out⟩
    case measure=>simp[intOf]<;>omega
   have hx':(x2 !=0)=true:=by simpa using hx
   have HE:=Lib.hid (show zzu b (L.take (j+1))=zzu b (L.take j)++[(e1,e2,e3,e4,e5,e6)] by rw[HNX.out,if_pos hx]);clear HNX hx;have hf:zar ((zzu b (L.take j)).map fun k=>(k,Value.int .i64 1)) (e1,e2,e3,e4,e5,e6)=none:=by rw[zy8,if_neg HNW.out]
   obtain⟨th,hth⟩:∃th,zzu b (L.take j)=th:=⟨_,rfl⟩
   rw[hth]at hf hMA HE HNW;clear hth;have HFN:=Lib.hid hf;obtain⟨es,ck,E1,E2,E3⟩:=hMA;obtain⟨es',ck',X1,X2⟩:=z1v zym Tryz.underlying156 zyr E2 E3 mb (e1,e2,e3,e4,e5,e6) hf;have HX1:=Lib.hid X1;have HX2:=Lib.hid X2;have HE2:=Lib.hid E2;have HBB:=Lib.hid bBA;have HTZ:=Lib.hid tZ;clear hf X1 X2 E2 E3 bBA tZ;go_wp2_with fail;have hbb:=HBB.out;have hT5:=HTZ.out;generalize hWA:wr.alloc _=W5 at *
   obtain⟨I,hI⟩:∃I:World→Prop,I=fun w'=>w'.heap[mb]?=some (.map es ck)∨w'.heap[mb]?=some (.map es' ck'):=⟨_,rfl⟩
   obtain⟨J,hJ⟩:∃J:Nat→World→Prop,J=fun s w'=>w'.heap[mb]?=some (.map (if s=0 then es else es') (if s=0 then ck else ck')):=⟨_,rfl⟩
   have HI:=Lib.hid hI;have HJ:=Lib.hid hJ;clear hI hJ hWA;have y0:=zyl (F:=fun g=>g=mb) (I:=I) hbb.at0 (show¬(mb+1=mb) by omega);have y1:=zyl (F:=fun g=>g=mb) (I:=I) p0 HGL.out;have y2:=zyl (F:=fun g=>g=mb) (I:=I) p1 HGL.out;have y3:=zyl (F:=fun g=>g=mb) (I:=I) p2 HGL.out;have y4:=zyl (F:=fun g=>g=mb) (I:=I) p3 HGL.out;have y5:=zyl (F:=fun g=>g=mb) (I:=I) p4 HGL.out;have y6:=zyl (F:=fun g=>g=mb) (I:=I) p5 HGL.out;refine zy2 (fun g=>g=mb) I (fun a b t h=>?_) [] 9 [(5,.inl (iV 0)),(7,.inl (.tuple #[iV 0,iV (ck:Int)]))] [(7,0)] 1 J (by kernel_rfl) rfl (by kernel_rfl) (by kernel_rfl) rfl (fun d _ _ _ _ h=>by cases d<;>exact h) trivial ?_ (fun s w1 w2 ht hj=>?_) ?_
   ·rw[HI.out]at h⊢;rcases h with h|h
    ·exact .inl ((t.block _ (Array.getElem?_eq_some_iff.1 h).1 id).trans h)
    ·exact .inr ((t.block _ (Array.getElem?_eq_some_iff.1 h).1 id).trans h)
   ·rw[HJ.out];exact E1
   ·rw[HJ.out]at hj⊢;exact(ht.block _ (Array.getElem?_eq_some_iff.1 hj).1 id).trans hj
   intro bef ops hbef hops;clear hbef;subst hops;simp only[List.take_succ_cons,List.take_zero,List.drop_succ_cons,List.drop_zero];iterate 5 (refine z0m (by rfl) (by rfl) (by rfl) (by rfl) (fun K hK=>?_);go_big_quiet_op;(first|refine hK _ ?_|refine⟨_,fun _=>rfl,hK _ ?_⟩);clear hK K;(try simp only[zaw]))
   refine z24 (iV 0) (by rfl) (by rfl) (by rfl) (fun w1 hr hf=>?_) ?_
   ·have hi:=hr.2 (by rw[HI.out];exact .inl E1);rw[HI.out]at hi;rcases hi with h|h
    ·refine zrg _ _ _ rfl zym Tryz.underlying156 (zyr w1) (k:=(e1,e2,e3,e4,e5,e6)) (by rfl) (by rfl) (show MapIs zcq w1 mb _ from⟨es,ck,h,HE2.out⟩) ⟨by rw[HFN.out];rfl,Tch.refl _ _⟩
    ·refine zrg _ _ _ rfl zym Tryz.underlying156 (zyr w1) (k:=(e1,e2,e3,e4,e5,e6)) (by rfl) (by rfl) (HX2.out w1 h).1 ⟨by rw[z0c _ _ _ HFN.out];rfl,Tch.refl _ _⟩
   simp only[zaw];iterate 1 (refine z0m (by rfl) (by rfl) (by rfl) (by rfl) (fun K hK=>?_);go_big_quiet_op;(first|refine hK _ ?_|refine⟨_,fun _=>rfl,hK _ ?_⟩);clear hK K;(try simp only[zaw]))
   refine p_fix (.tuple #[iV 0,iV (ck:Int)]) 0 (by rfl) (by rfl) (by rfl) (fun w1 hr hj hf=>?_) ?_
   ·rw[HJ.out]at hj;obtain⟨w2,hrun,hh,t2⟩:=HX1.out w1 hj;refine zdm (enc:=zcq) _ _ _ rfl (k:=(e1,e2,e3,e4,e5,e6)) (by rfl) (by rfl) hrun ⟨rfl,⟨t2,fun _=>by rw[HI.out];exact .inr hh⟩,?_⟩;rw[HJ.out];exact hh
   simp only[zaw];iterate 1 (refine z0m (by rfl) (by rfl) (by rfl) (by rfl) (fun K hK=>?_);go_big_quiet_op;(first|refine hK _ ?_|refine⟨_,fun _=>rfl,hK _ ?_⟩);clear hK K;(try simp only[zaw]))
   refine p_nil ?_;intro w6 hr hj hp;rw[HJ.out]at hj;refine zzd rfl _ _ _ _ rfl (b:=mb) (n:=ck) (u:=iV 1) (by rfl) (by rfl) (by first|rfl|(go_num)) ((HX2.out w6 hj).2 (iV 1)) (fun w7 hM7=>?_);obtain⟨hM7,t7⟩:=hM7;have tr:=((Tch.drew (fun g=>g=mb) W5).trans hr.1).trans t7;have HT7:=Lib.hid (hT5.trans tr);have HM7:=Lib.hid (show MapB zcq w7 mb ((th++[(e1,e2,e3,e4,e5,e6)]).map fun k=>(k,iV 1)) by rw[List.map_append];exact hM7);clear hj hp hr t7 tr hbb hT5 HX1 HX2 HE2 HI HJ HFN HBB HTZ E1 hM7 y0 y1 y2 y3 y4 y5 y6 p0 p1 p2 p3 p4 p5;go_wp2;go_roundw
   case rel=>exact⟨j+1,by omega,by go_num,by rw[HE.out];exact HM7.out,HT7.out⟩
   case measure=>simp[intOf]<;>omega
  ·obtain rfl:j=L.length:=by omega
   have hlt':¬(L.length:Int)<(L.length:Int):=by omega
   rw[List.take_length]at hMj;have hOr:=ht.own hO4.own (fun g hg e=>by have:=(HOB.out g hg).2;have e:g=mb:=e;omega);have T5:=T4.trans' ht (fun i hi=>.inr (by have hi:i=mb:=hi;have:=HZW.out;have:=HZN.out;have:=HSZ.out;omega));have bV6:=bV5.keep ht (by have:=HSZ.out;omega);have bB6:=bB4.keep ht (by omega);have tO:=fun(w':World) (t9:Tch (fun k=>(Value.slice A2 L.length k2).ownBlock=some k) wr w')=>T5.trans' t9 (fun i hi=>.inr (by have:=(HOB.out i hi).1;have:=HZN.out;omega))
   have HD:=Lib.hid (z2h hOr (by omega) (delB b (zzu b L)) 174 #[.pointer (some ⟨z,0,none⟩),.pointer (some ⟨mb+1,0,none⟩)] (enters_of Tryz.func174 (by kernel_rfl) rfl) (fun x w' t'=>z3l (HV.out w' (tO w' t')) F hpl (HTT.out w' (tO w' t')) (bV6.keep t' (fun e=>by have:=(HOB.out z e).1;omega)) (bB6.keep t' (fun e=>by have:=(HOB.out _ e).2;omega)) (hMj.is.keep t' (fun e=>by have:=(HOB.out _ e).2;omega)) x.1 x.2.1 x.2.2.1 x.2.2.2.1 x.2.2.2.2.1 x.2.2.2.2.2));have HTO:=Lib.hid tO;clear hOr T5 bV6 bB6 tO ht hMj;go_wp2_with fail;refine HD.out.mono ?_;rintro _ w9 ⟨u9,rfl,hr9,t9⟩;have HR9:=Lib.hid (hr9.weak (P':=fun g=>w.heap.size≤g) (fun g hg=>by have hg:W1.heap.size≤g:=hg;have:=HBS.out;have:=HZN.out;omega));have HT9:=Lib.hid (HTO.out _ t9);clear HD hr9 t9;go_wp2;go_ret2
   exact⟨_,_,_,rfl,HR9.out,HT9.out,HFIN.out⟩
