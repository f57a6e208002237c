/-
  FeedMisses: a cell whose value is that there is no rate misses one. (Printed by gen_kr.py.)
-/
import Derived.Test.YtoegobjnjljegaaGreatDoorZ91
set_option maxRecDepth 100000
set_option maxHeartbeats 25600000
namespace Go.Gk.V39
open Go.RowKit Go.Gk Go.Gk.V33 Go.Gk.V37 Go.Gk.V38
theorem miss_some {b:Bks} (hok:zba b=true) {c:Rt6} {K:List Rk4} (h:RatesAns b c K 0) (hv:(zyq b c).2=40):0<(missOf b K).length:=by
 obtain⟨d,k,h1,h2,h3⟩:=miss_40 hok _ (Nat.lt_succ_self _) h.1.symm hv;exact List.length_pos_of_mem (a:=k) (List.mem_filter.2 ⟨((h.2.2 rfl).2 k).2 ⟨d,h1,h2⟩,by rw[h3];rfl⟩)
theorem miss_in {b:Bks} {K:List Rk4} {x:Rk4} (h:x∈missOf b K):(zee b.rates x.1 x.2.1 x.2.2.1 x.2.2.2).2=false:=by
 have:=(List.mem_filter.1 h).2;simpa[hasR]using this
theorem known_in {b:Bks} {K:List Rk4} {x:Rt6} (h:x∈knownOf b K):(zee b.rates x.1 x.2.1 x.2.2.1 x.2.2.2.1)=((x.2.2.2.2.1,x.2.2.2.2.2),true):=by
 obtain⟨k,hk,rfl⟩:=List.mem_map.1 h;have:=(List.mem_filter.1 hk).2;unfold hasR at this;unfold rkR;exact Prod.ext rfl this
end Go.Gk.V39
namespace Go.Proofs.YtoegobjnjljegaaGreatDoor
open Go.RowKit Go.Gk Go.Gk.V32 Go.Gk.V33 Go.Gk.V37 Go.Gk.V38 Go.Gk.V39
theorem feedmisses_any {w:World} {e a s r l n:Value} {b:Bks} {us:List (Ent×Value)} (h:BksAt w e a s r l n b us) (h64:Bks64 b) (hT:Tab64 0 w) (c1 c2 c3 c4 c5 c6:Int):
 Calls Tryz.prog 10 #[.agg #[e,a,s,r,l,n],.agg #[iV c1,iV c2,iV c3,iV c4,iV c5,iV c6]] w fun x w'=>x=.returned (.bool true)∧Tf w w':=by
 have HTA:=Lib.hid (fun w' (t9:Tf w w')=>hT.keep t9);clear hT;obtain⟨W,hW,tw,hbB,hbC⟩:=al2 w #[e,a,s,r,l,n] #[iV c1,iV c2,iV c3,iV c4,iV c5,iV c6] 29 31;have HF:=Lib.hid (z2e (h.keep tw) c1 c2 c3 c4 c5 c6);have HW:=Lib.hid (h.keep tw);obtain⟨Ae,ce,rfl,_,_⟩:=h.ents.form;obtain⟨Aa,ca,rfl,_,_⟩:=h.accs.form;obtain⟨As,cs,rfl,_,_⟩:=h.stakes.form;obtain⟨Ar,cr,rfl,_,_⟩:=h.rates.form;obtain⟨Al,cl,rfl,_,_⟩:=h.locks.form;obtain⟨An,cn,rfl,_,_⟩:=h.ent.row.form;clear h;obtain⟨g0,g1,g2,g3,g4,g5⟩:=hbB.f6;obtain⟨k0,k1,k2,k3,k4,k5⟩:=hbC.f6;go_enter Tryz.func10,Tryz.ntmps10;go_wp2_with fail;generalize w.heap.size=z at *;refine HF.out.mono ?_;rintro _ w1 ⟨fw,rfl,hfw,t1⟩;clear HF k0 k1 k2 k3 k4 k5 g0 g1 g2 g3 g4 g5 hW;have tt1:=tw.trans t1
 cases fw
 ·clear hfw;go_wp2_with fail;refine(awake39_any w1 (HTA.out _ tt1)).mono ?_;rintro _ wz ⟨rfl,tz⟩;go_wp2;(try rw[Exit.noGoto_ret]);go_ret;exact⟨rfl,tt1.trans tz⟩
 obtain⟨hf26,hE6,hA9,hP3⟩:=hfw rfl;have hfew:=zwv hf26;have hB1:=hbB.keep t1 id;have hC1:=hbC.keep t1 id;have h1:=HW.out.keep t1;clear hbB hbC HW tw t1 hfw hf26;obtain⟨g0,g1,g2,g3,g4,g5⟩:=hB1.f6;go_wp2_with fail;refine(zwu h1 hfew h64).mono ?_;rintro _ w2 ⟨hsee,t2⟩;have tt2:=tt1.trans t2
 rcases hsee with⟨_,m,rfl,hm⟩|⟨hok,bv,bi,B,t,mr,mp,e',a',s',r',l',n',lv,fs,us',rfl,hV⟩
 ·have hm2:(m !=0)=true:=by simpa using hm
  clear g0 g1 g2 g3 g4 g5 hm;go_wp2_with fail;refine(awake39_any w2 (HTA.out _ tt2)).mono ?_;rintro _ wz ⟨rfl,tz⟩;go_wp2;(try rw[Exit.noGoto_ret]);go_ret;exact⟨rfl,tt2.trans tz⟩
 have hC2:=hC1.keep t2 id;have hB2:=hB1.keep t2 id;have HBA:=Lib.hid (h1.keep t2);clear g0 g1 g2 g3 g4 g5 hB1 hC1 h1 tt1 t2;have hpl:=z34 hfew;have FACTS:=Lib.hid (show RuleFacts b from⟨zvc hfew,zxs hfew,ztj h64,by have:=hfew.rates;omega,(zec hok).1,by have:=hfew.accs;omega,hok⟩);have HFEW:=Lib.hid hfew;have HOK:=Lib.hid hok;have HV:=Lib.hid (fun w' (t9:Tf w2 w')=>hV.keep t9);have HTT:=Lib.hid (fun w' (t9:Tf w2 w')=>HTA.out _ (tt2.trans t9));have HLI:=Lib.hid (fun w' (t9:Tf w2 w') d1 d2 d3 d4 d5 d6 (hd:d4≤3)=>lines39_any (hV.keep t9) FACTS.out hpl hE6 hA9 (HTT.out _ t9) d1 d2 d3 d4 d5 d6 hd);have HP3:=Lib.hid hP3;have HPL:=Lib.hid hpl;have HRA:=Lib.hid (rates39_any (hV) FACTS.out hpl hE6 hA9 (HTT.out _ (Tch.refl _ _)) c1 c2 c3 c4 c5 c6 hP3);have T2:=Lib.hid tt2;obtain⟨k0,k1,k2,k3,k4,k5⟩:=hC2.f6;clear hfew h64 hok hpl hE6 hA9 hP3 hV hB2 tt2 HLI;go_wp2_with fail;refine HRA.out.mono ?_;rintro _ w3 ⟨K,u1,u2,er,rfl,hKR,hMR,t3,hA⟩;have hC3:=hC2.keep t3 id;have T23:=Lib.hid t3;have HKR:=Lib.hid hKR;have HMR:=Lib.hid hMR;obtain⟨AK,kK,rfl,_,_⟩:=hKR.form;obtain⟨AM,kM,rfl,_,_⟩:=hMR.form;clear k0 k1 k2 k3 k4 k5 hC2 hKR hMR HRA;by_cases h0:er=0
 rotate_left
 ·have h9:=hA.2.1 h0;subst h9;have hm2:(er !=0)=true:=by simpa using h0
  have TT:=T2.out.trans t3;clear h0 hA t3;simp only[knownOf,missOf,List.filter_nil,List.map_nil,List.length_nil];go_wp2_with fail;refine(awake39_any w3 (HTA.out _ TT)).mono ?_;rintro _ wz ⟨rfl,tz⟩;go_wp2;(try rw[Exit.noGoto_ret]);go_ret;exact⟨rfl,TT.trans tz⟩
 subst h0;have HMS:=Lib.hid (miss_some HOK.out hA);clear hA t3;go_wp2_with fail;go_loopw [10] (fun i wr=>∃j:Nat,j≤(missOf b K).length∧i=.int .i64 j∧Tf w3 wr) (fun i _=>(missOf b K).length-(intOf i).toNat)
 case atStart=>exact⟨0,Nat.zero_le _,rfl,Tch.refl _ _⟩
 case round=>
  obtain⟨j,hj,rfl,ht⟩:=hrel;have hj0:=znn j;by_cases hlt:j<(missOf b K).length
  ·have hlt':(j:Int)<((missOf b K).length:Int):=by omega
   have hr9:=HMR.out.keep ht;obtain⟨g,o,rfl⟩:=hr9.head (by omega);obtain⟨q0,q1,q2,q3,q4,q5⟩:=Row.six hr9 rk6_len hlt rfl;have HX:=Lib.hid (miss_in (List.getElem_mem hlt));generalize(missOf b K)[j]=x at *;obtain⟨x1,x2,x3,x4⟩:=x;simp only at q0 q1 q2 q3 q4 q5;have tA:=tal wr (.cells #[iV x1,iV x2,iV x3,iV x4,iV 0,iV 0] 115);have bA:=Blk.new wr 115 #[iV x1,iV x2,iV x3,iV x4,iV 0,iV 0];have T1:=ht.trans tA;obtain⟨y0,y1,y2,y3,y4,y5⟩:=bA.f6;have HVR:=Lib.hid (zvd (HV.out _ (T23.out.trans T1)) FACTS.out.hr (HTT.out _ (T23.out.trans T1)) x1 x2 x3 x4);have hx:=HX.out;simp only at hx;rw[hx]at HVR;(try simp only at HVR);clear hr9 hx
   obtain⟨rr,hrr⟩:∃rr,(zee b.rates x1 x2 x3 x4).1=rr:=⟨_,rfl⟩
   rw[hrr]at HVR;clear hrr;obtain⟨x5,x6⟩:=rr;simp only at HVR;go_wp2_with fail;generalize wr.alloc _=WA at *;generalize wr.heap.size=ya at *;refine HVR.out.mono ?_;rintro _ wb ⟨rfl,tb⟩;have tB:=tal wb (.cells #[iV x5,iV x6] 44);have bB:=Blk.new wb 44 #[iV x5,iV x6];have bA2:=(bA.keep tb id).keep tB id;have T4:=(T1.trans tb).trans tB;clear y0 y1 y2 y3 y4 y5 q0 q1 q2 q3 q4 q5 HVR tA T1 bA tb tB ht;obtain⟨y0,y1,y2,y3,y4,y5⟩:=bA2.f6;obtain⟨z0,z1⟩:=bB.f2
   have hcmp:∀w':World,(binOp .neq 44 (.agg #[iV 0,iV 0]) (.agg #[iV 0,iV 0])).run Tryz.prog w'=.ok (.bool false) w':=fun w'=>by
    rw[run_ne_Ratio];simp
   clear bA2 bB;go_wp2;go_roundw
   case rel=>exact⟨j+1,by omega,by go_num,T4⟩
   case measure=>simp[intOf];omega
  ·obtain rfl:j=(missOf b K).length:=by omega
   have TL:=Lib.hid ht;clear ht hlt;go_wp2_with fail;go_loopw [14] (fun i wr=>∃j:Nat,j≤(knownOf b K).length∧i=.int .i64 j∧Tf w3 wr) (fun i _=>(knownOf b K).length-(intOf i).toNat)
   case atStart=>exact⟨0,Nat.zero_le _,rfl,TL.out⟩
   case round=>
    obtain⟨j,hj,rfl,ht⟩:=hrel;have hj0:=znn j;by_cases hlt:j<(knownOf b K).length
    ·have hlt':(j:Int)<((knownOf b K).length:Int):=by omega
     have hr9:=HKR.out.keep ht;obtain⟨g,o,rfl⟩:=hr9.head (by omega);obtain⟨q0,q1,q2,q3,q4,q5⟩:=Row.six hr9 zd3 hlt rfl;have HX:=Lib.hid (known_in (List.getElem_mem hlt));generalize(knownOf b K)[j]=x at *;obtain⟨x1,x2,x3,x4,x5,x6⟩:=x;simp only at q0 q1 q2 q3 q4 q5;have tA:=tal wr (.cells #[iV x1,iV x2,iV x3,iV x4,iV x5,iV x6] 115);have bA:=Blk.new wr 115 #[iV x1,iV x2,iV x3,iV x4,iV x5,iV x6];have T1:=ht.trans tA;obtain⟨y0,y1,y2,y3,y4,y5⟩:=bA.f6;have HVR:=Lib.hid (zvd (HV.out _ (T23.out.trans T1)) FACTS.out.hr (HTT.out _ (T23.out.trans T1)) x1 x2 x3 x4);have hx:=HX.out;simp only at hx;rw[hx]at HVR;(try simp only at HVR);clear hr9 hx;skip
     skip
     skip
     skip
     skip
     go_wp2_with fail;generalize wr.alloc _=WA at *;generalize wr.heap.size=ya at *;refine HVR.out.mono ?_;rintro _ wb ⟨rfl,tb⟩;have tB:=tal wb (.cells #[iV x5,iV x6] 44);have bB:=Blk.new wb 44 #[iV x5,iV x6];have bA2:=(bA.keep tb id).keep tB id;have T4:=(T1.trans tb).trans tB;clear y0 y1 y2 y3 y4 y5 q0 q1 q2 q3 q4 q5 HVR tA T1 bA tb tB ht;obtain⟨y0,y1,y2,y3,y4,y5⟩:=bA2.f6;obtain⟨z0,z1⟩:=bB.f2
     have hcmp:∀w':World,(binOp .neq 44 (.agg #[iV x5,iV x6]) (.agg #[iV x5,iV x6])).run Tryz.prog w'=.ok (.bool false) w':=fun w'=>by
      rw[run_ne_Ratio];simp
     clear bA2 bB;go_wp2;go_roundw
     case rel=>exact⟨j+1,by omega,by go_num,T4⟩
     case measure=>simp[intOf];omega
    ·obtain rfl:j=(knownOf b K).length:=by omega
     have TL:=Lib.hid ht;clear ht hlt;have hC9:=hC3.keep TL.out id;obtain⟨k0,k1,k2,k3,k4,k5⟩:=hC9.f6;have HVL:=Lib.hid (z5q (HV.out _ (T23.out.trans TL.out)) FACTS.out HPL.out (HTT.out _ (T23.out.trans TL.out)) c1 c2 c3 c4 c5 c6);have HM9:=Lib.hid HMS.out
     obtain⟨vx,hvx⟩:∃vx,zyq b (c1,c2,c3,c4,c5,c6)=vx:=⟨_,rfl⟩
     rw[hvx]at HVL HM9;clear hvx hC9;obtain⟨v1,v2⟩:=vx;unfold vlV at HVL;simp only at HVL HM9;have hfl:∀w,(Instr.field 41 (.agg #[iV v1,iV v2]) 1).run Tryz.prog w=.ok (iV v2) w:=fun w=>by kernel_rfl
     by_cases h40:v2=40
     ·have h9:(0:Int)<((missOf b K).length:Int):=by have:=HM9.out h40;omega
      subst h40;clear HM9 HMS;go_wp2_with fail;refine HVL.out.mono ?_;rintro _ wv ⟨rfl,tv⟩;have TV:=((T2.out.trans T23.out).trans TL.out).trans tv;clear HVL;go_wp2_with fail;refine(awake39_any wv (HTA.out _ TV)).mono ?_;rintro _ wz ⟨rfl,tz⟩;go_wp2;(try rw[Exit.noGoto_ret]);go_ret;exact⟨rfl,TV.trans tz⟩
     ·have h9:(v2 !=40)=true:=by simpa using h40
      clear HM9 HMS h40;go_wp2_with fail;refine HVL.out.mono ?_;rintro _ wv ⟨rfl,tv⟩;have TV:=((T2.out.trans T23.out).trans TL.out).trans tv;clear HVL;go_wp2_with fail;refine(awake39_any wv (HTA.out _ TV)).mono ?_;rintro _ wz ⟨rfl,tz⟩;go_wp2;(try rw[Exit.noGoto_ret]);go_ret;exact⟨rfl,TV.trans tz⟩
theorem feedmisses_row {w:World} {u v:Value} (hT:Tab64 0 w) (hu:∃b,BooksIs (fun _=>True) w u b∧Bks64 b) (hv:∃c:Rt6,v=zcq c∧(I64 c.1∧I64 c.2.1∧I64 c.2.2.1∧I64 c.2.2.2.1∧I64 c.2.2.2.2.1∧I64 c.2.2.2.2.2)):
 Calls Tryz.prog 10 #[u,v] w fun x w'=>x=.returned (.bool true)∧Tf w w':=by
 obtain⟨b,hb,h64⟩:=hu;obtain⟨⟨c1,c2,c3,c4,c5,c6⟩,rfl,_⟩:=hv;obtain⟨e,a,s,r,l,n,us,rfl,h⟩:=hb.at;exact feedmisses_any h h64 hT c1 c2 c3 c4 c5 c6
