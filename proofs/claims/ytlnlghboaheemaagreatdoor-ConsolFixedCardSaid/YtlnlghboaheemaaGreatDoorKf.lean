/-
  ConsolFixed: the walk. (Printed by gen_kf.py.)
-/
import Derived.Test.YtlnlghboaheemaaGreatDoorZ85
set_option maxRecDepth 100000
set_option maxHeartbeats 25600000
namespace Go.Gk.V38
open Go.RowKit Go.Gk.V32 Go.Gk.V33 Go.Gk.V37
theorem z5w {b:Bks} (hok:zba b=true) {c:Rt6} (h:za3 c b.ents.length b.accs.length=0) {L:List Rt6} {er:Int} (hn:NeedsAns b [c] 400 L er):
 (er≠0→er=3)∧(er=0→c∈L∧L.length≤400∧∀k∈L,za3 k b.ents.length b.accs.length=0):=by
 have hb:z3p b [c]=0:=by
  unfold z3p;rw[if_neg (by simpa using h)];rfl
 rcases hn.ans (by omega) hb with⟨_,rfl,_⟩|⟨rfl,hl,S,h1,rfl,h3⟩
 ·exact⟨fun _=>rfl,fun h9=>by omega⟩
 ·refine⟨fun h9=>absurd rfl h9,fun _=>⟨(zzc S).mem_iff.2 ((h3 c).2 (.base (List.mem_singleton.2 rfl))),by omega,fun k hk=>?_⟩⟩;exact need_in hok (l:=[c]) (fun x hx=>by rw[List.mem_singleton]at hx;exact hx▸h) ((h3 k).1 ((zzc S).mem_iff.1 hk))
end Go.Gk.V38
namespace Go.Proofs.YtlnlghboaheemaaGreatDoor
open Go.RowKit Go.Gk Go.Gk.V32 Go.Gk.V33 Go.Gk.V37 Go.Gk.V38
theorem z5z {w:World} {u:Value} {l:List Rt6} (hk:zae za2 6 (fun _=>True) w u l) (hn:l.length≤100000) (c1 c2 c3 c4 c5 c6:Int) (hm:((c1,c2,c3,c4,c5,c6):Rt6)∈l):
 Calls Tryz.prog 16 #[u,.agg #[.int .i64 c1,.int .i64 c2,.int .i64 c3,.int .i64 c4,.int .i64 c5,.int .i64 c6]] w fun x w'=>x=.returned (.bool true)∧Tf w w':=by
 have tA:=tal w (.cells #[.int .i64 c1,.int .i64 c2,.int .i64 c3,.int .i64 c4,.int .i64 c5,.int .i64 c6] 31);have bA:=Blk.new w 31 #[.int .i64 c1,.int .i64 c2,.int .i64 c3,.int .i64 c4,.int .i64 c5,.int .i64 c6];have hk0:=hk.keep tA;have HM:=Lib.hid hm;obtain⟨A,c,rfl,hc1,hc2⟩:=hk.form;clear hk hm;go_enter Tryz.func16,Tryz.ntmps16;go_wp2_with fail;generalize w.alloc _=W at *;generalize w.heap.size=z at *;go_loopw [5] (fun i wr=>∃j:Nat,j≤l.length∧i=.int .i64 j∧((c1,c2,c3,c4,c5,c6):Rt6)∉l.take j∧Tf W wr) (fun i _=>l.length-(intOf i).toNat)
 case atStart=>exact⟨0,Nat.zero_le _,rfl,by simp,Tch.refl _ _⟩
 case round=>
  obtain⟨j,hj,rfl,hno,ht⟩:=hrel;have HNO:=Lib.hid hno;clear hno;by_cases hlt:j<l.length
  ·have hlt':(j:Int)<(l.length:Int):=by omega
   have hj0:=znn j;obtain⟨g,o,rfl⟩:=hk0.head (by omega);obtain⟨q0,q1,q2,q3,q4,q5⟩:=Row.six (hk0.keep ht) (fun _=>rfl) hlt rfl;obtain⟨r0,r1,r2,r3,r4,r5⟩:=(bA.keep ht id).f6;have HTK:=Lib.hid (show l.take (j+1)=l.take j++[l[j]]from List.take_succ_eq_append_getElem hlt);clear hk0;generalize l[j]=x at *;obtain⟨x1,x2,x3,x4,x5,x6⟩:=x;simp only at q0 q1 q2 q3 q4 q5;have tt:=tA.trans ht;by_cases hx:((x1,x2,x3,x4,x5,x6):Rt6)=(c1,c2,c3,c4,c5,c6)
   ·have hcmp:∀w':World,(binOp .eql 31 (.agg #[.int .i64 x1,.int .i64 x2,.int .i64 x3,.int .i64 x4,.int .i64 x5,.int .i64 x6]) (.agg #[.int .i64 c1,.int .i64 c2,.int .i64 c3,.int .i64 c4,.int .i64 c5,.int .i64 c6])).run Tryz.prog w'=.ok (.bool true) w':=fun w'=>by
     simp only[Prod.mk.injEq]at hx;obtain⟨rfl,rfl,rfl,rfl,rfl,rfl⟩:=hx;rw[zh7];simp
    clear hx;go_wp2_with fail;go_quiet (fail)
    rename_i nq
    have t4:Tf wr (wr.drewN nq):=Tch.drewN _ _ _;have tt:=tt.trans t4;clear q0 q1 q2 q3 q4 q5 r0 r1 r2 r3 r4 r5;generalize wr.drewN nq=w4 at *;go_wp2;(try simp only[Exit.inBlock,Exit.then]);(try rw[Exit.noGoto_ret]);go_ret;exact⟨rfl,tt⟩
   ·have HX:=Lib.hid (show((c1,c2,c3,c4,c5,c6):Rt6)∉l.take (j+1)from by
     rw[HTK.out];intro h9;rcases List.mem_append.1 h9 with h9|h9
     ·exact HNO.out h9
     ·rw[List.mem_singleton]at h9;exact hx h9.symm)
    have hcmp:∀w':World,(binOp .eql 31 (.agg #[.int .i64 x1,.int .i64 x2,.int .i64 x3,.int .i64 x4,.int .i64 x5,.int .i64 x6]) (.agg #[.int .i64 c1,.int .i64 c2,.int .i64 c3,.int .i64 c4,.int .i64 c5,.int .i64 c6])).run Tryz.prog w'=.ok (.bool false) w':=fun w'=>by
     rw[zh7];congr 2;refine Bool.eq_false_iff.2 fun h9=>hx ?_
     simp only[Bool.and_eq_true,beq_iff_eq]at h9;simp only[h9]
    clear hx;go_wp2_with fail;go_quiet (fail)
    rename_i nq
    have t4:Tf wr (wr.drewN nq):=Tch.drewN _ _ _;have ht:=ht.trans t4;clear q0 q1 q2 q3 q4 q5 r0 r1 r2 r3 r4 r5;generalize wr.drewN nq=w4 at *;go_wp2;go_roundw
    case rel=>exact⟨j+1,by omega,by go_num,HX.out,ht⟩
    case measure=>simp[intOf];omega
  ·obtain rfl:j=l.length:=by omega
   have h9:=HNO.out;rw[List.take_length]at h9;exact absurd HM.out h9
theorem z5r {w:World} {e a s r l n:Value} {b:Bks} {us:List (Ent×Value)} (h:BksAt w e a s r l n b us) (h64:Bks64 b) (hT:Tab64 3 w) (c1 c2 c3 c4 c5 c6:Int):
 Calls Tryz.prog 3 #[.agg #[e,a,s,r,l,n],.agg #[.int .i64 c1,.int .i64 c2,.int .i64 c3,.int .i64 c4,.int .i64 c5,.int .i64 c6]] w fun x w'=>x=.returned (.bool true)∧Tf w w':=by
 have HTA:=Lib.hid (fun w' (t9:Tf w w')=>hT.keep t9);clear hT;obtain⟨W,hW,tw,hbB,hbC⟩:=al2 w #[e,a,s,r,l,n] #[.int .i64 c1,.int .i64 c2,.int .i64 c3,.int .i64 c4,.int .i64 c5,.int .i64 c6] 29 31;have HF:=Lib.hid (z2e (h.keep tw) c1 c2 c3 c4 c5 c6);have HW:=Lib.hid (h.keep tw);obtain⟨Ae,ce,rfl,_,_⟩:=h.ents.form;obtain⟨Aa,ca,rfl,_,_⟩:=h.accs.form;obtain⟨As,cs,rfl,_,_⟩:=h.stakes.form;obtain⟨Ar,cr,rfl,_,_⟩:=h.rates.form;obtain⟨Al,cl,rfl,_,_⟩:=h.locks.form;obtain⟨An,cn,rfl,_,_⟩:=h.ent.row.form;clear h;obtain⟨g0,g1,g2,g3,g4,g5⟩:=hbB.f6;obtain⟨k0,k1,k2,k3,k4,k5⟩:=hbC.f6;go_enter Tryz.func3,Tryz.ntmps3;go_wp2_with fail;generalize hzw:w.heap.size=z at *;clear hzw;refine HF.out.mono ?_;rintro _ w1 ⟨fw,rfl,hfw,t1⟩;clear HF k0 k1 k2 k3 k4 k5 g0 g1 g2 g3 g4 g5 hW;have tt1:=tw.trans t1
 cases fw
 ·clear hfw;go_wp2_with fail;refine(zy0 w1 (HTA.out w1 tt1)).mono ?_;rintro _ w2 ⟨rfl,t2⟩;go_wp2;go_ret;exact⟨rfl,tt1.trans t2⟩
 have hfew:=zwv (hfw rfl);have hB1:=hbB.keep t1 id;have hC1:=hbC.keep t1 id;have h1:=HW.out.keep t1;clear hbB hbC HW tw t1 hfw;obtain⟨g0,g1,g2,g3,g4,g5⟩:=hB1.f6;go_wp2_with fail;refine(zwu h1 hfew h64).mono ?_;rintro _ w2 ⟨hsee,t2⟩;have tt2:=tt1.trans t2
 rcases hsee with⟨_,m,rfl,hm⟩|⟨hok,bv,bi,B,t,mr,mp,e',a',s',r',l',n',lv,fs,us',rfl,hV⟩
 ·have hm2:(m !=0)=true:=by simpa using hm
  clear g0 g1 g2 g3 g4 g5 hm;go_wp2_with fail;refine(zy0 w2 (HTA.out w2 tt2)).mono ?_;rintro _ w3 ⟨rfl,t3⟩;go_wp2;go_ret;exact⟨rfl,tt2.trans t3⟩
 have hC2:=hC1.keep t2 id;clear g0 g1 g2 g3 g4 g5 hB1 hC1 h1 tt1 t2;have hpl:=z34 hfew;have FACTS:=Lib.hid (show RuleFacts b from⟨zvc hfew,zxs hfew,ztj h64,by have:=hfew.rates;omega,(zec hok).1,by have:=hfew.accs;omega,hok⟩);have HOK:=Lib.hid hok;have HPL:=Lib.hid hpl;have HV:=Lib.hid (fun w' (t9:Tf w2 w')=>hV.keep t9);have HTT:=Lib.hid (fun w' (t9:Tf w2 w')=>HTA.out w' (tt2.trans t9));have T2:=Lib.hid tt2;clear hfew h64 hok hpl hV HTA tt2;obtain⟨q0,q1,q2,q3,q4,q5⟩:=hC2.f6;have HREC:=Lib.hid (zga (HV.out w2 (Tch.refl _ _)) FACTS.out (HTT.out w2 (Tch.refl _ _)) c1 c2 c3 c4 c5 c6);have HRE:=Lib.hid (zz8 (b:=b) (c:=(c1,c2,c3,c4,c5,c6)));have HVI:=Lib.hid (z4z HOK.out (c:=(c1,c2,c3,c4,c5,c6)));have HRL:=Lib.hid (z1l FACTS.out.hok HPL.out (c1,c2,c3,c4,c5,c6));have HRS:=Lib.hid (z1a FACTS.out.hok (c1,c2,c3,c4,c5,c6)).2.1;have HVE:=Lib.hid (z4y (b:=b) (c:=(c1,c2,c3,c4,c5,c6)));go_wp2_with fail;refine HREC.out.mono ?_;rintro _ w3 ⟨v1,rfl,hr1,t3⟩;clear HREC q0 q1 q2 q3 q4 q5
 obtain⟨RQ,hRQ⟩:∃q,zfg b (c1,c2,c3,c4,c5,c6)=q:=⟨_,rfl⟩
 rw[hRQ]at hr1 HRE HVI HRL HRS⊢;obtain⟨R,er⟩:=RQ;simp only at hr1 HRE HVI HRL HRS⊢;clear hRQ;have HRI:=Lib.hid (fun w' (t9:Tf w3 w')=>hr1.keep t9)
 obtain⟨RR,hRR⟩:∃RR,R=RR:=⟨_,rfl⟩
 have HRR:=Lib.hid hRR;rw[hRR]at HRI HVI HRL HRS;obtain⟨⟨b1,b2⟩,pl,mi,⟨s1,s2,s3,s4,s5,s6⟩,rd,⟨r1,r2⟩,hs⟩:=R;obtain⟨p1,m1,rfl,hp1,hm1⟩:=hr1;obtain⟨P1,k1,rfl,_,_⟩:=hp1.form;obtain⟨M1,d1,rfl,_,_⟩:=hm1.form;unfold z4g at HRI⊢;simp only at HRI⊢;have tR:=tal w3 (.cells #[.int .i64 b1,.int .i64 b2,.slice P1 pl.length k1,.slice M1 mi.length d1,.int .i64 s1,.int .i64 s2,.int .i64 s3,.int .i64 s4,.int .i64 s5,.int .i64 s6,.bool rd,.int .i64 r1,.int .i64 r2,.bool hs] 46);have hC3:=(hC2.keep t3 id).keep tR id;have T3:=t3.trans tR;obtain⟨q0,q1,q2,q3,q4,q5⟩:=hC3.f6;by_cases her:er=0
 rotate_left
 ·have hx:(er !=0)=true:=by simpa using her
  have hvc:zyq b (c1,c2,c3,c4,c5,c6)=(0,er):=by rw[HVE.out (by rw[←HRE.out];exact her),←HRE.out]
  have HVL:=Lib.hid (z5q (HV.out _ T3) FACTS.out HPL.out (HTT.out _ T3) c1 c2 c3 c4 c5 c6);rw[hvc]at HVL;unfold vlV at HVL;simp only at HVL;have hcmp:∀w':World,(binOp .eql 39 (.agg #[.int .i64 0,.int .i64 er]) (.agg #[.int .i64 0,.int .i64 er])).run Tryz.prog w'=.ok (.bool true) w':=fun w'=>by rw[zt8];simp
  clear her hvc HVI HRL HRS HVE HRE HRI hRR HRR hp1 hm1 tR hC2 hC3 t3;go_wp2_with fail;generalize w3.alloc _=W3 at *;refine HVL.out.mono ?_;rintro _ w4 ⟨rfl,t4⟩;clear HVL q0 q1 q2 q3 q4 q5;have T4:=T3.trans t4;go_wp2_with fail;refine(zy0 w4 (HTT.out w4 T4)).mono ?_;rintro _ w5 ⟨rfl,t5⟩;go_wp2;(try simp only[Exit.inBlock,Exit.then]);(try rw[Exit.noGoto_ret]);go_ret;exact⟨rfl,(T2.out.trans T4).trans t5⟩
 subst her;have hci:za3 (c1,c2,c3,c4,c5,c6) b.ents.length b.accs.length=0:=HRE.out.symm;have HVX:=Lib.hid (HVI.out hci);obtain⟨W3,hW3,tG,bR,bL⟩:=al2 w3 #[.int .i64 b1,.int .i64 b2,.slice P1 pl.length k1,.slice M1 mi.length d1,.int .i64 s1,.int .i64 s2,.int .i64 s3,.int .i64 s4,.int .i64 s5,.int .i64 s6,.bool rd,.int .i64 r1,.int .i64 r2,.bool hs] #[.int .i64 c1,.int .i64 c2,.int .i64 c3,.int .i64 c4,.int .i64 c5,.int .i64 c6] 46 31;have T4:=t3.trans tG;have hr:zae za2 6 (fun _=>True) W3 (.slice (some ⟨w3.heap.size+1,0,none⟩) 1 1) [(c1,c2,c3,c4,c5,c6)]:=Row.own (z0z (base:=0) (size:=6) (n:=1) bL (Nat.zero_le _) rfl (by decide)) (fun _ _=>trivial);have HN:=Lib.hid (zz3 (HV.out W3 T4) FACTS.out HPL.out (HTT.out W3 T4) hr (by simp) 400);have HFN:=Lib.hid (fun L er=>@z5w b HOK.out _ hci L er);have hC4:=hC2.keep T4 id;clear HVI HVE HRE hRR HRR hp1 hm1 tR hC2 hC3 T3 bL hr hci;go_wp2_with fail;refine HN.out.mono ?_;rintro _ w5 ⟨L,u,er,rfl,hO,hA⟩;clear HN q0 q1 q2 q3 q4 q5;obtain⟨A2,k2,rfl,_,_⟩:=hO.form;have hfn:=HFN.out L er hA;have T5:=T4.trans hO.tch;have bR5:=bR.keep hO.tch id;have hC5:=hC4.keep hO.tch id;have t35:=tG.trans hO.tch;have HRI5:=Lib.hid (fun w' (t9:Tf w5 w')=>HRI.out w' (t35.trans t9));clear HFN hW3 hA bR hC4 T4 HRI t35;by_cases her:er=0
 rotate_left
 ·obtain rfl:=hfn.1 her;clear her hfn hO bR5 hC5 HRI5 HVX;go_wp2_with fail;refine(zy0 w5 (HTT.out w5 T5)).mono ?_;rintro _ w6 ⟨rfl,t6⟩;go_wp2;(try simp only[Exit.inBlock,Exit.then]);(try rw[Exit.noGoto_ret]);go_ret;exact⟨rfl,(T2.out.trans T5).trans t6⟩
 subst her;obtain⟨hmem,hlen,hin⟩:=hfn.2 rfl;have HMEM:=Lib.hid hmem;have HIN:=Lib.hid hin;have HROW:=Lib.hid (fun wr (ht:Tf w5 wr)=>hO.row.keep ht);clear hfn hO hmem hin tG t3;go_wp2_with fail;go_loopw [11] (fun i wr=>∃j:Nat,j≤L.length∧i=.int .i64 j∧Tf w5 wr) (fun i _=>L.length-(intOf i).toNat)
 case atStart=>exact⟨0,Nat.zero_le _,rfl,Tch.refl _ _⟩
 case round=>
  obtain⟨j,hj,rfl,ht⟩:=hrel;have hj0:=znn j;have Tr:=T5.trans ht;by_cases hlt:j<L.length
  ·have hlt':(j:Int)<(L.length:Int):=by omega
   have hl9:=HROW.out wr ht;obtain⟨g,o9,rfl⟩:=hl9.head (by omega);obtain⟨q0,q1,q2,q3,q4,q5⟩:=Row.six hl9 zd3 hlt rfl;have HQ:=Lib.hid (fun w' (t9:Tf wr w')=>Row.six (HROW.out w' (ht.trans t9)) zd3 hlt rfl);have hck:=HIN.out _ (List.getElem_mem hlt);generalize L[j]=k at *;obtain⟨e1,e2,e3,e4,e5,e6⟩:=k;simp only at q0 q1 q2 q3 q4 q5 HQ;have HREC:=Lib.hid (zga (HV.out wr Tr) FACTS.out (HTT.out wr Tr) e1 e2 e3 e4 e5 e6);have HRE2:=Lib.hid ((zz8 (b:=b) (c:=(e1,e2,e3,e4,e5,e6))).trans hck);have HVX2:=Lib.hid (z4z HOK.out hck);have HRL2:=Lib.hid (z1l FACTS.out.hok HPL.out (e1,e2,e3,e4,e5,e6));have HRS2:=Lib.hid (z1a FACTS.out.hok (e1,e2,e3,e4,e5,e6)).2.1;clear hck hl9 HVX HRI5 HMEM HRL HRS bR5 hC5;go_wp2_with fail;refine HREC.out.mono ?_;rintro _ wa ⟨v2,rfl,hr2,ta⟩;clear HREC q0 q1 q2 q3 q4 q5
   obtain⟨RQ2,hRQ2⟩:∃q,zfg b (e1,e2,e3,e4,e5,e6)=q:=⟨_,rfl⟩
   rw[hRQ2]at hr2 HRE2 HVX2 HRL2 HRS2⊢;clear hRQ2;obtain⟨R2,er2⟩:=RQ2;simp only at hr2 HRE2 HVX2 HRL2 HRS2⊢;obtain rfl:er2=0:=HRE2.out;have HRI2:=Lib.hid (fun w' (t9:Tf wa w')=>hr2.keep t9)
   obtain⟨RR2,hRR2⟩:∃RR,R2=RR:=⟨_,rfl⟩
   rw[hRR2]at HRI2 HVX2 HRL2 HRS2;clear hRR2 HRE2;obtain⟨⟨yb1,yb2⟩,ql,ni,⟨ys1,ys2,ys3,ys4,ys5,ys6⟩,yrd,⟨yr1,yr2⟩,yhs⟩:=R2;obtain⟨p2,m2,rfl,hp2,hm2⟩:=hr2;obtain⟨P3,k3,rfl,_,_⟩:=hp2.form;obtain⟨M3,d3,rfl,_,_⟩:=hm2.form;unfold z4g at HRI2⊢;simp only at HRI2⊢;have tb:=tal wa (.cells #[.int .i64 yb1,.int .i64 yb2,.slice P3 ql.length k3,.slice M3 ni.length d3,.int .i64 ys1,.int .i64 ys2,.int .i64 ys3,.int .i64 ys4,.int .i64 ys5,.int .i64 ys6,.bool yrd,.int .i64 yr1,.int .i64 yr2,.bool yhs] 46);have bR2:=Blk.new wa 46 #[.int .i64 yb1,.int .i64 yb2,.slice P3 ql.length k3,.slice M3 ni.length d3,.int .i64 ys1,.int .i64 ys2,.int .i64 ys3,.int .i64 ys4,.int .i64 ys5,.int .i64 ys6,.bool yrd,.int .i64 yr1,.int .i64 yr2,.bool yhs];have tab:=ta.trans tb;have Tb:=Tr.trans tab;have htb:=ht.trans tab;obtain⟨y0,y1,y2,y3,y4,y5⟩:=HQ.out _ tab;clear hp2 hm2 HQ tab;go_wp2_with fail;generalize wa.alloc _=wb at *;generalize wa.heap.size=yq at *;have HRD:=Lib.hid (fun w' (t9:Tf wb w')=>zz5 (HRI2.out w' (tb.trans t9)) (show RR2.plus.length+RR2.minus.length≤50000 by have:=HRL2.out;omega))
   have HLN:=Lib.hid (show(zyk RR2).length≤5001 by
    unfold zyk zys;refine Nat.le_trans (zzr _) ?_;rw[List.length_append,List.length_append];have:=HRL2.out
    split<;>simp <;>omega)
   have HVS:=Lib.hid (fun w' (t9:Tf wb w') u (hr:zae za2 6 (fun _=>True) w' u (zyk RR2))=>z0i (HV.out w' (Tb.trans t9)) FACTS.out HPL.out (HTT.out w' (Tb.trans t9)) hr (by have:=HLN.out;omega));have HEV:=Lib.hid (fun w' (t9:Tf wb w') u (hr:zae zzb 2 (fun _=>True) w' u ((zyk RR2).map (zyq b)))=>z5v (HRI2.out w' (tb.trans t9)) hr (fun v hv=>by obtain⟨k9,_,rfl⟩:=List.mem_map.1 hv;exact z40 HOK.out k9) (show zz0 RR2.base from HRS2.out) (show RR2.plus.length+RR2.minus.length≤5000 from HRL2.out) (by rw[List.length_map];have:=HLN.out;omega) (fun _=>z5u _ _ _ _));rw[←HVX2.out]at HEV
   obtain⟨vx,hvx⟩:∃vx,zyq b (e1,e2,e3,e4,e5,e6)=vx:=⟨_,rfl⟩
   rw[hvx]at HEV;have HVW:=Lib.hid (fun w' (t9:Tf wb w')=>z5q (HV.out w' (Tb.trans t9)) FACTS.out HPL.out (HTT.out w' (Tb.trans t9)) e1 e2 e3 e4 e5 e6);rw[hvx]at HVW;obtain⟨x1,x2⟩:=vx;unfold vlV at HEV HVW;simp only at HEV HVW;clear hvx
   obtain⟨LR,hLR⟩:∃LR,zyk RR2=LR:=⟨_,rfl⟩
   rw[hLR]at HRD HVS HEV;clear hLR;obtain⟨G0,G1,G2,G3,G4,G5,G6,G7,G8,G9,G10,G11,G12,G13⟩:=bR2.w14;have Y0:=wc0 y0;have Y1:=wc0 y1;have Y2:=wc0 y2;have Y3:=wc0 y3;have Y4:=wc0 y4;have Y5:=wc0 y5;clear HRI2 HRL2 HRS2 HVX2 ta tb bR2
   obtain⟨V1,hV1⟩:∃V:Value→World→Prop,V=fun u w'=>zae za2 6 (fun _=>True) w' u LR:=⟨_,rfl⟩
   have HV1:=Lib.hid hV1
   obtain⟨V2,hV2⟩:∃V:Value→World→Prop,V=fun u w'=>zae zzb 2 (fun _=>True) w' u (LR.map (zyq b)):=⟨_,rfl⟩
   have HV2:=Lib.hid hV2;clear hV1 hV2;refine zai (fun _=>False) [] 14 [(6,.inr V1),(7,.inr V2),(8,.inl (.agg #[.int .i64 x1,.int .i64 x2]))] [] ?_ ?_
   ·rw[HV1.out,HV2.out];exact⟨fun _ _ _ hr h=>h.keep hr,fun _ _ _ hr h=>h.keep hr,trivial⟩
   intro bef hbef;have hb1:(bef.getD 7 0).testBit 6=true:=by rw[hbef];kernel_rfl
   have hb2:(bef.getD 8 0).testBit 7=true:=by rw[hbef];kernel_rfl
   clear hbef;iterate 6 (refine zbt ?_;(try simp only[zaw]))
   refine zaq (by rfl) (by rfl) (fun wx hr hf=>?_) (fun a1=>?_)
   ·refine zaa (d:=83) rfl (by simp) (fun K hK=>?_);go_step;refine(HRD.out wx ((Tch.drew _ wb).trans hr)).mono ?_;rintro _ wy ⟨u,rfl,hrow,ty⟩;refine hK _ _ ⟨⟨?_,ty⟩,zaf⟩;rw[HV1.out];exact hrow.weak (fun _ _=>trivial)
   simp only[zaw];refine zaq (by rfl) (by rfl) (fun wx hr hf=>?_) (fun a2=>?_)
   ·have hv:=hf (6,fun w'=>V1 a1 w') (by simp) hb1;simp only at hv;rw[HV1.out]at hv;refine zaa (d:=84) rfl (by simp) (fun K hK=>?_);go_step;refine(HVS.out wx ((Tch.drew _ wb).trans hr) a1 hv).mono ?_;rintro _ wy ⟨u,rfl,hrow,ty⟩;refine hK _ _ ⟨⟨?_,ty⟩,zaf⟩;rw[HV2.out];exact hrow.weak (fun _ _=>trivial)
   simp only[zaw];refine zb3 (.agg #[.int .i64 x1,.int .i64 x2]) (by rfl) (by rfl) (fun wx hr hf=>?_) ?_
   ·have hv:=hf (7,fun w'=>V2 a2 w') (by simp) hb2;simp only at hv;rw[HV2.out]at hv;refine zaa (d:=85) rfl (by simp) (fun K hK=>?_);go_step;refine(HEV.out wx ((Tch.drew _ wb).trans hr) a2 hv).mono ?_;rintro _ wy ⟨rfl,ty⟩;exact hK _ _ ⟨⟨rfl,ty⟩,zaf⟩
   simp only[zaw];iterate 5 (refine zbt ?_;(try simp only[zaw]))
   refine za6 ?_;intro we hr _ _;have te:=(Tch.drew _ wb).trans hr;have HVL:=Lib.hid (HVW.out we te);have hcmp:∀w':World,(binOp .neq 39 (.agg #[.int .i64 x1,.int .i64 x2]) (.agg #[.int .i64 x1,.int .i64 x2])).run Tryz.prog w'=.ok (.bool false) w':=fun w'=>by rw[z5y];simp
   have hte:=htb.trans te;clear HRD HVS HEV HVW hr te Y0 Y1 Y2 Y3 Y4 Y5 G0 G1 G2 G3 G4 G5 G6 G7 G8 G9 G10 G11 G12 G13 y0 y1 y2 y3 y4 y5 hb1 hb2;go_wp2_with fail;refine HVL.out.mono ?_;rintro _ wf ⟨rfl,tf⟩;have htf:=hte.trans tf;clear HVL hte tf;go_wp2;go_roundw
   case rel=>exact⟨j+1,by omega,by go_num,htf⟩
   case measure=>simp[intOf]<;>omega
  ·obtain rfl:j=L.length:=by omega
   have hlt':¬(L.length:Int)<(L.length:Int):=by omega
   have bR6:=bR5.keep ht id;have hC6:=hC5.keep ht id;have T6:Tf wr wr:=Tch.refl _ _;have HRI6:=Lib.hid (fun w' (t9:Tf wr w')=>HRI5.out w' (ht.trans t9));have HHA:=Lib.hid (fun w' (t9:Tf wr w')=>z5z (HROW.out w' (ht.trans t9)) (by omega) c1 c2 c3 c4 c5 c6 HMEM.out);have HRD:=Lib.hid (fun w' (t9:Tf wr w')=>zz5 (HRI6.out w' (T6.trans t9)) (show RR.plus.length+RR.minus.length≤50000 by have:=HRL.out;omega))
   have HLN:=Lib.hid (show(zyk RR).length≤5001 by
    unfold zyk zys;refine Nat.le_trans (zzr _) ?_;rw[List.length_append,List.length_append];have:=HRL.out
    split<;>simp <;>omega)
   have HVS:=Lib.hid (fun w' (t9:Tf wr w') u (hr:zae za2 6 (fun _=>True) w' u (zyk RR))=>z0i (HV.out w' (Tr.trans t9)) FACTS.out HPL.out (HTT.out w' (Tr.trans t9)) hr (by have:=HLN.out;omega));have HEV:=Lib.hid (fun w' (t9:Tf wr w') u (hr:zae zzb 2 (fun _=>True) w' u ((zyk RR).map (zyq b)))=>z5v (HRI6.out w' (T6.trans t9)) hr (fun v hv=>by obtain⟨k9,_,rfl⟩:=List.mem_map.1 hv;exact z40 HOK.out k9) (show zz0 RR.base from HRS.out) (show RR.plus.length+RR.minus.length≤5000 from HRL.out) (by rw[List.length_map];have:=HLN.out;omega) (fun _=>z5u _ _ _ _));rw[←HVX.out]at HEV
   obtain⟨vx,hvx⟩:∃vx,zyq b (c1,c2,c3,c4,c5,c6)=vx:=⟨_,rfl⟩
   rw[hvx]at HEV;have HVW:=Lib.hid (fun w' (t9:Tf wr w')=>z5q (HV.out w' (Tr.trans t9)) FACTS.out HPL.out (HTT.out w' (Tr.trans t9)) c1 c2 c3 c4 c5 c6);rw[hvx]at HVW;obtain⟨x1,x2⟩:=vx;unfold vlV at HEV HVW;simp only at HEV HVW;clear hvx
   obtain⟨LR,hLR⟩:∃LR,zyk RR=LR:=⟨_,rfl⟩
   rw[hLR]at HRD HVS HEV;clear hLR;obtain⟨G0,G1,G2,G3,G4,G5,G6,G7,G8,G9,G10,G11,G12,G13⟩:=bR6.w14;obtain⟨Y0,Y1,Y2,Y3,Y4,Y5⟩:=hC6.w6;clear HRI6 HRI5 HRL HRS HVX HROW HIN HMEM bR6 hC6 bR5 hC5 ht;go_wp2_with fail
   obtain⟨V1,hV1⟩:∃V:Value→World→Prop,V=fun u w'=>zae za2 6 (fun _=>True) w' u LR:=⟨_,rfl⟩
   have HV1:=Lib.hid hV1
   obtain⟨V2,hV2⟩:∃V:Value→World→Prop,V=fun u w'=>zae zzb 2 (fun _=>True) w' u (LR.map (zyq b)):=⟨_,rfl⟩
   have HV2:=Lib.hid hV2;clear hV1 hV2;refine zai (fun _=>False) [] 12 [(2,.inl (.bool true)),(7,.inr V1),(8,.inr V2),(9,.inl (.agg #[.int .i64 x1,.int .i64 x2]))] [] ?_ ?_
   ·rw[HV1.out,HV2.out];exact⟨fun _ _ _ hr h=>h.keep hr,fun _ _ _ hr h=>h.keep hr,trivial⟩
   intro bef hbef;have hb1:(bef.getD 8 0).testBit 7=true:=by rw[hbef];kernel_rfl
   have hb2:(bef.getD 9 0).testBit 8=true:=by rw[hbef];kernel_rfl
   clear hbef;iterate 2 (refine zbt ?_;(try simp only[zaw]))
   refine zb3 (.bool true) (by rfl) (by rfl) (fun wx hr hf=>?_) ?_
   ·refine zaa (d:=96) rfl (by simp) (fun K hK=>?_);go_step;refine(HHA.out wx ((Tch.drew _ wr).trans hr)).mono ?_;rintro _ wy ⟨rfl,ty⟩;exact hK _ _ ⟨⟨rfl,ty⟩,zaf⟩
   simp only[zaw];iterate 4 (refine zbt ?_;(try simp only[zaw]))
   refine zaq (by rfl) (by rfl) (fun wx hr hf=>?_) (fun a1=>?_)
   ·refine zaa (d:=101) rfl (by simp) (fun K hK=>?_);go_step;refine(HRD.out wx ((Tch.drew _ wr).trans hr)).mono ?_;rintro _ wy ⟨u,rfl,hrow,ty⟩;refine hK _ _ ⟨⟨?_,ty⟩,zaf⟩;rw[HV1.out];exact hrow.weak (fun _ _=>trivial)
   simp only[zaw];refine zaq (by rfl) (by rfl) (fun wx hr hf=>?_) (fun a2=>?_)
   ·have hv:=hf (7,fun w'=>V1 a1 w') (by simp) hb1;simp only at hv;rw[HV1.out]at hv;refine zaa (d:=102) rfl (by simp) (fun K hK=>?_);go_step;refine(HVS.out wx ((Tch.drew _ wr).trans hr) a1 hv).mono ?_;rintro _ wy ⟨u,rfl,hrow,ty⟩;refine hK _ _ ⟨⟨?_,ty⟩,zaf⟩;rw[HV2.out];exact hrow.weak (fun _ _=>trivial)
   simp only[zaw];refine zb3 (.agg #[.int .i64 x1,.int .i64 x2]) (by rfl) (by rfl) (fun wx hr hf=>?_) ?_
   ·have hv:=hf (8,fun w'=>V2 a2 w') (by simp) hb2;simp only at hv;rw[HV2.out]at hv;refine zaa (d:=103) rfl (by simp) (fun K hK=>?_);go_step;refine(HEV.out wx ((Tch.drew _ wr).trans hr) a2 hv).mono ?_;rintro _ wy ⟨rfl,ty⟩;exact hK _ _ ⟨⟨rfl,ty⟩,zaf⟩
   simp only[zaw];iterate 2 (refine zbt ?_;(try simp only[zaw]))
   refine za6 ?_;intro we hr _ _;have te:=(Tch.drew _ wr).trans hr;have HVL:=Lib.hid (HVW.out we te);have hcmp:∀w':World,(binOp .eql 39 (.agg #[.int .i64 x1,.int .i64 x2]) (.agg #[.int .i64 x1,.int .i64 x2])).run Tryz.prog w'=.ok (.bool true) w':=fun w'=>by rw[zt8];simp
   have hte:=Tr.trans te;clear HRD HVS HEV HVW HHA hr te Y0 Y1 Y2 Y3 Y4 Y5 G0 G1 G2 G3 G4 G5 G6 G7 G8 G9 G10 G11 G12 G13 hb1 hb2;go_wp2_with fail;refine HVL.out.mono ?_;rintro _ wf ⟨rfl,tf⟩;have htf:=hte.trans tf;clear HVL hte tf;go_wp2_with fail;refine(zy0 wf (HTT.out wf htf)).mono ?_;rintro _ wz ⟨rfl,tz⟩;go_wp2;(try rw[Exit.noGoto_ret]);go_ret;exact⟨rfl,(T2.out.trans htf).trans tz⟩
theorem z5s {w:World} {u v:Value} (hT:Tab64 3 w) (hu:∃b,BooksIs (fun _=>True) w u b∧Bks64 b) (hv:∃c:Rt6,v=zcq c∧(I64 c.1∧I64 c.2.1∧I64 c.2.2.1∧I64 c.2.2.2.1∧I64 c.2.2.2.2.1∧I64 c.2.2.2.2.2)):
 Calls Tryz.prog 3 #[u,v] w fun x w'=>x=.returned (.bool true)∧Tf w w':=by
 obtain⟨b,hb,h64⟩:=hu;obtain⟨⟨c1,c2,c3,c4,c5,c6⟩,rfl,_⟩:=hv;obtain⟨e,a,s,r,l,n,us,rfl,h⟩:=hb.at;exact z5r h h64 hT c1 c2 c3 c4 c5 c6
