/-
  The probe of layer 41. (Printed by gen_jg.py.)
-/
import Derived.Test.YtoegobjnjljegaaGreatDoorZ89
set_option maxRecDepth 100000
set_option maxHeartbeats 25600000
namespace Go.Gk.V41
open Go.RowKit Go.Gk.V32 Go.Gk.V33 Go.Gk.V37 Go.Gk.V38
theorem a_btw:z6q zao 1 0=[(2,3)]:=by
 unfold z6q;rw[show((zen zao).flatMap fun a=>(zeb zao 1 a 0).map mm)=List.replicate 2 (2,3) by decide+kernel,List.perm_replicate.1 (z62 _)];rfl
theorem a_gap:z79 zao 1 0 1=[(2,3,(8,0),(-6,0),2,0)]:=by
 unfold z79;rw[if_pos (by decide+kernel),a_btw];decide+kernel
theorem a_facts:z8i zao 1 0 1=[(1,0,0),(2,-2,0),(3,2,0),(4,0,0),(5,0,0)]∧z8n zao 1 0 1=(0,0)∧z80 zao 2 0 1=[(1,(0,0),(0,0),0,0),(2,(0,0),(0,0),0,0),(3,(0,0),(0,0),0,0),(4,(-8,0),(-6,0),-2,0),(5,(8,0),(8,0),0,0)]∧z79 zao 1 0 1=[(2,3,(8,0),(-6,0),2,0)]∧z8i zao 4 0 1=[]∧z8n zao 4 0 1=(0,0)∧z81 zao 2 0 1=[(1,(0,0),(0,0),(0,0),0,0),(2,(0,0),(0,0),(0,0),0,0),(3,(0,0),(0,0),(0,0),0,0),(4,(0,0),(-8,0),(0,0),-8,0),(5,(0,0),(8,0),(0,0),8,0)]∧why zao 1 0 1=0∧why zao 2 0 1=0∧why zao 4 0 1=20:=⟨by decide+kernel,by decide+kernel,by decide+kernel,a_gap,by decide+kernel,by decide+kernel,by decide+kernel,by decide+kernel,by decide+kernel,by decide+kernel⟩
end Go.Gk.V41
namespace Go.Proofs.YtoegobjnjljegaaGreatDoor
open Go.RowKit Go.Gk Go.Gk.V33 Go.Gk.V37 Go.Gk.V38 Go.Gk.V41
theorem z7v (w:World) (hT:Tab64 0 w):
 Calls Tryz.prog 26 #[] w fun x w'=>x=.returned (.bool true)∧Tf w w':=by
 have HTB:=Lib.hid (fun w' (t9:Tf w w')=>hT.keep t9);clear hT;obtain⟨f1,f2,f3,f4,f5,f6,f7,f8,f9,f10⟩:=a_facts;go_enter Tryz.func26,Tryz.ntmps26;go_wp2_with fail;refine(z5p w).mono ?_;rintro _ w1 ⟨e,a,s,r,l,n,us,rfl,hB,t1⟩;go_wp2_with fail;refine(zwu hB z2c zrk).mono ?_;rintro _ w2 ⟨hsee,t2⟩;have tt:=t1.trans t2;clear hB t1 t2
 rcases hsee with⟨h,_⟩|⟨_,bv,bi,B,t,mr,mp,e,a,s,r,l,n,lv,fs,us,rfl,hV⟩
 ·rw[zyz.hok]at h;cases h
 have HTT:=Lib.hid (fun w' (t9:Tf w2 w')=>HTB.out w' (tt.trans t9));have HV:=Lib.hid (fun w' (t9:Tf w2 w')=>hV.keep t9);have T0:=Lib.hid tt;have H1:=Lib.hid (fun w' t9=>z78 (HV.out w' t9) zyz zy3 (HTT.out w' t9) 1 0 1);have H2:=Lib.hid (fun w' t9=>z85 (HV.out w' t9) zyz zy3 (HTT.out w' t9) 2 0 1);have H3:=Lib.hid (fun w' t9=>z8s (HV.out w' t9) zyz zy3 (HTT.out w' t9) (by decide) 1 0 1);have H4:=Lib.hid (fun w' t9=>z78 (HV.out w' t9) zyz zy3 (HTT.out w' t9) 4 0 1);have H5:=Lib.hid (fun w' t9=>z8y (HV.out w' t9) zyz zy3 (HTT.out w' t9) 2 0 1);simp only[f1,f2,f8]at H1;simp only[f3,f9]at H2;simp only[f4,f8]at H3;simp only[f5,f6,f10]at H4;simp only[f7,f9]at H5;unfold vlV at H1 H4;clear tt hV HTB f1 f2 f3 f4 f5 f6 f7 f8 f9 f10 HTT HV;go_wp2_with fail;refine(H1.out w2 (Tch.refl _ _)).mono ?_;rintro _ w3 ⟨v1,rfl,hO1⟩;have t0:=hO1.tch;obtain⟨A1,c1,rfl,_,_⟩:=hO1.form;have HO1:=Lib.hid (fun w' (t9:Tf w3 w')=>hO1.row.keep t9);have tA:=tal w3 (.cells #[iV 0,iV 0] 41);have bA:=Blk.new w3 41 #[iV 0,iV 0];have x3:=tA;have t0:=t0.trans tA;(try simp only[List.length_nil,List.length_cons,Nat.zero_add,Nat.reduceAdd]);clear hO1 H1 tA;go_wp2_with fail;generalize w3.alloc _=W3 at *;generalize w3.heap.size=y1 at *;refine(H2.out W3 t0).mono ?_;rintro _ w4 ⟨v2,rfl,hO2⟩;have t0:=t0.trans hO2.tch;have x3:=x3.trans hO2.tch;have bA:=bA.keep hO2.tch id;obtain⟨A2,c2,rfl,_,_⟩:=hO2.form;have HO2:=Lib.hid (fun w' (t9:Tf w4 w')=>hO2.row.keep t9);have x4:Tf w4 w4:=Tch.refl _ _;(try simp only[List.length_nil,List.length_cons,Nat.zero_add,Nat.reduceAdd]);clear hO2 H2;go_wp2_with fail;refine(H3.out w4 t0).mono ?_;rintro _ w5 ⟨v3,rfl,hO3⟩;have t0:=t0.trans hO3.tch;have x3:=x3.trans hO3.tch;have x4:=x4.trans hO3.tch;have bA:=bA.keep hO3.tch id;obtain⟨A3,c3,rfl,_,_⟩:=hO3.form;have HO3:=Lib.hid (fun w' (t9:Tf w5 w')=>hO3.row.keep t9);have x5:Tf w5 w5:=Tch.refl _ _;(try simp only[List.length_nil,List.length_cons,Nat.zero_add]);clear hO3 H3;go_wp2_with fail;refine(H4.out w5 t0).mono ?_;rintro _ w6 ⟨v4,rfl,hO4⟩;have tB:=tal w6 (.cells #[iV 0,iV 0] 41);have tt:=hO4.tch.trans tB;have t0:=t0.trans tt;have x3:=x3.trans tt;have x4:=x4.trans tt;have x5:=x5.trans tt;have bA:=bA.keep tt id;obtain⟨A4,c4,rfl,_,_⟩:=hO4.form;(try simp only[List.length_nil]);clear hO4 H4 tt tB;go_wp2_with fail;generalize w6.alloc _=W6 at *;generalize w6.heap.size=y6 at *;refine(H5.out W6 t0).mono ?_;rintro _ w7 ⟨v5,rfl,hO5⟩;have t0:=T0.out.trans (t0.trans hO5.tch);have bA:=bA.keep hO5.tch id;have r1:=HO1.out w7 (x3.trans hO5.tch);have r2:=HO2.out w7 (x4.trans hO5.tch);have r3:=HO3.out w7 (x5.trans hO5.tch);obtain⟨A5,c5,rfl,_,_⟩:=hO5.form;have r5:=hO5.row;clear HO1 HO2 HO3 x3 x4 x5 hO5 H5 T0;obtain⟨g1,o1,rfl⟩:=r1.head (by simp);obtain⟨g2,o2,rfl⟩:=r2.head (by simp);obtain⟨g3,o3,rfl⟩:=r3.head (by simp);obtain⟨g5,o5,rfl⟩:=r5.head (by simp);have k0:=Row.elem z8c r1 (i:=1) (by simp) (j:=0) (by decide) rfl;have k1:=Row.elem z8c r1 (i:=1) (by simp) (j:=1) (by decide) rfl;have k2:=Row.elem z8c r1 (i:=1) (by simp) (j:=2) (by decide) rfl;have m0:=Row.elem z71 r2 (i:=3) (by simp) (j:=0) (by decide) rfl;have m1:=Row.elem z71 r2 (i:=3) (by simp) (j:=1) (by decide) rfl;have m2:=Row.elem z71 r2 (i:=3) (by simp) (j:=2) (by decide) rfl;have m3:=Row.elem z71 r2 (i:=3) (by simp) (j:=3) (by decide) rfl;have m4:=Row.elem z71 r2 (i:=3) (by simp) (j:=4) (by decide) rfl;have m5:=Row.elem z71 r2 (i:=3) (by simp) (j:=5) (by decide) rfl;have m6:=Row.elem z71 r2 (i:=3) (by simp) (j:=6) (by decide) rfl;have n0:=Row.elem z7y r3 (i:=0) (by simp) (j:=0) (by decide) rfl;have n1:=Row.elem z7y r3 (i:=0) (by simp) (j:=1) (by decide) rfl;have n2:=Row.elem z7y r3 (i:=0) (by simp) (j:=2) (by decide) rfl;have n3:=Row.elem z7y r3 (i:=0) (by simp) (j:=3) (by decide) rfl;have n4:=Row.elem z7y r3 (i:=0) (by simp) (j:=4) (by decide) rfl;have n5:=Row.elem z7y r3 (i:=0) (by simp) (j:=5) (by decide) rfl;have n6:=Row.elem z7y r3 (i:=0) (by simp) (j:=6) (by decide) rfl;have n7:=Row.elem z7y r3 (i:=0) (by simp) (j:=7) (by decide) rfl;have q0:=Row.elem z7w r5 (i:=4) (by simp) (j:=0) (by decide) rfl;have q1:=Row.elem z7w r5 (i:=4) (by simp) (j:=1) (by decide) rfl;have q2:=Row.elem z7w r5 (i:=4) (by simp) (j:=2) (by decide) rfl;have q3:=Row.elem z7w r5 (i:=4) (by simp) (j:=3) (by decide) rfl;have q4:=Row.elem z7w r5 (i:=4) (by simp) (j:=4) (by decide) rfl;have q5:=Row.elem z7w r5 (i:=4) (by simp) (j:=5) (by decide) rfl;have q6:=Row.elem z7w r5 (i:=4) (by simp) (j:=6) (by decide) rfl;have q7:=Row.elem z7w r5 (i:=4) (by simp) (j:=7) (by decide) rfl;have q8:=Row.elem z7w r5 (i:=4) (by simp) (j:=8) (by decide) rfl;obtain⟨y0,yy⟩:=bA.f2;simp only[Nat.zero_mul,Nat.one_mul,Nat.add_zero,Nat.reduceMul]at k0 k1 k2 m0 m1 m2 m3 m4 m5 m6 n0 n1 n2 n3 n4 n5 n6 n7 q0 q1 q2 q3 q4 q5 q6 q7 q8;clear r1 r2 r3 r5 bA;have e5:∀w',(binOp .eql 104 (.agg #[iV 5,iV 0,iV 0,iV 8,iV 0,iV 0,iV 0,iV 8,iV 0]) (.agg #[iV 5,iV 0,iV 0,iV 8,iV 0,iV 0,iV 0,iV 8,iV 0])).run Tryz.prog w'=.ok (.bool true) w':=fun w'=>by kernel_rfl
 have e0:∀w',(binOp .eql 41 (.agg #[iV 0,iV 0]) (.agg #[iV 0,iV 0])).run Tryz.prog w'=.ok (.bool true) w':=fun w'=>by kernel_rfl
 have e1:∀w',(binOp .eql 74 (.agg #[iV 2,iV (-2),iV 0]) (.agg #[iV 2,iV (-2),iV 0])).run Tryz.prog w'=.ok (.bool true) w':=fun w'=>by kernel_rfl
 have e2:∀w',(binOp .eql 79 (.agg #[iV 4,iV (-8),iV 0,iV (-6),iV 0,iV (-2),iV 0]) (.agg #[iV 4,iV (-8),iV 0,iV (-6),iV 0,iV (-2),iV 0])).run Tryz.prog w'=.ok (.bool true) w':=fun w'=>by kernel_rfl
 have e3:∀w',(binOp .eql 99 (.agg #[iV 2,iV 3,iV 8,iV 0,iV (-6),iV 0,iV 2,iV 0]) (.agg #[iV 2,iV 3,iV 8,iV 0,iV (-6),iV 0,iV 2,iV 0])).run Tryz.prog w'=.ok (.bool true) w':=fun w'=>by kernel_rfl
 (try simp only[List.length_nil,List.length_cons,Nat.zero_add,Nat.reduceAdd]);go_wp2;go_ret;exact⟨rfl,t0⟩
open Go.RowKit Go.Gk
def FewRet (b:Bks) (p:Int) (w:World) (x:Ending) (w':World):Prop:=∃m:Bool,x=.returned (.bool m)∧(m=true→zuj b=true∧b.ents.length≤6∧b.accs.length≤9∧p≤3)∧Tf w w'
theorem z2e {w:World} {e a s r l n:Value} {b:Bks} {us:List (Ent×Value)} (h:BksAt w e a s r l n b us) (c1 c2 c3 c4 c5 c6:Int):
 Calls Tryz.prog 11 #[.agg #[e,a,s,r,l,n],.agg #[iV c1,iV c2,iV c3,iV c4,iV c5,iV c6]] w (FewRet b c4 w):=by
 obtain⟨W,hW,tw,bB,bC⟩:=al2 w #[e,a,s,r,l,n] #[iV c1,iV c2,iV c3,iV c4,iV c5,iV c6] 29 31;have HF:=Lib.hid (zwy (h.keep tw));obtain⟨Ae,ce,rfl,_,_⟩:=h.ents.form;obtain⟨Aa,ca,rfl,_,_⟩:=h.accs.form;obtain⟨As,cs,rfl,_,_⟩:=h.stakes.form;obtain⟨Ar,cr,rfl,_,_⟩:=h.rates.form;obtain⟨Al,cl,rfl,_,_⟩:=h.locks.form;obtain⟨An,cn,rfl,_,_⟩:=h.ent.row.form;obtain⟨g0,g1,g2,g3,g4,g5⟩:=bB.f6;clear h
 obtain⟨m,hm⟩:∃m,zuj b=m:=⟨_,rfl⟩
 rw[hm]at HF;have HM:=Lib.hid hm;clear hm;generalize hn0:b.ents.length=n0 at *;generalize hn1:b.accs.length=n1 at *;have HN0:=Lib.hid hn0;have HN1:=Lib.hid hn1;clear hn0 hn1;generalize us.length=n2 at *;generalize b.stakes.length=n3 at *;generalize b.rates.length=n4 at *;generalize b.locks.length=n5 at *;go_enter Tryz.func11,Tryz.ntmps11;go_wp2_with fail;refine HF.out.mono ?_;rintro _ w1 ⟨rfl,t1⟩;have bB1:=bB.keep t1 id;have bC1:=bC.keep t1 id;have tt:=tw.trans t1;clear HF g0 g1 g2 g3 g4 g5 hW tw t1 bB bC;obtain⟨g0,g1,g2,g3,g4,g5⟩:=bB1.f6;have k3:=bC1.at3;clear bB1 bC1
 cases m
 ·go_wp2;go_ret;exact⟨false,rfl,(fun h=>by cases h),tt⟩
 by_cases h0:(n0:Int)≤6
 rotate_left
 ·go_wp2;go_ret;exact⟨false,rfl,(fun h=>by cases h),tt⟩
 by_cases h1:(n1:Int)≤9
 rotate_left
 ·go_wp2;go_ret;exact⟨false,rfl,(fun h=>by cases h),tt⟩
 by_cases h2:(n2:Int)≤12
 rotate_left
 ·go_wp2;go_ret;exact⟨false,rfl,(fun h=>by cases h),tt⟩
 go_wp2;go_ret;exact⟨_,rfl,fun h9=>⟨HM.out,by rw[HN0.out];omega,by rw[HN1.out];omega,of_decide_eq_true h9⟩,tt⟩
open Go.RowKit Go.Gk Go.Gk.V32 Go.Gk.V33 Go.Gk.V37 Go.Gk.V38 Go.Gk.V41
theorem z8d {w:World} {e a s r l n:Value} {b:Bks} {us:List (Ent×Value)} (h:BksAt w e a s r l n b us) (c1 c2 c3:Int):
 Calls Tryz.prog 25 #[.agg #[e,a,s,r,l,n],.agg #[iV c1,iV c2,iV c3]] w (FewRet b c2 w):=by
 obtain⟨W,hW,tw,bB,bC⟩:=al2 w #[e,a,s,r,l,n] #[iV c1,iV c2,iV c3] 29 67;have HF:=Lib.hid (z2e (h.keep tw) 0 0 0 c2 0 0);obtain⟨Ae,ce,rfl,_,_⟩:=h.ents.form;obtain⟨Aa,ca,rfl,_,_⟩:=h.accs.form;obtain⟨As,cs,rfl,_,_⟩:=h.stakes.form;obtain⟨Ar,cr,rfl,_,_⟩:=h.rates.form;obtain⟨Al,cl,rfl,_,_⟩:=h.locks.form;obtain⟨An,cn,rfl,_,_⟩:=h.ent.row.form;obtain⟨g0,g1,g2,g3,g4,g5⟩:=bB.f6;obtain⟨k0,k1,k2⟩:=bC.f3;clear h bB bC;go_enter Tryz.func25,Tryz.ntmps25;go_wp2_with fail;refine HF.out.mono ?_;rintro _ w1 ⟨m,rfl,hm,t1⟩;have HM:=Lib.hid hm;clear hm HF;go_wp2;go_ret;exact⟨m,rfl,HM.out,tw.trans t1⟩
end Go.Proofs.YtoegobjnjljegaaGreatDoor
namespace Go.Gk.V41
open Go.RowKit Go.Gk.V32 Go.Gk.V33 Go.Gk.V37 Go.Gk.V38
def z9l (s:Int×Vl×Vl×Vl×Vl):Prop:=s.2.1.2=0∧s.2.2.1.2=0∧s.2.2.2.1.2=0∧s.2.2.2.2.2=0
theorem bal_step {b:Bks} (hok:zba b=true) {e a p:Int} (hl:zas b.accs a=true) (hc:za3 (2,e,a,p,0,0) b.ents.length b.accs.length=0) (hz:(zyq b (2,e,a,p,0,0)).2=0):(zyq b (2,e,a,p,0,0)).1=(if 0<p then(zyq b (2,e,a,p-1,0,0)).1 else 0)+(zyq b (1,e,a,p,0,0)).1:=by
 have hr:(zfg b (2,e,a,p,0,0)).1={Rcp.none with plus:=zbo (2,e,a,p,0,0)}:=by
  rw[zzl hc hl];unfold zcz;rw[if_pos (.inr rfl)];unfold zcr;rw[if_pos (zi2 hc hl ⟨show(1:Int)≤2 by decide,show(2:Int)≤2 by decide⟩),if_neg (by simp)]
 have hv:=zz1 hok hc;rw[hr]at hv;rw[hv]at hz⊢;rw[(z0u hz).2.2];unfold zbo Rcp.none;by_cases h0:0<p
 ·simp[h0]
 ·simp[h0]
theorem z9h {b:Bks} {e a p u:Int} (hl:zas b.accs a=true) (hc:za3 (3,e,a,p,u,0) b.ents.length b.accs.length=0):(zfg b (3,e,a,p,u,0)).1=zcp b (3,e,a,p,u,0):=by
 rw[zzl hc hl];unfold zcz;rw[if_neg (by simp),if_pos rfl];unfold zd1;rw[if_pos (zi2 hc hl ⟨show(3:Int)≤3 by decide,show(3:Int)≤3 by decide⟩)]
theorem z9j {b:Bks} (hok:zba b=true) {e a p u:Int} (hl:zas b.accs a=true) (h1:a≠1) (hu:zgg b e=u) (hc:za3 (3,e,a,p,u,0) b.ents.length b.accs.length=0) (hz:(zyq b (3,e,a,p,u,0)).2=0):(zyq b (2,e,a,p,0,0)).2=0∧(zyq b (3,e,a,p,u,0)).1=(zyq b (2,e,a,p,0,0)).1:=by
 have hv:=zz1 hok hc;rw[z9h hl hc]at hv;unfold zcp at hv;simp only at hv;rw[if_neg h1,if_pos hu]at hv;rw[hv]at hz⊢;obtain⟨z1,_,z2⟩:=z0u hz;rw[z2];exact⟨z1 _ (by simp[Rcp.none]),by simp[Rcp.none]⟩
theorem z9m {b:Bks} (hok:zba b=true) {e a p u:Int} (hl:zas b.accs a=true) (h1:a≠1) (hu:zgg b e≠u) (hk:zei b a≠1) (hc:za3 (3,e,a,p,u,0) b.ents.length b.accs.length=0) (hz:(zyq b (3,e,a,p,u,0)).2=0):(zyq b (3,e,a,p,u,0)).1=(z8a b e p u a).1+(z72 b e p u a).1:=by
 have hv:=zz1 hok hc;rw[z9h hl hc]at hv;unfold zcp at hv;simp only at hv;rw[if_neg h1,if_neg hu]at hv;rw[hv]at hz⊢;rw[(z0u hz).2.2];unfold z72 z8a;rw[if_neg h1,if_neg (show¬u=zgg b e from fun h=>hu h.symm)];by_cases h0:0<p
 ·simp[h0,hk,Rcp.none]
 ·simp[h0,hk,Rcp.none]
theorem z9i {b:Bks} {e p u a:Int} (h:z9l (z8t b e p u a)):(z8t b e p u a).2.2.2.1.1=(z8t b e p u a).2.2.2.2.1-((z8t b e p u a).2.1.1+(z8t b e p u a).2.2.1.1):=by
 have h3:=h.2.2.1;unfold z8t at h3⊢;simp only at h3⊢;rw[(z0u h3).2.2];simp
theorem z9n {b:Bks} (hok:zba b=true) {e p u a:Int} (hy:why b e p u=0) (ha:a∈zag b.accs) (h:z9l (z8t b e p u a)) (h1:a≠1) (hk:u=zgg b e∨zei b a≠1):(z8t b e p u a).2.2.2.1.1=0:=by
 have hl:=zy1.1 ha;have hc:=z0e hok (z41 (r:=7) (by omega) hy) hl (r:=3) (by omega);have h0:=zyp.1 hc;rw[z9i h];obtain⟨z1,z2,_,z4⟩:=h;unfold z8t at z1 z2 z4⊢;simp only at z1 z2 z4⊢;by_cases hu:u=zgg b e
 ·have hc2:za3 (2,e,a,p,0,0) b.ents.length b.accs.length=0:=zyp.2 (by omega);obtain⟨y1,y2⟩:=z9j hok hl h1 hu.symm hc z4;rw[y2,bal_step hok hl hc2 y1];have hm:z72 b e p u a=zyq b (1,e,a,p,0,0):=by unfold z72;rw[if_neg h1,if_pos hu]
  rw[hm];by_cases hp:0<p
  ·have hc3:za3 (3,e,a,p-1,u,0) b.ents.length b.accs.length=0:=zyp.2 (by omega);have ho:z8a b e p u a=zyq b (3,e,a,p-1,u,0):=by unfold z8a;rw[if_pos hp]
   rw[ho]at z1⊢;rw[if_pos hp,(z9j hok hl h1 hu.symm hc3 z1).2];omega
  ·have ho:z8a b e p u a=(0,0):=by unfold z8a;rw[if_neg hp]
   rw[ho,if_neg hp];omega
 ·rw[z9m hok hl h1 (fun h=>hu h.symm) (hk.resolve_left hu) hc z4];omega
theorem step_all {b:Bks} (hok:zba b=true) {e p u:Int} (hy:why b e p u=0) (h:∀a∈zag b.accs,z9l (z8t b e p u a)):((zag b.accs).map fun a=>(z8t b e p u a).2.2.2.1.1+(z8t b e p u a).2.2.1.1).sum=0:=by
 have hsp:=z41 (r:=7) (by omega) hy
 have e1:((zag b.accs).map fun a=>(z8t b e p u a).2.2.2.1.1+(z8t b e p u a).2.2.1.1).sum+((zag b.accs).map fun a=>(z8a b e p u a).1).sum=((zag b.accs).map fun a=>(zyq b (3,e,a,p,u,0)).1).sum:=by
  rw[←z7c];congr 1;refine List.map_congr_left fun a ha=>?_
  rw[z9i (h a ha)];unfold z8t;simp only;omega
 rw[z42 hok hsp fun a ha=>(h a ha).2.2.2]at e1
 have e2:((zag b.accs).map fun a=>(z8a b e p u a).1).sum=0:=by
  by_cases hp:0<p
  ·have h9:∀a,z8a b e p u a=zyq b (3,e,a,p-1,u,0):=fun a=>by unfold z8a;rw[if_pos hp]
   simp only[h9];refine z42 hok ⟨hsp.1,by have:=hsp.2.1;omega,hsp.2.2⟩ fun a ha=>?_
   rw[←h9];exact(h a ha).1
  ·have h9:∀a,z8a b e p u a=(0,0):=fun a=>by unfold z8a;rw[if_neg hp]
   simp only[h9];exact z29 fun _ _=>rfl
 omega
end Go.Gk.V41
namespace Go.Proofs.YtoegobjnjljegaaGreatDoor
open Go.RowKit Go.Gk Go.Gk.V32 Go.Gk.V33 Go.Gk.V37 Go.Gk.V38 Go.Gk.V41
theorem BigIs.off {w:World} {u:Value} {x:Int} (h:BigIs (fun _=>True) w u x) {g:Nat} {T:TypeId} {cz:Array Value} (hz:Blk w g T cz) (hcz:∀(i:Nat) (v:Value),cz[i]?=some v→∀k n,v≠Value.int k n):BigIs (fun k=>k≠g) w u x:=by
 obtain⟨dv,rfl,hd⟩:=h;refine⟨dv,rfl,?_⟩;by_cases h0:(dg x.natAbs).length=0
 ·have hd:Row (fun _=>True) w dv (dg x.natAbs).length 1 ((dg x.natAbs).flatMap zq3):=hd;show Row (fun k=>k≠g) w dv (dg x.natAbs).length 1 ((dg x.natAbs).flatMap zq3);rw[h0]at hd⊢;exact Row.none hd
 ·refine Row.apart hd hz fun o h9=>?_
  cases hl:dg x.natAbs with
  |nil=>rw[hl]at h0;exact h0 rfl
  |cons c r=>
   rw[hl]at h9;exact hcz _ _ (h9 0 _ rfl) _ _ rfl
theorem z9f {w:World} {e a s r l n:Value} {b:Bks} {us:List (Ent×Value)} (h:BksAt w e a s r l n b us) (h64:Bks64 b) (hT:Tab64 0 w) (c1 c2 c3:Int):
 Calls Tryz.prog 8 #[.agg #[e,a,s,r,l,n],.agg #[iV c1,iV c2,iV c3]] w fun x w'=>x=.returned (.bool true)∧Tf w w':=by
 have HTA:=Lib.hid (fun w' (t9:Tf w w')=>hT.keep t9);clear hT;obtain⟨W,hW,tw,hbB,hbC⟩:=al2 w #[e,a,s,r,l,n] #[iV c1,iV c2,iV c3] 29 67;have HF:=Lib.hid (z8d (h.keep tw) c1 c2 c3);have HW:=Lib.hid (h.keep tw);obtain⟨Ae,ce,rfl,_,_⟩:=h.ents.form;obtain⟨Aa,ca,rfl,_,_⟩:=h.accs.form;obtain⟨As,cs,rfl,_,_⟩:=h.stakes.form;obtain⟨Ar,cr,rfl,_,_⟩:=h.rates.form;obtain⟨Al,cl,rfl,_,_⟩:=h.locks.form;obtain⟨An,cn,rfl,_,_⟩:=h.ent.row.form;clear h;obtain⟨g0,g1,g2,g3,g4,g5⟩:=hbB.f6;obtain⟨k0,k1,k2⟩:=hbC.f3;go_enter Tryz.func8,Tryz.ntmps8;go_wp2_with fail;generalize w.heap.size=z at *;refine HF.out.mono ?_;rintro _ w1 ⟨fw,rfl,hfw,t1⟩;clear HF k0 k1 k2 g0 g1 g2 g3 g4 g5 hW;have tt1:=tw.trans t1
 cases fw
 ·clear hfw;go_wp2_with fail;refine(z7v w1 (HTA.out w1 tt1)).mono ?_;rintro _ wz ⟨rfl,tz⟩;go_wp2;(try rw[Exit.noGoto_ret]);go_ret;exact⟨rfl,tt1.trans tz⟩
 obtain⟨hf26,hE6,hA9,hP3⟩:=hfw rfl;have hfew:=zwv hf26;have hB1:=hbB.keep t1 id;have hC1:=hbC.keep t1 id;have h1:=HW.out.keep t1;clear hbB hbC HW tw t1 hfw hf26;obtain⟨g0,g1,g2,g3,g4,g5⟩:=hB1.f6;go_wp2_with fail;refine(zwu h1 hfew h64).mono ?_;rintro _ w2 ⟨hsee,t2⟩;have tt2:=tt1.trans t2
 rcases hsee with⟨_,m,rfl,hm⟩|⟨hok,bv,bi,B,t,mr,mp,e',a',s',r',l',n',lv,fs,us',rfl,hV⟩
 ·have hm2:(m !=0)=true:=by simpa using hm
  clear g0 g1 g2 g3 g4 g5 hm;go_wp2_with fail;refine(z7v w2 (HTA.out w2 tt2)).mono ?_;rintro _ wz ⟨rfl,tz⟩;go_wp2;(try rw[Exit.noGoto_ret]);go_ret;exact⟨rfl,tt2.trans tz⟩
 have hC2:=hC1.keep t2 id;clear g0 g1 g2 g3 g4 g5 hB1 hC1 h1 tt1 t2;have hn:=zvc hfew;have hpl:=z34 hfew;have FACTS:=Lib.hid (show RuleFacts b from⟨hn,zxs hfew,ztj h64,by have:=hfew.rates;omega,(zec hok).1,by have:=hfew.accs;omega,hok⟩);have HOK:=Lib.hid hok;have HPL:=Lib.hid hpl;have HL65:=Lib.hid (show(zag b.accs).length≤65 from Nat.le_trans (z3x b.accs) hfew.accs);have HV:=Lib.hid (fun w' (t9:Tf w2 w')=>hV.keep t9);have HTW:=Lib.hid tt2;have HE6:=Lib.hid hE6;have HA9:=Lib.hid hA9;have HP3:=Lib.hid hP3;obtain⟨k0,k1,k2⟩:=hC2.f3;clear hfew h64 hok hpl hE6 hA9 hP3;have HTR:=Lib.hid (z8y hV FACTS.out HPL.out (HTA.out w2 tt2) c1 c2 c3);have HRW:=Lib.hid (show z81 b c1 c2 c3=if why b c1 c2 c3=0 then(zag b.accs).map (z8t b c1 c2 c3)else[]from rfl);have HLW0:=Lib.hid (fun hy h9=>step_all HOK.out (e:=c1) (p:=c2) (u:=c3) hy h9);have HCL0:=Lib.hid (fun(hy:why b c1 c2 c3=0) a (ha:a∈zag b.accs) h h1 hk=>z9n HOK.out hy ha h h1 hk);have HSS:=Lib.hid (fun a h9=>z9i (b:=b) (e:=c1) (p:=c2) (u:=c3) (a:=a) h9);have HLF:=Lib.hid (fun a (ha:a∈zag b.accs)=>zd4 (zy1.1 ha));have HG1:=Lib.hid (fun a=>show(z8t b c1 c2 c3 a).1=a∧zz0 (z8t b c1 c2 c3 a).2.1∧zz0 (z8t b c1 c2 c3 a).2.2.1∧zz0 (z8t b c1 c2 c3 a).2.2.2.1∧zz0 (z8t b c1 c2 c3 a).2.2.2.2 from⟨rfl,z9o HOK.out _ _ _ _,z9k HOK.out _ _ _ _,z8k _ _,z40 HOK.out _⟩);have HCK:=Lib.hid (fun w' (t9:Tf w2 w')=>hC2.keep t9 id);have HCU:=Lib.hid (fun w' (t9:Tf w2 w')=>zmx (HV.out w' t9) c1);generalize z81 b c1 c2 c3=RR at *;generalize why b c1 c2 c3=y at *;have t0:Tf w2 w2:=Tch.refl _ _;have hz2:=hC2.lt;clear hC2 hV tt2 HL65 HE6 HA9 HP3 HOK FACTS HPL;go_wp2_with fail;refine HTR.out.mono ?_;rintro _ w3 ⟨v,rfl,hO⟩;have t3:=t0.trans hO.tch;obtain⟨A3,k3,rfl,_,_⟩:=hO.form;clear HTR t0 k0 k1 k2;by_cases hy:y=0
 rotate_left
 ·have hyb:(y !=0)=true:=by simpa using hy
  rw[if_neg hy]at HRW;have hrr:=HRW.out;subst hrr;have Tz:=HTW.out.trans t3;clear hy HRW HLW0 HCL0 HSS HLF HG1 HCK HCU hO HV t3;simp only[List.length_nil];go_wp2_with fail;refine(z7v _ (HTA.out _ Tz)).mono ?_;rintro _ wz ⟨rfl,tz⟩;go_wp2;(try rw[Exit.noGoto_ret]);go_ret;exact⟨rfl,Tz.trans tz⟩
 subst hy;rw[if_pos rfl]at HRW;have HLW:=Lib.hid (HLW0.out (by first|rfl|trivial));have HCL:=Lib.hid (HCL0.out (by first|rfl|trivial));clear HLW0 HCL0
 obtain⟨GO,hGO⟩:∃GO:Int→Int×Vl×Vl×Vl×Vl,z8t b c1 c2 c3=GO:=⟨_,rfl⟩
 rw[hGO]at HRW;simp only[hGO]at HLW HCL HSS HG1
 obtain⟨cu,hcu⟩:∃cu,zgg b c1=cu:=⟨_,rfl⟩
 rw[hcu]at HCU;simp only[hcu]at HCL;clear hGO hcu;generalize zag b.accs=L at *;have hrr:=HRW.out;subst hrr;have tB:=tal w3 (.cells #[.bool false,.slice none 0 0] 83);have bS:=Blk.new w3 83 #[.bool false,.slice none 0 0];have hr3:=Row.keepTo (P':=fun g=>g<w3.heap.size) (Row.keepTo (P':=fun g=>g<w3.heap.size) hO.row (Tch.refl (fun _=>False) _) (fun g hg _=>⟨id,hg⟩)) tB (fun g _ hg=>⟨id,hg⟩);have hyz:z+2≤w3.heap.size:=(HCK.out w3 t3).lt;have t4:=t3.trans tB;have HS3:=Lib.hid t3.size;have HM:=Lib.hid (show(L.map GO).length=L.length from List.length_map _);rw[HM.out];clear hO t3 tB HRW;go_wp2_with fail;generalize w3.alloc _=wS at *;generalize w3.heap.size=y at *;have HROW:=Lib.hid (fun wr (ht:Tch (fun g=>g=y) wS wr)=>Row.keepTo (P':=fun _=>True) hr3 ht (fun g _ hg=>⟨fun e=>by have e:g=y:=e;have hg:g<y:=hg;omega,trivial⟩));have HTQ:=Lib.hid (fun wr (ht:Tch (fun g=>g=y) wS wr)=>t4.trans' ht (fun i hi=>.inr (by have hi:i=y:=hi;have:=HS3.out;omega)));have HTW:=Lib.hid (fun wr (ht:Tch (fun g=>g=y) wS wr)=>HTW.out.trans (HTQ.out wr ht));clear hr3 t4;go_loopw [10] (fun i wr=>∃(j:Nat) (S:Int),j≤L.length∧i=.int .i64 j∧(∀q∈L.take j,z9l (GO q))∧S=((L.take j).map fun q=>(GO q).2.2.2.1.1+(GO q).2.2.1.1).sum∧S.natAbs≤j*18446744073709551616∧SumAt2 83 (z+1) y wr S∧Tch (fun g=>g=y) wS wr) (fun i _=>L.length-(intOf i).toNat)
 case atStart=>exact⟨0,0,Nat.zero_le _,rfl,(fun a ha=>by rw[List.take_zero]at ha;cases ha),rfl,by simp,SumAt2.zero bS,Tch.refl _ _⟩
 case round=>
  obtain⟨j,S,hj,rfl,hz,hS,hSb,hSM,ht⟩:=hrel;obtain⟨sg,D,nd,cd,hb,hbig⟩:=hSM;have HZ:=Lib.hid hz;have HS:=Lib.hid hS;have HSB:=Lib.hid hSb;have hj0:=znn j;have Tr:=HTW.out wr ht;clear hz hS hSb;by_cases hlt:j<L.length
  ·have hlt':(j:Int)<(L.length:Int):=by omega
   have hl9:=HROW.out wr ht;have hl9:zae z8h 9 (fun _=>True) wr (.slice A3 (L.map GO).length k3) (L.map GO):=hl9;obtain⟨g,o9,rfl⟩:=hl9.head (by rw[HM.out];omega);have hq:∀k (hk:k<9) v,(z8h (GO L[j]))[k]?=some v→wr.cell? ⟨g,o9+j*9+k,none⟩=some v:=fun k hk v hv=>Row.elem z7w hl9 (i:=j) (by rw[HM.out];omega) hk (by rw[List.getElem_map];exact hv)
   have HTK:=Lib.hid (show L.take (j+1)=L.take j++[L[j]]from List.take_succ_eq_append_getElem hlt);have HME:=Lib.hid (show L[j]∈L from List.getElem_mem _);generalize L[j]=x at *;obtain⟨he,h64o,h64m,h64r,h64v⟩:=HG1.out x;have HSX:=Lib.hid (HSS.out x);have HCX:=Lib.hid (HCL.out x HME.out);obtain⟨k,hk,hxk,hka⟩:=HLF.out x HME.out;have HKD:=Lib.hid (show b.accs[k].2.1=zei b x by unfold zei;rw[hka];rfl);have HAC:=Lib.hid (fun w' (t9:Tf w2 w')=>zdn (HV.out w' t9) hk x hxk);generalize hvx:GO x=vx at *;have HEX:=Lib.hid hvx;obtain⟨x0,⟨o1,o2⟩,⟨m1,m2⟩,⟨r1,r2⟩,⟨v1,v2⟩⟩:=vx;simp only at he h64o h64m h64r h64v HSX HCX;have he:=he.symm;subst he;unfold zz0 I64 at h64o h64m h64r h64v;simp only at h64o h64m h64r h64v;unfold z9l at HSX HCX;simp only at HSX HCX;unfold zfq at HAC;generalize b.accs[k]=ac at *;obtain⟨ai,aj,ap,aq⟩:=ac;simp only at HAC HKD;rw[←HKD.out]at HCX;have q0:=hq 0 (by decide) _ rfl;have q1:=hq 1 (by decide) _ rfl;have q2:=hq 2 (by decide) _ rfl;have q3:=hq 3 (by decide) _ rfl;have q4:=hq 4 (by decide) _ rfl;have q5:=hq 5 (by decide) _ rfl;have q6:=hq 6 (by decide) _ rfl;have q7:=hq 7 (by decide) _ rfl;have q8:=hq 8 (by decide) _ rfl;simp only[Nat.add_zero]at q0;have tG:=tal wr (.cells #[iV x,iV o1,iV o2,iV m1,iV m2,iV r1,iV r2,iV v1,iV v2] 104);have bG:=Blk.new wr 104 #[iV x,iV o1,iV o2,iV m1,iV m2,iV r1,iV r2,iV v1,iV v2];have hbG:=hb.keep tG id;have hbigG:=hbig.beside tG (fun _ _ h=>h.elim);have htG:=ht.trans (Exn.touch tG);have hyw:=hb.lt;obtain⟨n0,n1,n2,n3,n4,n5,n6,n7,n8⟩:=bG.f9;have TrG:=HTW.out _ htG;clear hl9 hq hvx hb hbig ht tG Tr HKD hka hk hxk;by_cases hE1:o2=0
   rotate_left
   ·have hE1b:(o2 !=0)=true:=by simpa using hE1
    clear hE1;go_wp2_with fail;refine(z7v _ (HTA.out _ TrG)).mono ?_;rintro _ wz ⟨rfl,tz⟩;go_wp2;(try rw[Exit.noGoto_ret]);go_ret;exact⟨rfl,TrG.trans tz⟩
   by_cases hE2:m2=0
   rotate_left
   ·have hE2b:(m2 !=0)=true:=by simpa using hE2
    subst hE1;clear hE2;go_wp2_with fail;refine(z7v _ (HTA.out _ TrG)).mono ?_;rintro _ wz ⟨rfl,tz⟩;go_wp2;(try rw[Exit.noGoto_ret]);go_ret;exact⟨rfl,TrG.trans tz⟩
   by_cases hE3:r2=0
   rotate_left
   ·have hE3b:(r2 !=0)=true:=by simpa using hE3
    subst hE1;subst hE2;clear hE3;go_wp2_with fail;refine(z7v _ (HTA.out _ TrG)).mono ?_;rintro _ wz ⟨rfl,tz⟩;go_wp2;(try rw[Exit.noGoto_ret]);go_ret;exact⟨rfl,TrG.trans tz⟩
   by_cases hE4:v2=0
   rotate_left
   ·have hE4b:(v2 !=0)=true:=by simpa using hE4
    subst hE1;subst hE2;subst hE3;clear hE4;go_wp2_with fail;refine(z7v _ (HTA.out _ TrG)).mono ?_;rintro _ wz ⟨rfl,tz⟩;go_wp2;(try rw[Exit.noGoto_ret]);go_ret;exact⟨rfl,TrG.trans tz⟩
   subst hE1;subst hE2;subst hE3;subst hE4;have hsum:o1+(m1+r1)=v1:=by have:=HSX.out ⟨rfl,rfl,rfl,rfl⟩;omega
   have HSU:=Lib.hid hsum;have HCY:=Lib.hid (HCX.out ⟨rfl,rfl,rfl,rfl⟩);have HO1:=Lib.hid (fun wa=>zft (B:=fun _=>True) (w:=wa) (x:=o1) h64o.1 h64o.2 (fun _ _=>trivial));have HO2:=Lib.hid (fun wa=>zft (B:=fun _=>True) (w:=wa) (x:=m1) h64m.1 h64m.2 (fun _ _=>trivial));have HO3:=Lib.hid (fun wa=>zft (B:=fun _=>True) (w:=wa) (x:=r1) h64r.1 h64r.2 (fun _ _=>trivial));have HO4:=Lib.hid (fun wa=>zft (B:=fun _=>True) (w:=wa) (x:=v1) h64v.1 h64v.2 (fun _ _=>trivial));have HF1:=Lib.hid (show(dg o1.natAbs).length≤50000 from z49 (by omega));have HF2:=Lib.hid (show(dg m1.natAbs).length≤50000 from z49 (by omega));have HF3:=Lib.hid (show(dg r1.natAbs).length≤50000 from z49 (by omega));have HF4:=Lib.hid (show(dg v1.natAbs).length≤50000 from z49 (by omega));have HF5:=Lib.hid (show(dg (m1+r1).natAbs).length≤50000 from z49 (by omega));have HF6:=Lib.hid (show(dg (r1+m1).natAbs).length≤50000 from z49 (by omega));have HNB:=Lib.hid (show(S+(r1+m1)).natAbs≤(j+1)*18446744073709551616 by have:=HSB.out;omega);have HR64:=Lib.hid h64r;have HM64:=Lib.hid h64m;clear hsum h64o h64m h64r h64v HSX HCX;go_wp2_with fail;generalize wr.alloc _=W5 at *;generalize wr.heap.size=v at *;have X0:=wc0 n1;have X1:=wc0 n3;have X2:=wc0 n5
   obtain⟨V1,hV1⟩:∃V:Value→World→Prop,V=fun u w'=>BigIs (fun _=>True) w' u (o1):=⟨_,rfl⟩
   have HV1:=Lib.hid hV1;clear hV1
   obtain⟨V2,hV2⟩:∃V:Value→World→Prop,V=fun u w'=>BigIs (fun _=>True) w' u (m1):=⟨_,rfl⟩
   have HV2:=Lib.hid hV2;clear hV2
   obtain⟨V3,hV3⟩:∃V:Value→World→Prop,V=fun u w'=>BigIs (fun _=>True) w' u (r1):=⟨_,rfl⟩
   have HV3:=Lib.hid hV3;clear hV3
   obtain⟨V4,hV4⟩:∃V:Value→World→Prop,V=fun u w'=>BigIs (fun _=>True) w' u (m1+r1):=⟨_,rfl⟩
   have HV4:=Lib.hid hV4;clear hV4
   obtain⟨V5,hV5⟩:∃V:Value→World→Prop,V=fun u w'=>BigIs (fun _=>True) w' u (v1):=⟨_,rfl⟩
   have HV5:=Lib.hid hV5;clear hV5;clear n0 n1 n2 n3 n4 n5 n6 n7 n8 q0 q1 q2 q3 q4 q5 q6 q7 q8;refine zai (fun _=>False) [] 15 [(3,.inr V1),(7,.inr V2),(11,.inr V3),(12,.inr V4),(13,.inr V5),(14,.inr fun u w'=>∃g,W5.heap.size≤g∧u=.pointer (some ⟨g,0,none⟩)∧Blk w' g 83 #[.bool false,.slice none 0 0])] [] ?_ ?_
   ·rw[HV1.out,HV2.out,HV3.out,HV4.out,HV5.out];exact⟨fun _ _ _ hr h=>h.beside hr (fun _ _ h=>h.elim),fun _ _ _ hr h=>h.beside hr (fun _ _ h=>h.elim),fun _ _ _ hr h=>h.beside hr (fun _ _ h=>h.elim),fun _ _ _ hr h=>h.beside hr (fun _ _ h=>h.elim),fun _ _ _ hr h=>h.beside hr (fun _ _ h=>h.elim),fun _ _ _ hr ⟨g,h0,h1,h2⟩=>⟨g,h0,h1,h2.keep hr id⟩,trivial⟩
   intro bef hbef;have hb1:(bef.getD 12 0).testBit 7=true:=by rw[hbef];kernel_rfl
   have hb2:(bef.getD 12 0).testBit 11=true:=by rw[hbef];kernel_rfl
   have hb3:(bef.getD 13 0).testBit 3=true:=by rw[hbef];kernel_rfl
   have hb4:(bef.getD 13 0).testBit 12=true:=by rw[hbef];kernel_rfl
   clear hbef;iterate 3 (refine zbt ?_;(try simp only[zaw]))
   refine zaq (by rfl) (by rfl) (fun wx hr hf=>?_) (fun u88=>?_)
   ·refine zaa (d:=88) rfl (by simp) (fun K hK=>?_);go_step;refine(HO1.out wx).mono ?_;rintro _ wy ⟨u,rfl,hu,ty⟩;refine hK _ _ ⟨⟨?_,ty⟩,zaf⟩;rw[HV1.out];exact hu
   simp only[zaw];iterate 3 (refine zbt ?_;(try simp only[zaw]))
   refine zaq (by rfl) (by rfl) (fun wx hr hf=>?_) (fun u92=>?_)
   ·refine zaa (d:=92) rfl (by simp) (fun K hK=>?_);go_step;refine(HO2.out wx).mono ?_;rintro _ wy ⟨u,rfl,hu,ty⟩;refine hK _ _ ⟨⟨?_,ty⟩,zaf⟩;rw[HV2.out];exact hu
   simp only[zaw];iterate 3 (refine zbt ?_;(try simp only[zaw]))
   refine zaq (by rfl) (by rfl) (fun wx hr hf=>?_) (fun u96=>?_)
   ·refine zaa (d:=96) rfl (by simp) (fun K hK=>?_);go_step;refine(HO3.out wx).mono ?_;rintro _ wy ⟨u,rfl,hu,ty⟩;refine hK _ _ ⟨⟨?_,ty⟩,zaf⟩;rw[HV3.out];exact hu
   simp only[zaw];refine zaq (by rfl) (by rfl) (fun wx hr hf=>?_) (fun u97=>?_)
   ·have e1:=hf (7,fun w'=>V2 u92 w') (by simp) hb1;have e2:=hf (11,fun w'=>V3 u96 w') (by simp) hb2;simp only at e1 e2;rw[HV2.out]at e1;rw[HV3.out]at e2;refine zaa (d:=97) rfl (by simp) (fun K hK=>?_);go_step;refine(zsy (B:=fun _=>True) e1 e2 HF2.out HF3.out (fun _ _=>trivial)).mono ?_;rintro _ wy ⟨u,rfl,hu,ty⟩;refine hK _ _ ⟨⟨?_,ty⟩,zaf⟩;rw[HV4.out];exact hu
   simp only[zaw];refine zaq (by rfl) (by rfl) (fun wx hr hf=>?_) (fun u98=>?_)
   ·have e1:=hf (3,fun w'=>V1 u88 w') (by simp) hb3;have e2:=hf (12,fun w'=>V4 u97 w') (by simp) hb4;simp only at e1 e2;rw[HV1.out]at e1;rw[HV4.out]at e2;refine zaa (d:=98) rfl (by simp) (fun K hK=>?_);go_step;refine(zsy (B:=fun _=>True) e1 e2 HF1.out HF5.out (fun _ _=>trivial)).mono ?_;rintro _ wy ⟨u,rfl,hu,ty⟩;refine hK _ _ ⟨⟨?_,ty⟩,zaf⟩;rw[HV5.out,←HSU.out];exact hu
   simp only[zaw];refine zaq (by rfl) (by rfl) (fun wx hr hf=>?_) (fun u12=>?_)
   ·have hs9:=((Tch.drew (fun _=>False) W5).trans hr).size;refine zaa (d:=12) rfl (by simp) (fun K hK=>?_);go_step;exact hK _ _ ⟨⟨⟨_,hs9,rfl,Blk.new wx _ _⟩,Tch.alloc _ _ _⟩,zaf⟩
   simp only[zaw];refine za6 ?_;intro we hr hp hap;obtain⟨g5,hg5,rfl,hgq⟩:=hp (14,fun w'=>∃g,W5.heap.size≤g∧u12=.pointer (some ⟨g,0,none⟩)∧Blk w' g 83 #[.bool false,.slice none 0 0]) (by simp);have h98:=hp (13,fun w'=>V5 u98 w') (by simp);simp only at h98;rw[HV5.out]at h98;have h98:=h98.off hgq (fun i v hv k n e=>by subst e;match i with |0=>simp at hv|1=>simp at hv|i+2=>simp at hv);obtain⟨sg5,D5,nd5,cd5,rfl⟩:=h98.form2;have te:=(Tch.drew _ W5).trans hr;have bG6:=bG.keep te id;have hb6:=hbG.keep te id;have ht6:=htG.trans (Exn.touch te);have hbig6:=hbigG.keepTo (B':=fun q=>(q≠z+1∧q≠y)∧q<W5.heap.size) te (fun q hq hB=>⟨fun h=>h,hB,hq⟩);have hg5w:=te.size;have hyv:=hbG.lt;have hvv:=bG.lt;have HSZ:=Lib.hid htG.size;clear hap hp hr te hbG htG hbigG bG X0 X1 X2 hb1 hb2 hb3 hb4 HV1 HV2 HV3 HV4 HV5 HO1 TrG;go_wp2_with (refine stK g5 #[.bool sg5,.slice D5 nd5 cd5] hgq ?_);intro wf hgf tf;have hbs:=Lib.hid (h98.beside tf (fun _ hk=>hk));have bG7:=bG6.keep tf (show¬v=g5 by omega);have hb7:=hb6.keep tf (show¬y=g5 by omega);have hbig7:=hbig6.keepTo (B':=fun g=>g≠z+1∧g≠y) tf (fun q _ hB=>⟨fun e=>by have e:q=g5:=e;have:=hB.2;omega,hB.1⟩);have ht7:=ht6.trans' tf (fun i hi=>.inr (by have hi:i=g5:=hi;have:=HSZ.out;omega));obtain⟨n0,n1,n2,n3,n4,n5,n6,n7,n8⟩:=bG7.f9;have HA8:=Lib.hid (HAC.out wf (HTQ.out wf ht7));clear hgq bG6 hb6 ht6 tf hbig6 h98 HAC;go_wp2_with fail;refine HA8.out.mono ?_;rintro _ wg ⟨rfl,tg⟩;have tH:=tal wg (.cells #[iV ai,iV aj,.bool ap,.bool aq] 91);have bH:=Blk.new wg 91 #[iV ai,iV aj,.bool ap,.bool aq];have tgh:=tg.trans tH;have bG8:=bG7.keep tgh id;have hb8:=hb7.keep tgh id;have hgf8:=hgf.keep tgh id;have hbig8:=hbig7.beside tgh (fun _ _ h=>h.elim);have hbs8:=Lib.hid (hbs.out.beside tgh (fun _ _ h=>h.elim));have ht8:=ht7.trans (Exn.touch tgh);clear HA8 n0 n1 n2 n3 n4 n5 n6 n7 n8 bG7 hb7 hgf hbig7 hbs ht7 tg tH tgh;simp only;go_wp2_with fail;generalize wg.alloc _=W8 at *;generalize wg.heap.size=vh at *;obtain⟨n0,n1,n2,n3,n4,n5,n6,n7,n8⟩:=bG8.f9;obtain⟨k0,k1,k2⟩:=(HCK.out W8 (HTQ.out W8 ht8)).f3;have X0:=wc0 n0;have X1:=wc0 k0;have X2:=wc0 k2;clear n0 n1 n2 n3 n4 n5 n6 n7 n8 k0 k1 k2;by_cases hx:x=1
   case' pos=>
    have hxb:(x !=1)=false:=by simp[hx]
    clear hx;refine zai (fun _=>False) [] 10 [(9,.inl (iV cu))] [] ?_ ?_
    ·exact trivial
    intro bef _;iterate 4 (refine zbt ?_;(try simp only[zaw]))
    iterate 6 (refine zm8 (by rfl) ?_;(try simp only[zaw]))
    refine za6 ?_;intro wi hr hp hap;have te:=(Tch.drew _ W8).trans hr;obtain⟨a0,a1,a2,a3⟩:=(bH.keep te id).f4;clear hr hp hap;go_wp2_with fail
   case' neg=>
    have hxb:(x !=1)=true:=by simpa using hx
    refine zai (fun _=>False) [] 10 [(9,.inl (iV cu))] [] ?_ ?_
    ·exact trivial
    intro bef _;iterate 9 (refine zbt ?_;(try simp only[zaw]))
    refine zb3 (iV cu) (by rfl) (by rfl) (fun wx hr hf=>?_) ?_
    ·refine zaa (d:=115) rfl (by simp) (fun K hK=>?_);go_step;refine(HCU.out wx (HTQ.out wx (ht8.trans (Exn.touch ((Tch.drew _ W8).trans hr))))).mono ?_;rintro _ _ ⟨rfl,rfl⟩;exact hK _ _ ⟨⟨rfl,Tch.refl _ _⟩,zaf⟩
    simp only[zaw];by_cases hu:c3=cu
    case' pos=>
     have hub:(c3==cu)=true:=by simpa using hu
     have hr0:(r1 !=0)=false:=by have:=HCY.out hx (.inl hu);simp[this]
     clear hu hx;refine za6 ?_;intro wi hr hp hap;have te:=(Tch.drew _ W8).trans hr;obtain⟨a0,a1,a2,a3⟩:=(bH.keep te id).f4;clear hr hp hap;go_wp2_with fail
    case' neg=>
     have hub:(c3==cu)=false:=by simpa using hu
     by_cases hk:aj=1
     case' pos=>
      have hkb:(aj !=1)=false:=by simp[hk]
      clear hk hu hx;refine za6 ?_;intro wi hr hp hap;have te:=(Tch.drew _ W8).trans hr;obtain⟨a0,a1,a2,a3⟩:=(bH.keep te id).f4;clear hr hp hap;go_wp2_with fail
     case' neg=>
      have hkb:(aj !=1)=true:=by simpa using hk
      have hr0:(r1 !=0)=false:=by have:=HCY.out hx (.inr hk);simp[this]
      clear hk hu hx;refine za6 ?_;intro wi hr hp hap;have te:=(Tch.drew _ W8).trans hr;obtain⟨a0,a1,a2,a3⟩:=(bH.keep te id).f4;clear hr hp hap;go_wp2_with fail
   all_goals
    have bG9:=bG8.keep te id;have hb9:=hb8.keep te id;have hgf9:=hgf8.keep te id;have hbig9:=hbig8.beside te (fun _ _ h=>h.elim);have hbs9:=Lib.hid (hbs8.out.beside te (fun _ _ h=>h.elim));have ht9:=ht8.trans (Exn.touch te);clear te bG8 hb8 hgf8 hbig8 hbs8 ht8 bH a0 a1 a2 a3 X0 X1 X2;obtain⟨n0,n1,n2,n3,n4,n5,n6,n7,n8⟩:=bG9.f9;obtain⟨s0,s1⟩:=hgf9.f2;have X0:=wc0 s0;have X1:=wc0 s1;have X2:=wc0 n7;clear n0 n1 n2 n3 n4 n5 n6 n7 n8 s0 s1;refine zai (fun _=>False) [] 8 [(7,.inr fun u w'=>BigIs (fun _=>True) w' u v1)] [] ?_ ?_
    ·exact⟨fun _ _ _ hr h=>h.beside hr (fun _ _ h=>h.elim),trivial⟩
    intro bef _;iterate 7 (refine zbt ?_;(try simp only[zaw]))
    refine zaq (by rfl) (by rfl) (fun wx hr hf=>?_) (fun u7=>?_)
    ·refine zaa (d:=130) rfl (by simp) (fun K hK=>?_);go_step;refine(HO4.out wx).mono ?_;rintro _ wy ⟨u,rfl,hu,ty⟩;exact hK _ _ ⟨⟨hu,ty⟩,zaf⟩
    simp only[zaw];refine za6 ?_;intro wj hr hp hap;have h7:=hp (7,fun w'=>BigIs (fun _=>True) w' u7 v1) (List.mem_cons_self ..);simp only at h7;have te:=(Tch.drew _ wi).trans hr;have HCM:=Lib.hid (zh0 (hbs9.out.keepTo (B':=fun _=>True) te (fun _ _ _=>⟨fun h=>h,trivial⟩)) h7 HF4.out HF4.out (fun _ _=>trivial));rw[show(if v1<v1 then(-1:Int)else if v1<v1 then 1 else 0)=0 by simp]at HCM;have bG10:=bG9.keep te id;have hb10:=hb9.keep te id;have hbig10:=hbig9.beside te (fun _ _ h=>h.elim);have ht10:=ht9.trans (Exn.touch te);clear hp hap hr te h7 X0 X1 X2 bG9 hb9 hgf9 hbig9 hbs9 ht9;go_wp2_with fail;refine HCM.out.mono ?_;rintro _ wk ⟨rfl,tk⟩;have bG11:=bG10.keep tk id;have hb11:=hb10.keep tk id;have hbig11:=hbig10.beside tk (fun _ _ h=>h.elim);have ht11:=ht10.trans (Exn.touch tk);obtain⟨n0,n1,n2,n3,n4,n5,n6,n7,n8⟩:=bG11.f9;obtain⟨y0,y1⟩:=hb11.f2;have HYL:=Lib.hid hb11.lt;have HFS:=Lib.hid (show(dg S.natAbs).length≤50000 from z49 (Nat.le_trans HSB.out (by omega)));have HB11:=Lib.hid hbig11;clear HCM bG10 hb10 hbig10 ht10 tk hbig11;go_wp2_with fail;have X0:=wc0 y0;have X1:=wc0 y1;have X2:=wc0 n5;have X3:=wc0 n3
    obtain⟨V,hV⟩:∃V:Int→Value→World→Prop,V=fun x u w'=>BigIs (fun g=>g≠z+1∧g≠y) w' u x:=⟨_,rfl⟩
    have HVV:=Lib.hid hV;have HOF:=Lib.hid (fun x wa (h9:wk.heap.size≤wa.heap.size) h1 h2=>zft (B:=fun g=>g≠z+1∧g≠y) (w:=wa) (x:=x) h1 h2 (fun g hg=>by have:=HYL.out;omega));clear hV n0 n1 n2 n3 n4 n5 n6 n7 n8 bG11;refine zai (fun _=>False) [] 10 [(4,.inr (V r1)),(8,.inr (V m1)),(9,.inr (V (r1+m1)))] [] ?_ ?_
    ·rw[HVV.out];exact⟨fun _ _ _ hr h=>h.beside hr (fun _ _ h=>h.elim),fun _ _ _ hr h=>h.beside hr (fun _ _ h=>h.elim),fun _ _ _ hr h=>h.beside hr (fun _ _ h=>h.elim),trivial⟩
    intro bef hbef;have hb1:(bef.getD 9 0).testBit 4=true:=by rw[hbef];kernel_rfl
    have hb2:(bef.getD 9 0).testBit 8=true:=by rw[hbef];kernel_rfl
    clear hbef;iterate 4 (refine zbt ?_;(try simp only[zaw]))
    refine zaq (by rfl) (by rfl) (fun wx hr hf=>?_) (fun u4=>?_)
    ·have hs9:=((Tch.drew (fun _=>False) wk).trans hr).size;refine zaa (d:=147) rfl (by simp) (fun K hK=>?_);go_step;refine(HOF.out r1 wx hs9 HR64.out.1 HR64.out.2).mono ?_;rintro _ wy ⟨u,rfl,hu,ty⟩;refine hK _ _ ⟨⟨?_,ty⟩,zaf⟩;rw[HVV.out];exact hu
    simp only[zaw];iterate 3 (refine zbt ?_;(try simp only[zaw]))
    refine zaq (by rfl) (by rfl) (fun wx hr hf=>?_) (fun u8=>?_)
    ·have hs9:=((Tch.drew (fun _=>False) wk).trans hr).size;refine zaa (d:=151) rfl (by simp) (fun K hK=>?_);go_step;refine(HOF.out m1 wx hs9 HM64.out.1 HM64.out.2).mono ?_;rintro _ wy ⟨u,rfl,hu,ty⟩;refine hK _ _ ⟨⟨?_,ty⟩,zaf⟩;rw[HVV.out];exact hu
    simp only[zaw];refine zaq (by rfl) (by rfl) (fun wx hr hf=>?_) (fun u9=>?_)
    ·have hs9:=((Tch.drew (fun _=>False) wk).trans hr).size;have e1:=hf (4,fun w'=>V r1 u4 w') (by simp) hb1;have e2:=hf (8,fun w'=>V m1 u8 w') (by simp) hb2;simp only at e1 e2;rw[HVV.out]at e1 e2;refine zaa (d:=152) rfl (by simp) (fun K hK=>?_);go_step;refine(zsy (B:=fun g=>g≠z+1∧g≠y) e1 e2 HF3.out HF2.out (fun g hg=>by have:=HYL.out;omega)).mono ?_;rintro _ wy ⟨u,rfl,hu,ty⟩;refine hK _ _ ⟨⟨?_,ty⟩,zaf⟩;rw[HVV.out];exact hu
    simp only[zaw];refine za6 ?_;intro wl hr hp hap;have h9:=hp (9,fun w'=>V (r1+m1) u9 w') (List.mem_cons_self ..);simp only at h9;rw[HVV.out]at h9;have te:=(Tch.drew _ wk).trans hr;have HPL9:=Lib.hid (zsy (HB11.out.beside te (fun _ _ h=>h.elim)) h9 HFS.out HF6.out (fun g hg=>by have:=te.size;have:=HYL.out;omega));have hb12:=hb11.keep te id;have ht12:=ht11.trans (Exn.touch te);clear hap hp hr X0 X1 X2 X3 y0 y1 h9 te hb11 ht11 HB11 hb1 hb2 HOF HVV;go_wp2_with fail;refine HPL9.out.mono ?_;rintro _ wm ⟨v',rfl,hsm,tm⟩;obtain⟨sg2,D2,nd2,cd2,rfl⟩:=hsm.form2;have hb13:=hb12.keep tm id;have ht13:=ht12.trans (Exn.touch tm);have HSM:=Lib.hid hsm;clear HPL9 hb12 ht12 tm hsm;go_wp2_with (refine stK y #[.bool sg2,.slice D2 nd2 cd2] hb13 ?_);intro wh hbF tF;have HSA:=Lib.hid (show SumAt2 83 (z+1) y wh (S+(r1+m1))from⟨sg2,D2,nd2,cd2,hbF,HSM.out.beside tF (fun _ hg=>hg.2)⟩);have htF:=ht13.trans tF;clear hb13 ht13 hbF tF
    have HZN:=Lib.hid (show∀q∈L.take (j+1),z9l (GO q) by
     rw[HTK.out];intro q hq;rcases List.mem_append.1 hq with h|h
     ·exact HZ.out q h
     ·obtain rfl:=List.mem_singleton.1 h;rw[HEX.out]
      exact⟨rfl,rfl,rfl,rfl⟩)
    have HSN:=Lib.hid (show S+(r1+m1)=((L.take (j+1)).map fun q=>(GO q).2.2.2.1.1+(GO q).2.2.1.1).sum by
     rw[HTK.out,List.map_append,List.sum_append,←HS.out]
     simp[HEX.out])
    go_wp2;go_roundw
    case rel=>exact⟨j+1,S+(r1+m1),by omega,by go_num,HZN.out,HSN.out,HNB.out,HSA.out,htF⟩
    case measure=>simp[intOf]<;>omega
  ·obtain rfl:j=L.length:=by omega
   have hlt':¬(L.length:Int)<(L.length:Int):=by omega
   have hz:=HZ.out;have hs:=HS.out;rw[List.take_length]at hz hs;have hs0:=HLW.out hz;rw[hs0]at hs;subst hs;obtain⟨dv,hdv,hd⟩:=hbig;obtain⟨A0,c0,rfl,_,_⟩:=hd.form;injection hdv with hdv;have hd2:sg=false∧D=A0∧nd=(dg (0:Int).natAbs).length∧cd=c0:=by simpa using(show #[Value.bool sg,.slice D nd cd]= #[.bool _,.slice A0 _ c0]from hdv)
   have hn0:nd=0:=by rw[hd2.2.2.1];simp[zcj]
   subst hn0;have y1:=hb.at1;clear hz hs0 hdv hd2 hd hb ht;go_wp2_with fail;refine(z7v wr (HTA.out wr Tr)).mono ?_;rintro _ wz ⟨rfl,tz⟩;go_wp2;(try rw[Exit.noGoto_ret]);go_ret;exact⟨rfl,Tr.trans tz⟩
theorem z9g {w:World} {u v:Value} (hT:Tab64 0 w) (hu:∃b,BooksIs (fun _=>True) w u b∧Bks64 b) (hv:∃c:Int×Int×Int,v=.agg #[iV c.1,iV c.2.1,iV c.2.2]):
 Calls Tryz.prog 8 #[u,v] w fun x w'=>x=.returned (.bool true)∧Tf w w':=by
 obtain⟨b,hb,h64⟩:=hu;obtain⟨⟨c1,c2,c3⟩,rfl⟩:=hv;obtain⟨e,a,s,r,l,n,us,rfl,h⟩:=hb.at;exact z9f h h64 hT c1 c2 c3
