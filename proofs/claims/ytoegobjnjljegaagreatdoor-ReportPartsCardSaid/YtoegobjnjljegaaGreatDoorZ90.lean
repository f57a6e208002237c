/-
  The probe of layer 41. (Printed by gen_jg.py.)
-/
import Derived.Test.YtoegobjnjljegaaGreatDoorZ89
import Derived.Test.YtoegobjnjljegaaGreatDoorZ74
set_option maxRecDepth 100000
set_option maxHeartbeats 25600000
namespace Go.Gk.V41
open Go.RowKit Go.Gk.V32 Go.Gk.V33 Go.Gk.V37 Go.Gk.V38
theorem a_btw:z6q zao 1 0=[(2,3)]:=by
 unfold z6q;rw[show((zen zao).flatMap fun a=>(zeb zao 1 a 0).map mm)=List.replicate 2 (2,3) by decide+kernel,List.perm_replicate.1 (z62 _)];rfl
theorem a_gap:z79 zao 1 0 1=[(2,3,(8,0),(-6,0),2,0)]:=by
 unfold z79;rw[if_pos (by decide+kernel),a_btw];decide+kernel
theorem a_facts:z8i zao 1 0 1=[(1,0,0),(2,-2,0),(3,2,0),(4,0,0),(5,0,0)]∧z8n zao 1 0 1=(0,0)∧z80 zao 2 0 1=[(1,(0,0),(0,0),0,0),(2,(0,0),(0,0),0,0),(3,(0,0),(0,0),0,0),(4,(-8,0),(-6,0),-2,0),(5,(8,0),(8,0),0,0)]∧z79 zao 1 0 1=[(2,3,(8,0),(-6,0),2,0)]∧z8i zao 4 0 1=[]∧z8n zao 4 0 1=(0,0)∧z81 zao 2 0 1=[(1,(0,0),(0,0),(0,0),0,0),(2,(0,0),(0,0),(0,0),0,0),(3,(0,0),(0,0),(0,0),0,0),(4,(0,0),(-8,0),(0,0),-8,0),(5,(0,0),(8,0),(0,0),8,0)]∧why zao 1 0 1=0∧why zao 2 0 1=0∧why zao 4 0 1=20:=⟨by decide+kernel,by decide+kernel,by decide+kernel,a_gap,by decide+kernel,by decide+kernel,by decide+kernel,by decide+kernel,by decide+kernel,by decide+kernel⟩
end Go.Gk.V41
namespace Go.Proofs.YtoegobjnjljegaaGreatDoor
open Go.RowKit Go.Gk Go.Gk.V33 Go.Gk.V37 Go.Gk.V38 Go.Gk.V41
theorem z7v (w:World) (hT:Tab64 0 w):
 Calls Tryz.prog 26 #[] w fun x w'=>x=.returned (.bool true)∧Tf w w':=by
 have HTB:=Lib.hid (fun w' (t9:Tf w w')=>hT.keep t9);clear hT;obtain⟨f1,f2,f3,f4,f5,f6,f7,f8,f9,f10⟩:=a_facts;go_enter Tryz.func26,Tryz.ntmps26;go_wp2_with fail;refine(z5p w).mono ?_;rintro _ w1 ⟨e,a,s,r,l,n,us,rfl,hB,t1⟩;go_wp2_with fail;refine(zwu hB z2c zrk).mono ?_;rintro _ w2 ⟨hsee,t2⟩;have tt:=t1.trans t2;clear hB t1 t2
 rcases hsee with⟨h,_⟩|⟨_,bv,bi,B,t,mr,mp,e,a,s,r,l,n,lv,fs,us,rfl,hV⟩
 ·rw[zyz.hok]at h;cases h
 have HTT:=Lib.hid (fun w' (t9:Tf w2 w')=>HTB.out w' (tt.trans t9));have HV:=Lib.hid (fun w' (t9:Tf w2 w')=>hV.keep t9);have T0:=Lib.hid tt;have H1:=Lib.hid (fun w' t9=>z78 (HV.out w' t9) zyz zy3 (HTT.out w' t9) 1 0 1);have H2:=Lib.hid (fun w' t9=>z85 (HV.out w' t9) zyz zy3 (HTT.out w' t9) 2 0 1);have H3:=Lib.hid (fun w' t9=>z8s (HV.out w' t9) zyz zy3 (HTT.out w' t9) (by decide) 1 0 1);have H4:=Lib.hid (fun w' t9=>z78 (HV.out w' t9) zyz zy3 (HTT.out w' t9) 4 0 1);have H5:=Lib.hid (fun w' t9=>z8y (HV.out w' t9) zyz zy3 (HTT.out w' t9) 2 0 1);simp only[f1,f2,f8]at H1;simp only[f3,f9]at H2;simp only[f4,f8]at H3;simp only[f5,f6,f10]at H4;simp only[f7,f9]at H5;unfold vlV at H1 H4;clear tt hV HTB f1 f2 f3 f4 f5 f6 f7 f8 f9 f10 HTT HV;go_wp2_with fail;refine(H1.out w2 (Tch.refl _ _)).mono ?_;rintro _ w3 ⟨v1,rfl,hO1⟩;have t0:=hO1.tch;obtain⟨A1,c1,rfl,_,_⟩:=hO1.form;have HO1:=Lib.hid (fun w' (t9:Tf w3 w')=>hO1.row.keep t9);have tA:=tal w3 (.cells #[iV 0,iV 0] 41);have bA:=Blk.new w3 41 #[iV 0,iV 0];have x3:=tA;have t0:=t0.trans tA;(try simp only[List.length_nil,List.length_cons,Nat.zero_add,Nat.reduceAdd]);clear hO1 H1 tA;go_wp2_with fail;generalize w3.alloc _=W3 at *;generalize w3.heap.size=y1 at *;refine(H2.out W3 t0).mono ?_;rintro _ w4 ⟨v2,rfl,hO2⟩;have t0:=t0.trans hO2.tch;have x3:=x3.trans hO2.tch;have bA:=bA.keep hO2.tch id;obtain⟨A2,c2,rfl,_,_⟩:=hO2.form;have HO2:=Lib.hid (fun w' (t9:Tf w4 w')=>hO2.row.keep t9);have x4:Tf w4 w4:=Tch.refl _ _;(try simp only[List.length_nil,List.length_cons,Nat.zero_add,Nat.reduceAdd]);clear hO2 H2;go_wp2_with fail;refine(H3.out w4 t0).mono ?_;rintro _ w5 ⟨v3,rfl,hO3⟩;have t0:=t0.trans hO3.tch;have x3:=x3.trans hO3.tch;have x4:=x4.trans hO3.tch;have bA:=bA.keep hO3.tch id;obtain⟨A3,c3,rfl,_,_⟩:=hO3.form;have HO3:=Lib.hid (fun w' (t9:Tf w5 w')=>hO3.row.keep t9);have x5:Tf w5 w5:=Tch.refl _ _;(try simp only[List.length_nil,List.length_cons,Nat.zero_add]);clear hO3 H3;go_wp2_with fail;refine(H4.out w5 t0).mono ?_;rintro _ w6 ⟨v4,rfl,hO4⟩;have tB:=tal w6 (.cells #[iV 0,iV 0] 41);have tt:=hO4.tch.trans tB;have t0:=t0.trans tt;have x3:=x3.trans tt;have x4:=x4.trans tt;have x5:=x5.trans tt;have bA:=bA.keep tt id;obtain⟨A4,c4,rfl,_,_⟩:=hO4.form;(try simp only[List.length_nil]);clear hO4 H4 tt tB;go_wp2_with fail;generalize w6.alloc _=W6 at *;generalize w6.heap.size=y6 at *;refine(H5.out W6 t0).mono ?_;rintro _ w7 ⟨v5,rfl,hO5⟩;have t0:=T0.out.trans (t0.trans hO5.tch);have bA:=bA.keep hO5.tch id;have r1:=HO1.out w7 (x3.trans hO5.tch);have r2:=HO2.out w7 (x4.trans hO5.tch);have r3:=HO3.out w7 (x5.trans hO5.tch);obtain⟨A5,c5,rfl,_,_⟩:=hO5.form;have r5:=hO5.row;clear HO1 HO2 HO3 x3 x4 x5 hO5 H5 T0;obtain⟨g1,o1,rfl⟩:=r1.head (by simp);obtain⟨g2,o2,rfl⟩:=r2.head (by simp);obtain⟨g3,o3,rfl⟩:=r3.head (by simp);obtain⟨g5,o5,rfl⟩:=r5.head (by simp);have k0:=Row.elem z8c r1 (i:=1) (by simp) (j:=0) (by decide) rfl;have k1:=Row.elem z8c r1 (i:=1) (by simp) (j:=1) (by decide) rfl;have k2:=Row.elem z8c r1 (i:=1) (by simp) (j:=2) (by decide) rfl;have m0:=Row.elem z71 r2 (i:=3) (by simp) (j:=0) (by decide) rfl;have m1:=Row.elem z71 r2 (i:=3) (by simp) (j:=1) (by decide) rfl;have m2:=Row.elem z71 r2 (i:=3) (by simp) (j:=2) (by decide) rfl;have m3:=Row.elem z71 r2 (i:=3) (by simp) (j:=3) (by decide) rfl;have m4:=Row.elem z71 r2 (i:=3) (by simp) (j:=4) (by decide) rfl;have m5:=Row.elem z71 r2 (i:=3) (by simp) (j:=5) (by decide) rfl;have m6:=Row.elem z71 r2 (i:=3) (by simp) (j:=6) (by decide) rfl;have n0:=Row.elem z7y r3 (i:=0) (by simp) (j:=0) (by decide) rfl;have n1:=Row.elem z7y r3 (i:=0) (by simp) (j:=1) (by decide) rfl;have n2:=Row.elem z7y r3 (i:=0) (by simp) (j:=2) (by decide) rfl;have n3:=Row.elem z7y r3 (i:=0) (by simp) (j:=3) (by decide) rfl;have n4:=Row.elem z7y r3 (i:=0) (by simp) (j:=4) (by decide) rfl;have n5:=Row.elem z7y r3 (i:=0) (by simp) (j:=5) (by decide) rfl;have n6:=Row.elem z7y r3 (i:=0) (by simp) (j:=6) (by decide) rfl;have n7:=Row.elem z7y r3 (i:=0) (by simp) (j:=7) (by decide) rfl;have q0:=Row.elem z7w r5 (i:=4) (by simp) (j:=0) (by decide) rfl;have q1:=Row.elem z7w r5 (i:=4) (by simp) (j:=1) (by decide) rfl;have q2:=Row.elem z7w r5 (i:=4) (by simp) (j:=2) (by decide) rfl;have q3:=Row.elem z7w r5 (i:=4) (by simp) (j:=3) (by decide) rfl;have q4:=Row.elem z7w r5 (i:=4) (by simp) (j:=4) (by decide) rfl;have q5:=Row.elem z7w r5 (i:=4) (by simp) (j:=5) (by decide) rfl;have q6:=Row.elem z7w r5 (i:=4) (by simp) (j:=6) (by decide) rfl;have q7:=Row.elem z7w r5 (i:=4) (by simp) (j:=7) (by decide) rfl;have q8:=Row.elem z7w r5 (i:=4) (by simp) (j:=8) (by decide) rfl;obtain⟨y0,yy⟩:=bA.f2;simp only[Nat.zero_mul,Nat.one_mul,Nat.add_zero,Nat.reduceMul]at k0 k1 k2 m0 m1 m2 m3 m4 m5 m6 n0 n1 n2 n3 n4 n5 n6 n7 q0 q1 q2 q3 q4 q5 q6 q7 q8;clear r1 r2 r3 r5 bA;have e5:∀w',(binOp .eql 104 (.agg #[iV 5,iV 0,iV 0,iV 8,iV 0,iV 0,iV 0,iV 8,iV 0]) (.agg #[iV 5,iV 0,iV 0,iV 8,iV 0,iV 0,iV 0,iV 8,iV 0])).run Tryz.prog w'=.ok (.bool true) w':=fun w'=>by kernel_rfl
 have e0:∀w',(binOp .eql 41 (.agg #[iV 0,iV 0]) (.agg #[iV 0,iV 0])).run Tryz.prog w'=.ok (.bool true) w':=fun w'=>by kernel_rfl
 have e1:∀w',(binOp .eql 74 (.agg #[iV 2,iV (-2),iV 0]) (.agg #[iV 2,iV (-2),iV 0])).run Tryz.prog w'=.ok (.bool true) w':=fun w'=>by kernel_rfl
 have e2:∀w',(binOp .eql 79 (.agg #[iV 4,iV (-8),iV 0,iV (-6),iV 0,iV (-2),iV 0]) (.agg #[iV 4,iV (-8),iV 0,iV (-6),iV 0,iV (-2),iV 0])).run Tryz.prog w'=.ok (.bool true) w':=fun w'=>by kernel_rfl
 have e3:∀w',(binOp .eql 99 (.agg #[iV 2,iV 3,iV 8,iV 0,iV (-6),iV 0,iV 2,iV 0]) (.agg #[iV 2,iV 3,iV 8,iV 0,iV (-6),iV 0,iV 2,iV 0])).run Tryz.prog w'=.ok (.bool true) w':=fun w'=>by kernel_rfl
 (try simp only[List.length_nil,List.length_cons,Nat.zero_add,Nat.reduceAdd]);go_wp2;go_ret;exact⟨rfl,t0⟩
open Go.RowKit Go.Gk
def FewRet (b:Bks) (p:Int) (w:World) (x:Ending) (w':World):Prop:=∃m:Bool,x=.returned (.bool m)∧(m=true→zuj b=true∧b.ents.length≤6∧b.accs.length≤9∧p≤3)∧Tf w w'
theorem z2e {w:World} {e a s r l n:Value} {b:Bks} {us:List (Ent×Value)} (h:BksAt w e a s r l n b us) (c1 c2 c3 c4 c5 c6:Int):
 Calls Tryz.prog 11 #[.agg #[e,a,s,r,l,n],.agg #[iV c1,iV c2,iV c3,iV c4,iV c5,iV c6]] w (FewRet b c4 w):=by
 obtain⟨W,hW,tw,bB,bC⟩:=al2 w #[e,a,s,r,l,n] #[iV c1,iV c2,iV c3,iV c4,iV c5,iV c6] 29 31;have HF:=Lib.hid (zwy (h.keep tw));obtain⟨Ae,ce,rfl,_,_⟩:=h.ents.form;obtain⟨Aa,ca,rfl,_,_⟩:=h.accs.form;obtain⟨As,cs,rfl,_,_⟩:=h.stakes.form;obtain⟨Ar,cr,rfl,_,_⟩:=h.rates.form;obtain⟨Al,cl,rfl,_,_⟩:=h.locks.form;obtain⟨An,cn,rfl,_,_⟩:=h.ent.row.form;obtain⟨g0,g1,g2,g3,g4,g5⟩:=bB.f6;clear h
 obtain⟨m,hm⟩:∃m,zuj b=m:=⟨_,rfl⟩
 rw[hm]at HF;have HM:=Lib.hid hm;clear hm;generalize hn0:b.ents.length=n0 at *;generalize hn1:b.accs.length=n1 at *;have HN0:=Lib.hid hn0;have HN1:=Lib.hid hn1;clear hn0 hn1;generalize us.length=n2 at *;generalize b.stakes.length=n3 at *;generalize b.rates.length=n4 at *;generalize b.locks.length=n5 at *;go_enter Tryz.func11,Tryz.ntmps11;go_wp2_with fail;refine HF.out.mono ?_;rintro _ w1 ⟨rfl,t1⟩;have bB1:=bB.keep t1 id;have bC1:=bC.keep t1 id;have tt:=tw.trans t1;clear HF g0 g1 g2 g3 g4 g5 hW tw t1 bB bC;obtain⟨g0,g1,g2,g3,g4,g5⟩:=bB1.f6;have k3:=bC1.at3;clear bB1 bC1
 cases m
 ·go_wp2;go_ret;exact⟨false,rfl,(fun h=>by cases h),tt⟩
 by_cases h0:(n0:Int)≤6
 rotate_left
 ·go_wp2;go_ret;exact⟨false,rfl,(fun h=>by cases h),tt⟩
 by_cases h1:(n1:Int)≤9
 rotate_left
 ·go_wp2;go_ret;exact⟨false,rfl,(fun h=>by cases h),tt⟩
 by_cases h2:(n2:Int)≤12
 rotate_left
 ·go_wp2;go_ret;exact⟨false,rfl,(fun h=>by cases h),tt⟩
 go_wp2;go_ret;exact⟨_,rfl,fun h9=>⟨HM.out,by rw[HN0.out];omega,by rw[HN1.out];omega,of_decide_eq_true h9⟩,tt⟩
open Go.RowKit Go.Gk Go.Gk.V32 Go.Gk.V33 Go.Gk.V37 Go.Gk.V38 Go.Gk.V41
theorem z8d {w:World} {e a s r l n:Value} {b:Bks} {us:List (Ent×Value)} (h:BksAt w e a s r l n b us) (c1 c2 c3:Int):
 Calls Tryz.prog 25 #[.agg #[e,a,s,r,l,n],.agg #[iV c1,iV c2,iV c3]] w (FewRet b c2 w):=by
 obtain⟨W,hW,tw,bB,bC⟩:=al2 w #[e,a,s,r,l,n] #[iV c1,iV c2,iV c3] 29 67;have HF:=Lib.hid (z2e (h.keep tw) 0 0 0 c2 0 0);obtain⟨Ae,ce,rfl,_,_⟩:=h.ents.form;obtain⟨Aa,ca,rfl,_,_⟩:=h.accs.form;obtain⟨As,cs,rfl,_,_⟩:=h.stakes.form;obtain⟨Ar,cr,rfl,_,_⟩:=h.rates.form;obtain⟨Al,cl,rfl,_,_⟩:=h.locks.form;obtain⟨An,cn,rfl,_,_⟩:=h.ent.row.form;obtain⟨g0,g1,g2,g3,g4,g5⟩:=bB.f6;obtain⟨k0,k1,k2⟩:=bC.f3;clear h bB bC;go_enter Tryz.func25,Tryz.ntmps25;go_wp2_with fail;refine HF.out.mono ?_;rintro _ w1 ⟨m,rfl,hm,t1⟩;have HM:=Lib.hid hm;clear hm HF;go_wp2;go_ret;exact⟨m,rfl,HM.out,tw.trans t1⟩
end Go.Proofs.YtoegobjnjljegaaGreatDoor
namespace Go.Gk.V41
open Go.RowKit Go.Gk.V32 Go.Gk.V33 Go.Gk.V37 Go.Gk.V38
theorem z9t {b:Bks} {r e a p u:Int} (hr:r=4∨r=5) (hl:zas b.accs a=true) (hc:za3 (r,e,a,p,u,0) b.ents.length b.accs.length=0):(zfg b (r,e,a,p,u,0)).1=zc8 (r,e,a,p,u,0) (zcg b (r,e,a,p,u,0)):=by
 rw[zzl hc hl];unfold zcz;rw[if_neg (show¬(r=1∨r=2) by omega),if_neg (show¬r=3 by omega),if_pos hr];unfold zcc;rw[if_pos (zi2 hc hl ⟨show 4≤r by omega,show r≤5 by omega⟩)]
theorem part_err {b:Bks} (hok:zba b=true) {e p u a:Int} (h:z1m b e p u) (ha:zas b.accs a=true) (hz:(zyq b (7,e,a,p,u,0)).2≠0):(zyq b (5,e,a,p,u,0)).2≠0:=by
 intro h5;have hc:=z0e hok h ha (r:=5) (by omega);have hv:=zz1 hok hc;rw[z9t (.inr rfl) ha hc]at hv;unfold zc8 at hv;rw[if_pos rfl]at hv;rw[hv]at h5;exact hz ((z0u h5).1 _ (by simp[Rcp.none]))
theorem z98 {b:Bks} (hok:zba b=true) {e p u a:Int} (h:z1m b e p u) (ha:zas b.accs a=true) (hz:(zyq b (7,e,a,p,u,0)).2=0):(zyq b (4,e,a,p,u,0)).2=0∧(zyq b (5,e,a,p,u,0)).2=0∧(zyq b (4,e,a,p,u,0)).1+(zyq b (5,e,a,p,u,0)).1=(zyq b (7,e,a,p,u,0)).1:=by
 have hx:=z40 hok (7,e,a,p,u,0)
 obtain⟨x,hx7⟩:∃x,zyq b (7,e,a,p,u,0)=(x,0):=⟨_,Prod.ext rfl hz⟩
 rw[hx7]at hx;have hx:I64 x:=hx;have hs:=z99 (zec hok).2.2 (4,e,a,p,u,0);have hc4:=z0e hok h ha (r:=4) (by omega);have hc5:=z0e hok h ha (r:=5) (by omega)
 have h4:zyq b (4,e,a,p,u,0)=(z9p (zcg b (4,e,a,p,u,0)) x,0):=by
  rw[z4z hok hc4,z9t (.inl rfl) ha hc4,z9q];have:=z90 (e,a,p,u,0) hs.1 hs.2 hx;rw[←this];congr 1;split
  ·rw[List.map_cons,List.map_nil,hx7]
  ·rfl
 have hp:=part_in (x:=x) hs.1 hs.2;generalize z9p (zcg b (4,e,a,p,u,0)) x=q at *
 have hq:I64 (x-q):=by
  unfold I64 at hx⊢;rcases Int.le_total 0 x with h0|h0
  ·have:=hp.1 h0;omega
  ·have:=hp.2 h0;omega
 have h5:zyq b (5,e,a,p,u,0)=(x-q,0):=by
  rw[z4z hok hc5,z9t (.inr rfl) ha hc5,z9r,List.map_cons,List.map_cons,List.map_nil,hx7,h4];exact z95 (e,a,p,u,0) hq
 rw[h4,h5,hx7];exact⟨rfl,rfl,by show q+(x-q)=x;omega⟩
theorem two_ptn {b:Bks} (h:zba b=true):zfh b 2=false:=by
 unfold zba at h;simp only[Bool.and_eq_true]at h;obtain⟨⟨⟨⟨⟨_,h⟩,_⟩,_⟩,_⟩,_⟩:=h;unfold zj2 at h;simp only[Bool.and_eq_true,decide_eq_true_eq]at h;have h3:=h.1.1.2.2;have h4:(b.accs.take 3)[1]?=zef[1]?:=by rw[h3]
 rw[List.getElem?_take]at h4;have h5:b.accs[1]?=some (0,1,false,false):=by simpa[zef]using h4
 unfold zfh;rw[show((2:Int)-1).toNat=1 by decide,h5];rfl
def z94 (b:Bks) (e p u up:Int) (l:List Int):List Vl:=zyq b (3,up,2,p,u,0)::l.flatMap fun a=>(if zfj b a=true then[zyq b (5,e,a,p,u,0)]else[])++(if a=2 then[zyq b (4,e,a,p,u,0)]else[])
theorem net_same {P W:List Vl} (h1:(∀v∈P,v.2=0)↔∀v∈W,v.2=0) (h2:(P.map (·.1)).sum=(W.map (·.1)).sum):zy4 P []=zy4 W []∨((zy4 P []).2≠0∧(zy4 W []).2≠0):=by
 by_cases hz:∀v∈P,v.2=0
 ·left;unfold zy4;rw[List.append_nil,List.append_nil,if_pos (z1y.2 hz),if_pos (z1y.2 (h1.1 hz)),h2]
 ·right;exact⟨fun h=>hz (z0u h).1,fun h=>hz (h1.2 (z0u h).1)⟩
theorem up_law {b:Bks} (hok:zba b=true) {e p u up:Int} (hy:why b e p u=0) (hup:1≤up∧up≤(b.ents.length:Int)) (hk:zgk b up p=[e]):zyq b (7,up,2,p,u,0)=zy4 (z94 b e p u up (zag b.accs)) []∨((zyq b (7,up,2,p,u,0)).2≠0∧(zy4 (z94 b e p u up (zag b.accs)) []).2≠0):=by
 have hsp:=z41 (r:=7) (by omega) hy
 have hs2:z1m b up p u:=⟨hup,hsp.2⟩
 have hl2:=z1n hok (k:=2) (by omega);have hc:=z0e hok hs2 hl2 (r:=7) (by omega);have hc6:=z0e hok hs2 hl2 (r:=6) (by omega)
 have h6:zyq b (6,up,2,p,u,0)=(0,0):=by
  rw[zz1 hok hc6,zzl hc6 hl2];unfold zcz;rw[if_neg (by simp),if_neg (by simp),if_neg (by simp),if_pos rfl];unfold zcf;rw[if_pos (zi2 hc6 hl2 ⟨show(6:Int)≤6 by decide,show(6:Int)≤6 by decide⟩)];unfold zgb ze4;simp only[two_ptn hok];rfl
 have hr:(zfg b (7,up,2,p,u,0)).1={Rcp.none with plus:=zco (7,up,2,p,u,0) (zgk b up p) (zcn b)}:=by
  rw[zzl hc hl2];unfold zcz;rw[if_neg (by simp),if_neg (by simp),if_neg (by simp),if_neg (by simp)];unfold zfz;rw[if_pos (zi2 hc hl2 (show(7:Int)≤7∧(7:Int)≤7 by decide))]
 have hv:=zz1 hok hc;rw[hr,hk]at hv;unfold zco zd0 at hv;simp only[Rcp.none,ofC,if_true,Bool.false_eq_true,if_false,List.append_nil,List.map_nil,List.map_cons,List.map_append,List.flatMap_cons,List.flatMap_nil,List.map_map,h6]at hv;rw[hv];have hm2:(2:Int)∈zag b.accs:=zy1.2 hl2;refine net_same ⟨fun h v hvm=>?_,fun h v hvm=>?_⟩ ?_
 ·rcases List.mem_cons.1 hvm with rfl|hvm
  ·exact h _ (by simp)
  ·obtain⟨a,ha,hvm⟩:=List.mem_flatMap.1 hvm;rcases List.mem_append.1 hvm with hvm|hvm
   ·split at hvm
    ·rename_i hsx
     rw[List.mem_singleton]at hvm;subst hvm;refine h _ ?_;have h9:a∈zcn b:=by unfold zcn;exact List.mem_filter.2 ⟨ha,hsx⟩
     simp only[List.mem_cons,List.mem_append,List.mem_map];exact .inr (.inr (by simp;exact .inr (.inl ⟨a,h9,rfl⟩)))
    ·cases hvm
   ·split at hvm
    ·rename_i hsx
     rw[List.mem_singleton]at hvm;subst hvm;subst hsx;exact h _ (by simp)
    ·cases hvm
 ·have h3:=h _ (List.mem_cons_self ..);have h4:(zyq b (4,e,2,p,u,0)).2=0:=h _ (List.mem_cons_of_mem _ (List.mem_flatMap.2 ⟨2,hm2,List.mem_append_right _ (by simp)⟩))
  have h5:∀a∈zcn b,(zyq b (5,e,a,p,u,0)).2=0:=fun a ha=>by
   obtain⟨h1,h2⟩:=List.mem_filter.1 (show a∈(zag b.accs).filter (zfj b)from ha);exact h _ (List.mem_cons_of_mem _ (List.mem_flatMap.2 ⟨a,h1,List.mem_append_left _ (by simp[h2])⟩))
  simp only[List.mem_cons,List.mem_append,List.mem_map,List.not_mem_nil,or_false]at hvm;rcases hvm with rfl|rfl|rfl|⟨a,ha,rfl⟩|rfl
  ·rfl
  ·exact h3
  ·exact h4
  ·exact h5 a ha
  ·rfl
 ·unfold z94;simp only[List.map_cons,List.map_append,List.sum_cons,List.sum_append,List.map_nil,List.sum_nil,List.map_flatMap,z6w,List.map_map]
  have e1:((zag b.accs).map fun x=>((if zfj b x=true then[zyq b (5,e,x,p,u,0)]else[]).map (·.1)).sum+((if x=2 then[zyq b (4,e,x,p,u,0)]else[]).map (·.1)).sum)=(zag b.accs).map fun x=>(if zfj b x=true then(zyq b (5,e,x,p,u,0)).1 else 0)+(if x=2 then(zyq b (4,e,2,p,u,0)).1 else 0):=List.map_congr_left fun x _=>by
   congr 1
   ·split<;>simp
   ·split
    ·rename_i h9;subst h9;simp
    ·simp
  have e2:((zcn b).map ((fun x:Vl=>x.1)∘zyq b∘fun a=>(5,e,a,p,u,0))).sum=((zag b.accs).map fun x=>if zfj b x=true then(zyq b (5,e,x,p,u,0)).1 else 0).sum:=zzs (zfj b) (fun x=>(zyq b (5,e,x,p,u,0)).1) _;rw[e1,z7c,e2]
  have e3:((zag b.accs).map fun x=>if x=2 then(zyq b (4,e,2,p,u,0)).1 else 0).sum=(zyq b (4,e,2,p,u,0)).1:=by
   refine Eq.trans (congrArg List.sum (List.map_congr_left fun x _=>?_)) (z2s (zyq b (4,e,2,p,u,0)).1 (zzo b.accs) hm2);by_cases h9:x=2
   ·rw[if_pos h9,if_pos h9.symm]
   ·rw[if_neg h9,if_neg (fun h=>h9 h.symm)]
  rw[e3];omega
end Go.Gk.V41
namespace Go.Proofs.YtoegobjnjljegaaGreatDoor
open Go.RowKit Go.Gk Go.Gk.V32 Go.Gk.V33 Go.Gk.V37 Go.Gk.V38 Go.Gk.V41
theorem z9z (r e a p u:Int) (w:World):
 Calls Tryz.prog 36 #[iV r,iV e,iV a,iV p,iV u] w fun x w'=>x=.returned (.agg #[iV r,iV e,iV a,iV p,iV u,iV 0])∧Tf w w':=by
 go_enter Tryz.func36,Tryz.ntmps36;go_wp2;refine zfe (Blk.new w 31 _) ?_;exact⟨rfl,tal _ _⟩
theorem z9v {w:World} {e a s r l n:Value} {b:Bks} {us:List (Ent×Value)} (h:BksAt w e a s r l n b us) (h64:Bks64 b) (hT:Tab64 0 w) (c1 c2 c3:Int):
 Calls Tryz.prog 6 #[.agg #[e,a,s,r,l,n],.agg #[iV c1,iV c2,iV c3]] w fun x w'=>x=.returned (.bool true)∧Tf w w':=by
 have HTA:=Lib.hid (fun w' (t9:Tf w w')=>hT.keep t9);clear hT;obtain⟨W,hW,tw,hbB,hbC⟩:=al2 w #[e,a,s,r,l,n] #[iV c1,iV c2,iV c3] 29 67;have HF:=Lib.hid (z8d (h.keep tw) c1 c2 c3);have HW:=Lib.hid (h.keep tw);obtain⟨Ae,ce,rfl,_,_⟩:=h.ents.form;obtain⟨Aa,ca,rfl,_,_⟩:=h.accs.form;obtain⟨As,cs,rfl,_,_⟩:=h.stakes.form;obtain⟨Ar,cr,rfl,_,_⟩:=h.rates.form;obtain⟨Al,cl,rfl,_,_⟩:=h.locks.form;obtain⟨An,cn,rfl,_,_⟩:=h.ent.row.form;clear h;obtain⟨g0,g1,g2,g3,g4,g5⟩:=hbB.f6;obtain⟨k0,k1,k2⟩:=hbC.f3;go_enter Tryz.func6,Tryz.ntmps6;go_wp2_with fail;generalize w.heap.size=z at *;refine HF.out.mono ?_;rintro _ w1 ⟨fw,rfl,hfw,t1⟩;clear HF k0 k1 k2 g0 g1 g2 g3 g4 g5 hW;have tt1:=tw.trans t1
 cases fw
 ·clear hfw;go_wp2_with fail;refine(z7v w1 (HTA.out w1 tt1)).mono ?_;rintro _ wz ⟨rfl,tz⟩;go_wp2;(try rw[Exit.noGoto_ret]);go_ret;exact⟨rfl,tt1.trans tz⟩
 obtain⟨hf26,hE6,hA9,hP3⟩:=hfw rfl;have hfew:=zwv hf26;have hB1:=hbB.keep t1 id;have hC1:=hbC.keep t1 id;have h1:=HW.out.keep t1;clear hbB hbC HW tw t1 hfw hf26;obtain⟨g0,g1,g2,g3,g4,g5⟩:=hB1.f6;go_wp2_with fail;refine(zwu h1 hfew h64).mono ?_;rintro _ w2 ⟨hsee,t2⟩;have tt2:=tt1.trans t2
 rcases hsee with⟨_,m,rfl,hm⟩|⟨hok,bv,bi,B,t,mr,mp,e',a',s',r',l',n',lv,fs,us',rfl,hV⟩
 ·have hm2:(m !=0)=true:=by simpa using hm
  clear g0 g1 g2 g3 g4 g5 hm;go_wp2_with fail;refine(z7v w2 (HTA.out w2 tt2)).mono ?_;rintro _ wz ⟨rfl,tz⟩;go_wp2;(try rw[Exit.noGoto_ret]);go_ret;exact⟨rfl,tt2.trans tz⟩
 have hC2:=hC1.keep t2 id;clear g0 g1 g2 g3 g4 g5 hB1 hC1 h1 tt1 t2;have hn:=zvc hfew;have hpl:=z34 hfew;have FACTS:=Lib.hid (show RuleFacts b from⟨hn,zxs hfew,ztj h64,by have:=hfew.rates;omega,(zec hok).1,by have:=hfew.accs;omega,hok⟩);have HOK:=Lib.hid hok;have HPL:=Lib.hid hpl;have HL65:=Lib.hid (show(zag b.accs).length≤65 from Nat.le_trans (z3x b.accs) hfew.accs);have HV:=Lib.hid (fun w' (t9:Tf w2 w')=>hV.keep t9);have HTW:=Lib.hid tt2;have HE6:=Lib.hid hE6;have HA9:=Lib.hid hA9;have HP3:=Lib.hid hP3;obtain⟨k0,k1,k2⟩:=hC2.f3;clear hfew h64 hok hpl hE6 hA9 hP3;have HTR:=Lib.hid (z85 hV FACTS.out HPL.out (HTA.out w2 tt2) c1 c2 c3);have HRW:=Lib.hid (show z80 b c1 c2 c3=if why b c1 c2 c3=0 then(zag b.accs).map (z9x b c1 c2 c3)else[]from rfl);have HPE0:=Lib.hid (fun(hy:why b c1 c2 c3=0) a (ha:a∈zag b.accs) (h:(z9x b c1 c2 c3 a).2.1.2≠0)=>show(z9x b c1 c2 c3 a).2.2.2.2≠0 from part_err HOK.out (z41 (r:=7) (by omega) hy) (zy1.1 ha) h);have HPO0:=Lib.hid (fun(hy:why b c1 c2 c3=0) a (ha:a∈zag b.accs) (h:(z9x b c1 c2 c3 a).2.1.2=0)=>show(z9x b c1 c2 c3 a).2.2.1.2=0∧(z9x b c1 c2 c3 a).2.2.2.2=0∧(z9x b c1 c2 c3 a).2.2.1.1+(z9x b c1 c2 c3 a).2.2.2.1=(z9x b c1 c2 c3 a).2.1.1 from z98 HOK.out (z41 (r:=7) (by omega) hy) (zy1.1 ha) h);have HUP0:=Lib.hid (fun hy up hup hk=>up_law HOK.out (e:=c1) (p:=c2) (u:=c3) (up:=up) hy hup hk)
 have HWY0:=Lib.hid (fun(hy:why b c1 c2 c3=0)=>show(0≤c2∧c2<24)∧1≤c1∧c1≤(b.ents.length:Int)from by
  have h0:=zyp.1 (show za3 (7,c1,1,c2,c3,0) b.ents.length b.accs.length=0 from hy)
  omega)
 have HLF:=Lib.hid (fun a (ha:a∈zag b.accs)=>zd4 (zy1.1 ha));have HG1:=Lib.hid (fun a=>show(z9x b c1 c2 c3 a).1=a∧zz0 (z9x b c1 c2 c3 a).2.1∧zz0 (z9x b c1 c2 c3 a).2.2.1∧zz0 (z9x b c1 c2 c3 a).2.2.2 from⟨rfl,z40 HOK.out _,z40 HOK.out _,z40 HOK.out _⟩);have HUA:=Lib.hid (fun up=>show z94 b c1 c2 c3 up (zag b.accs)=zyq b (3,up,2,c2,c3,0)::(zag b.accs).flatMap fun a=>(if zfj b a=true then[(z9x b c1 c2 c3 a).2.2.2]else[])++(if a=2 then[(z9x b c1 c2 c3 a).2.2.1]else[])from rfl);have HCK:=Lib.hid (fun w' (t9:Tf w2 w')=>hC2.keep t9 id);have HVX:=Lib.hid (fun w' (t9:Tf w2 w') (rl:Int) up=>z5q (HV.out w' t9) FACTS.out HPL.out (HTA.out w' (HTW.out.trans t9)) rl up 2 c2 c3 0);have H40:=Lib.hid (zec HOK.out).1;have HV64:=Lib.hid (fun c=>z40 HOK.out c);generalize z80 b c1 c2 c3=RR at *;generalize why b c1 c2 c3=y at *;have t0:Tf w2 w2:=Tch.refl _ _;clear hC2 hV tt2 HL65 HE6 HA9 HP3 HOK FACTS HPL;go_wp2_with fail;refine HTR.out.mono ?_;rintro _ w3 ⟨v,rfl,hO⟩;have t3:=t0.trans hO.tch;obtain⟨A3,k3,rfl,_,_⟩:=hO.form;clear HTR t0 k0 k1 k2;by_cases hy:y=0
 rotate_left
 ·have hyb:(y !=0)=true:=by simpa using hy
  rw[if_neg hy]at HRW;have hrr:=HRW.out;subst hrr;have Tz:=HTW.out.trans t3;clear hy HRW HPE0 HPO0 HUP0 HWY0 HLF HG1 HUA HCK HVX hO HV t3;simp only[List.length_nil];go_wp2_with fail;refine(z7v _ (HTA.out _ Tz)).mono ?_;rintro _ wz ⟨rfl,tz⟩;go_wp2;(try rw[Exit.noGoto_ret]);go_ret;exact⟨rfl,Tz.trans tz⟩
 subst hy;rw[if_pos rfl]at HRW;have HPE:=Lib.hid (HPE0.out (by first|rfl|trivial));have HPO:=Lib.hid (HPO0.out (by first|rfl|trivial));have HUP:=Lib.hid (HUP0.out (by first|rfl|trivial));obtain⟨⟨hp0,hp1⟩,hnd⟩:=HWY0.out (by first|rfl|trivial);clear HPE0 HPO0 HUP0 HWY0
 obtain⟨GO,hGO⟩:∃GO:Int→Int×Vl×Vl×Vl,z9x b c1 c2 c3=GO:=⟨_,rfl⟩
 rw[hGO]at HRW;simp only[hGO]at HPE HPO HG1 HUA
 obtain⟨UP,hUP⟩:∃UP:Int→List Vl,(fun up=>z94 b c1 c2 c3 up (zag b.accs))=UP:=⟨_,rfl⟩
 have HUQ:∀up,z94 b c1 c2 c3 up (zag b.accs)=UP up:=fun up=>by rw[←hUP]
 simp only[HUQ]at HUP HUA;clear hGO hUP HUQ;obtain⟨pn,rfl⟩:=Int.eq_ofNat_of_zero_le hp0;have HLN:=Lib.hid hn;generalize zag b.accs=L at *;have hrr:=HRW.out;subst hrr;have HM:=Lib.hid (show(L.map GO).length=L.length from List.length_map _);have HROW:=Lib.hid (fun w' (t9:Tf w3 w')=>hO.row.keep t9);have HTQ:=Lib.hid (fun w' (t9:Tf w3 w')=>t3.trans t9);have hln:L.length≤1000:=hn;rw[HM.out];clear hO t3 HRW hn hp0;go_wp2_with fail;go_loopw [9] (fun i wr=>∃j:Nat,j≤L.length∧i=.int .i64 j∧Tf w3 wr) (fun i _=>L.length-(intOf i).toNat)
 case atStart=>exact⟨0,Nat.zero_le _,rfl,Tch.refl _ _⟩
 case round=>
  obtain⟨j,hj,rfl,ht⟩:=hrel;have hj0:=znn j;by_cases hlt:j<L.length
  ·have hlt':(j:Int)<(L.length:Int):=by omega
   have hl9:=HROW.out wr ht;have hl9:zae z74 7 (fun _=>True) wr (.slice A3 (L.map GO).length k3) (L.map GO):=hl9;obtain⟨g,o9,rfl⟩:=hl9.head (by rw[HM.out];omega);have hq:∀k (hk:k<7) v,(z74 (GO L[j]))[k]?=some v→wr.cell? ⟨g,o9+j*7+k,none⟩=some v:=fun k hk v hv=>Row.elem z71 hl9 (i:=j) (by rw[HM.out];omega) hk (by rw[List.getElem_map];exact hv)
   have HME:=Lib.hid (show L[j]∈L from List.getElem_mem _);generalize L[j]=x at *;obtain⟨he,h64w,h64p,h64m⟩:=HG1.out x;have HPX:=Lib.hid (HPE.out x HME.out);have HPY:=Lib.hid (HPO.out x HME.out);generalize GO x=vx at *;obtain⟨x0,⟨w1x,w2x⟩,⟨p1x,p2x⟩,⟨m1x,m2x⟩⟩:=vx;simp only at he h64w h64p h64m HPX HPY;have he:=he.symm;subst he;unfold zz0 I64 at h64w h64p h64m;simp only at h64w h64p h64m;have q0:=hq 0 (by decide) _ rfl;have q1:=hq 1 (by decide) _ rfl;have q2:=hq 2 (by decide) _ rfl;have q3:=hq 3 (by decide) _ rfl;have q4:=hq 4 (by decide) _ rfl;have q5:=hq 5 (by decide) _ rfl;have q6:=hq 6 (by decide) _ rfl;simp only[Nat.add_zero]at q0;have tG:=tal wr (.cells #[iV x,iV w1x,iV w2x,iV p1x,iV p2x,iV m1x,iV m2x] 79);have bG:=Blk.new wr 79 #[iV x,iV w1x,iV w2x,iV p1x,iV p2x,iV m1x,iV m2x];have htG:=ht.trans tG;obtain⟨n0,n1,n2,n3,n4,n5,n6⟩:=bG.f7;clear hl9 hq ht tG;by_cases hw:w2x=0
   rotate_left
   ·have hwb:(w2x !=0)=true:=by simpa using hw
    have hmb:(m2x==0)=false:=by have:=HPX.out hw;simpa using this
    clear hw HPX HPY h64w h64p h64m;by_cases hp2:p2x=0
    ·subst hp2;go_wp2;go_roundw
     case rel=>exact⟨j+1,by omega,by go_num,htG⟩
     case measure=>simp[intOf]<;>omega
    ·have hpb:(p2x==0)=false:=by simpa using hp2
     clear hp2;go_wp2;go_roundw
     case rel=>exact⟨j+1,by omega,by go_num,htG⟩
     case measure=>simp[intOf]<;>omega
   obtain⟨hp2,hm2,hsum⟩:=HPY.out hw;subst hw hp2 hm2;have HSU:=Lib.hid hsum;have HII:=Lib.hid (show asInt w1x=.tuple #[iV w1x,.bool true] by unfold asInt;rw[if_pos h64w]);have HO1:=Lib.hid (fun wa=>zft (B:=fun _=>True) (w:=wa) (x:=p1x) h64p.1 h64p.2 (fun _ _=>trivial));have HO2:=Lib.hid (fun wa=>zft (B:=fun _=>True) (w:=wa) (x:=m1x) h64m.1 h64m.2 (fun _ _=>trivial));have HF1:=Lib.hid (show(dg p1x.natAbs).length≤50000 from z49 (by omega));have HF2:=Lib.hid (show(dg m1x.natAbs).length≤50000 from z49 (by omega));have HF3:=Lib.hid (show(dg w1x.natAbs).length≤50000 from z49 (by omega));clear hsum h64w h64p h64m HPX HPY;go_wp2_with fail;generalize wr.alloc _=W5 at *;generalize wr.heap.size=v at *;have X0:=wc0 n3;have X1:=wc0 n5
   obtain⟨V1,hV1⟩:∃V:Value→World→Prop,V=fun u w'=>BigIs (fun _=>True) w' u (p1x):=⟨_,rfl⟩
   have HV1:=Lib.hid hV1;clear hV1
   obtain⟨V2,hV2⟩:∃V:Value→World→Prop,V=fun u w'=>BigIs (fun _=>True) w' u (m1x):=⟨_,rfl⟩
   have HV2:=Lib.hid hV2;clear hV2
   obtain⟨V3,hV3⟩:∃V:Value→World→Prop,V=fun u w'=>BigIs (fun _=>True) w' u (w1x):=⟨_,rfl⟩
   have HV3:=Lib.hid hV3;clear hV3;clear n0 n1 n2 n3 n4 n5 n6 q0 q1 q2 q3 q4 q5 q6;refine zai (fun _=>False) [] 14 [(3,.inr V1),(7,.inr V2),(8,.inr V3),(9,.inl (.tuple #[iV w1x,.bool true]))] [] ?_ ?_
   ·rw[HV1.out,HV2.out,HV3.out];exact⟨fun _ _ _ hr h=>h.beside hr (fun _ _ h=>h.elim),fun _ _ _ hr h=>h.beside hr (fun _ _ h=>h.elim),fun _ _ _ hr h=>h.beside hr (fun _ _ h=>h.elim),trivial⟩
   intro bef hbef;have hb1:(bef.getD 8 0).testBit 3=true:=by rw[hbef];kernel_rfl
   have hb2:(bef.getD 8 0).testBit 7=true:=by rw[hbef];kernel_rfl
   have hb3:(bef.getD 9 0).testBit 8=true:=by rw[hbef];kernel_rfl
   clear hbef;iterate 3 (refine zbt ?_;(try simp only[zaw]))
   refine zaq (by rfl) (by rfl) (fun wx hr hf=>?_) (fun u86=>?_)
   ·refine zaa (d:=86) rfl (by simp) (fun K hK=>?_);go_step;refine(HO1.out wx).mono ?_;rintro _ wy ⟨u,rfl,hu,ty⟩;refine hK _ _ ⟨⟨?_,ty⟩,zaf⟩;rw[HV1.out];exact hu
   simp only[zaw];iterate 3 (refine zbt ?_;(try simp only[zaw]))
   refine zaq (by rfl) (by rfl) (fun wx hr hf=>?_) (fun u90=>?_)
   ·refine zaa (d:=90) rfl (by simp) (fun K hK=>?_);go_step;refine(HO2.out wx).mono ?_;rintro _ wy ⟨u,rfl,hu,ty⟩;refine hK _ _ ⟨⟨?_,ty⟩,zaf⟩;rw[HV2.out];exact hu
   simp only[zaw];refine zaq (by rfl) (by rfl) (fun wx hr hf=>?_) (fun u91=>?_)
   ·have e1:=hf (3,fun w'=>V1 u86 w') (by simp) hb1;have e2:=hf (7,fun w'=>V2 u90 w') (by simp) hb2;simp only at e1 e2;rw[HV1.out]at e1;rw[HV2.out]at e2;refine zaa (d:=91) rfl (by simp) (fun K hK=>?_);go_step;refine(zsy (B:=fun _=>True) e1 e2 HF1.out HF2.out (fun _ _=>trivial)).mono ?_;rintro _ wy ⟨u,rfl,hu,ty⟩;refine hK _ _ ⟨⟨?_,ty⟩,zaf⟩;rw[HV3.out,←HSU.out];exact hu
   simp only[zaw];refine zb3 (.tuple #[iV w1x,.bool true]) (by rfl) (by rfl) (fun wx hr hf=>?_) ?_
   ·have e1:=hf (8,fun w'=>V3 u91 w') (by simp) hb3;simp only at e1;rw[HV3.out]at e1;have e2:=zq9 e1 HF3.out (fun _ _=>trivial);rw[HII.out]at e2;refine zaa (d:=92) rfl (by simp) (fun K hK=>?_);go_step;refine e2.mono ?_;rintro _ wy ⟨rfl,ty⟩;exact hK _ _ ⟨⟨rfl,ty⟩,zaf⟩
   simp only[zaw];iterate 4 (refine zbt ?_;(try simp only[zaw]))
   refine za6 ?_;intro we hr hp hap;have te:=(Tch.drew _ W5).trans hr;have ht6:=htG.trans te;obtain⟨n0,n1,n2,n3,n4,n5,n6⟩:=(bG.keep te id).f7;clear hap hp hr te htG bG X0 X1 hb1 hb2 hb3 HV1 HV2 HV3 HO1 HO2 HF1 HF2 HF3 HII HSU;go_wp2;go_roundw
   case rel=>exact⟨j+1,by omega,by go_num,ht6⟩
   case measure=>simp[intOf]<;>omega
  ·obtain rfl:j=L.length:=by omega
   have hlt':¬(L.length:Int)<(L.length:Int):=by omega
   clear HPE HPO;have T3:=HTQ.out wr ht;obtain⟨gf,hgf,hF⟩:=(HV.out wr T3).forests pn (by omega);have HFO:=Lib.hid (zid (HV.out wr T3) (by omega) hgf);have HPA:=Lib.hid (zl5 hF H40.out c1);rw[if_pos hnd]at HPA;obtain⟨k0,k1,k2⟩:=(HCK.out wr T3).f3;generalize hup:zam b.stakes c1 pn=up at *;have HKU:=Lib.hid hup;clear hup;by_cases hu0:up=0
   ·subst hu0;have Tz:=HTW.out.trans T3;clear HCK HROW HTQ HUP HUA HVX HLF HG1;go_wp2_with fail;refine HFO.out.mono ?_;rintro _ _ ⟨rfl,rfl⟩;go_wp2_with fail;refine HPA.out.mono ?_;rintro _ _ ⟨rfl,rfl⟩;go_wp2_with fail;refine(z7v _ (HTA.out _ Tz)).mono ?_;rintro _ wz ⟨rfl,tz⟩;go_wp2;(try rw[Exit.noGoto_ret]);go_ret;exact⟨rfl,Tz.trans tz⟩
   have hub:(up==0)=false:=by simpa using hu0
   have HCH:=Lib.hid (zoj hF H40.out up)
   have HKL:=Lib.hid (show∀K:List Int,(if 1≤up∧up≤(b.ents.length:Int)then(zal b.ents.length).filter (fun i=>zam b.stakes i pn==up)else[])=K→K.length=1→(1≤up∧up≤(b.ents.length:Int))∧zgk b up pn=[c1]from fun K hK h1=>by
    by_cases hr:1≤up∧up≤(b.ents.length:Int)
    ·rw[if_pos hr]at hK;refine⟨hr,?_⟩
     have hm:c1∈K:=by
      rw[←hK];exact List.mem_filter.2 ⟨zgc.2 hnd,by simp[HKU.out]⟩
     have hk:zgk b up pn=K:=by
      unfold zgk;rw[if_pos hr];exact hK
     rw[hk];obtain⟨x,rfl⟩:=List.length_eq_one_iff.1 h1;rw[List.mem_singleton]at hm;rw[hm]
    ·rw[if_neg hr]at hK;rw[←hK]at h1
     simp at h1)
   generalize(if 1≤up∧up≤(b.ents.length:Int)then(zal b.ents.length).filter (fun i=>zam b.stakes i pn==up)else[])=K at *;go_wp2_with fail;refine HFO.out.mono ?_;rintro _ _ ⟨rfl,rfl⟩;go_wp2_with fail;refine HPA.out.mono ?_;rintro _ _ ⟨rfl,rfl⟩;go_wp2_with fail;refine HPA.out.mono ?_;rintro _ _ ⟨rfl,rfl⟩;go_wp2_with fail;refine HCH.out.mono ?_;rintro _ w4 ⟨uk,rfl,hOk⟩;have T4:=T3.trans hOk.tch;have HT4:=Lib.hid (ht.trans hOk.tch);obtain⟨Uk,ck,rfl,_,_⟩:=hOk.form;obtain⟨k0,k1,k2⟩:=(HCK.out w4 T4).f3;have HPA:=Lib.hid (zl5 (hF.keep hOk.tch id) H40.out c1);rw[if_pos hnd,HKU.out]at HPA;clear HCH hOk hF HFO T3 ht;by_cases hk1:K.length=1
   rotate_left
   ·have hkb:((K.length:Int) !=1)=true:=by simp;omega
    have Tz:=HTW.out.trans T4;clear hk1 HKL HCK HROW HTQ HUP HUA HVX HLF HG1 T4;go_wp2_with fail;refine(z7v _ (HTA.out _ Tz)).mono ?_;rintro _ wz ⟨rfl,tz⟩;go_wp2;(try rw[Exit.noGoto_ret]);go_ret;exact⟨rfl,Tz.trans tz⟩
   obtain⟨hupr,hkk⟩:=HKL.out K rfl hk1;have HUL:=Lib.hid (HUP.out up hupr hkk);have HUY:=Lib.hid (HUA.out up);have hkb:((K.length:Int) !=1)=false:=by simp;omega
   clear hk1 HKL HUP HUA hkk hupr;go_wp2_with fail;refine HPA.out.mono ?_;rintro _ _ ⟨rfl,rfl⟩;clear HPA;go_wp2_with fail;refine(z9z 3 up 2 pn c3 w4).mono ?_;rintro _ w5 ⟨rfl,t5⟩;have T5:=T4.trans t5;have HV5:=Lib.hid (HVX.out w5 T5 3 up);have H65:=Lib.hid (HV64.out (3,up,2,(pn:Int),c3,0));generalize zyq b (3,up,2,(pn:Int),c3,0)=own at *;obtain⟨own1,own2⟩:=own;clear k0 k1 k2;go_wp2_with fail;refine HV5.out.mono ?_;rintro _ w6 ⟨rfl,t6⟩;unfold vlV;simp only;have T6:=T5.trans t6;have tA:=tal w6 (.cells #[iV own1,iV own2] 41);have bA:=Blk.new w6 41 #[iV own1,iV own2];have tB:=tal (w6.alloc (.cells #[iV own1,iV own2] 41)) (.cells #[iV own1,iV own2] 41);have bB:=Blk.new2 w6 (.cells #[iV own1,iV own2] 41) 41 #[iV own1,iV own2]
   have hOA:Outs zzb 2 41 w6 ((w6.alloc (.cells #[iV own1,iV own2] 41)).alloc (.cells #[iV own1,iV own2] 41)) (.slice (some ⟨w6.heap.size+1,0,none⟩) 1 1) [(own1,own2)]:=⟨z0z (size:=2) bB (by omega) (by rfl) (by decide),tA.trans tB⟩
   have HT6:=Lib.hid (HT4.out.trans (t5.trans t6));obtain⟨y0,y1⟩:=bA.f2;clear HV5 t5 t6 T5 tA bA tB bB;go_wp2_with fail;generalize(w6.alloc _).alloc _=W6 at *;generalize w6.heap.size+1=z6 at *;go_loopw [16,17] (fun o i wq=>∃(j:Nat) (ys:List Vl),j≤L.length∧i=.int .i64 (j:Int)∧ys.length≤2*j+1∧((own1,own2)::(L.take j).flatMap fun a=>(if zfj b a=true then[(GO a).2.2.2]else[])++(if a=2 then[(GO a).2.2.1]else[]))=ys∧Outs zzb 2 41 w6 wq o ys) (fun _ i _=>L.length-(intOf i).toNat)
   case atStart=>exact⟨0,[(own1,own2)],Nat.zero_le _,rfl,Nat.le_refl _,rfl,hOA⟩
   case round=>
    obtain⟨j,ys,hj,rfl,hyl,hlo,hOy⟩:=hrel
    obtain⟨wk,hwk⟩:∃x,x=wr:=⟨_,rfl⟩
    subst hwk;obtain⟨Q,cq,rfl,hq1,hq2⟩:=hOy.form;have HLO:=Lib.hid hlo;have hj0:=znn j;clear hlo;by_cases hlt:j<L.length
    ·have hlt':(j:Int)<(L.length:Int):=by omega
     have tk:=HT6.out.trans hOy.tch;have hl9:=HROW.out wk tk;have hl9:zae z74 7 (fun _=>True) wk (.slice A3 (L.map GO).length k3) (L.map GO):=hl9;obtain⟨g,o9,rfl⟩:=hl9.head (by rw[HM.out];omega);have HQ:=Lib.hid (fun w' (t9:Tf w3 w') k (hk:k<7) v (hv:(z74 (GO L[j]))[k]?=some v)=>show w'.cell? ⟨g,o9+j*7+k,none⟩=some v from Row.elem z71 (show zae z74 7 (fun _=>True) w' (.slice (some ⟨g,o9,none⟩) (L.map GO).length k3) (L.map GO)from HROW.out w' t9) (i:=j) (by rw[HM.out];omega) hk (by rw[List.getElem_map];exact hv));have HME:=Lib.hid (show L[j]∈L from List.getElem_mem _);have HNX:=Lib.hid (show((own1,own2)::(L.take (j+1)).flatMap fun a=>(if zfj b a=true then[(GO a).2.2.2]else[])++(if a=2 then[(GO a).2.2.1]else[]))=ys++((if zfj b L[j]=true then[(GO L[j]).2.2.2]else[])++(if L[j]=2 then[(GO L[j]).2.2.1]else[])) by rw[List.take_succ_eq_append_getElem hlt,List.flatMap_append,←List.cons_append,HLO.out];simp);generalize L[j]=x at *;obtain⟨k,hk,hxk,hka⟩:=HLF.out x HME.out;have HSP:=Lib.hid (show zfj b x=b.accs[k].2.2.1 by unfold zfj;rw[hka];rfl);have HAC:=Lib.hid (zdn (HV.out wk (HTQ.out wk tk)) hk x hxk);have he:=(HG1.out x).1;rw[HSP.out]at HNX;generalize GO x=vx at *;obtain⟨x0,⟨w1x,w2x⟩,⟨p1x,p2x⟩,⟨m1x,m2x⟩⟩:=vx;simp only at he HNX;have he:=he.symm;subst he;unfold zfq at HAC;generalize b.accs[k]=ac at *;obtain⟨ai,aj,ap,aq⟩:=ac;simp only at HAC HNX;have q0:=HQ.out wk tk 0 (by decide) _ rfl;simp only[Nat.add_zero]at q0;have hyb:ys.length≤2001:=by omega
     clear hl9 HSP hka hk hxk tk;go_wp2_with fail;refine HAC.out.mono ?_;rintro _ wl ⟨rfl,tl⟩;clear HAC q0;simp only
     cases ap
     ·by_cases hx2:x=2
      ·have tH:=tal wl (.cells #[iV ai,iV aj,.bool false,.bool aq] 91);obtain⟨a0,a1,a2,a3⟩:=(Blk.new wl 91 #[iV ai,iV aj,.bool false,.bool aq]).f4;have hO1:=(hOy.keep tl).keep tH;clear hOy;subst hx2;have q0:=HQ.out (wl.alloc (.cells #[iV ai,iV aj,.bool false,.bool aq] 91)) (HT6.out.trans hO1.tch) 0 (by decide) _ rfl;have q3:=HQ.out (wl.alloc (.cells #[iV ai,iV aj,.bool false,.bool aq] 91)) (HT6.out.trans hO1.tch) 3 (by decide) _ rfl;have q4:=HQ.out (wl.alloc (.cells #[iV ai,iV aj,.bool false,.bool aq] 91)) (HT6.out.trans hO1.tch) 4 (by decide) _ rfl;simp only[Nat.add_zero]at q0;have hB:=hO1.keep (tal (wl.alloc (.cells #[iV ai,iV aj,.bool false,.bool aq] 91)) (.cells #[iV p1x,iV p2x] 41));have HBE:=Lib.hid (fun m9=>(Blk.new2 wl (.cells #[iV ai,iV aj,.bool false,.bool aq] 91) 41 #[iV p1x,iV p2x]).cell m9);go_wp2_with (at_builtin;refine apd zz2 hB.own (Go.Gk.Src.one (news:=zzb (p1x,p2x)) rfl (fun m9 u9 hu9=>by rw[HBE.out m9];simpa[zzb]using hu9)) (by simp[zzb,Value.oneCell']) ?_ (h63:=by unfold maxLen;omega) (hbytes:=by omega);refine Hid.out ?_);refine Lib.hid ?_;intro v30 w30 ho hg hl;have hO30:=hB.step (x:=(p1x,p2x)) (Tch.refl _ _) (by first|exact ho|simpa using ho) hg (fun g hg=>by simpa using hl g hg);obtain⟨O30,co30,rfl,_,_⟩:=zac ho;clear hB HBE ho hg hl;go_wp2;go_roundw
       case rel=>exact⟨j+1,(ys++[(p1x,p2x)]),by omega,by go_num,by simp;omega,by have h9:=HNX.out;simpa using h9,hO30⟩
       case measure=>simp[intOf]<;>omega
      ·have tH:=tal wl (.cells #[iV ai,iV aj,.bool false,.bool aq] 91);obtain⟨a0,a1,a2,a3⟩:=(Blk.new wl 91 #[iV ai,iV aj,.bool false,.bool aq]).f4;have hO1:=(hOy.keep tl).keep tH;clear hOy;have hxb:(x==2)=false:=by simpa using hx2
       have q0:=HQ.out (wl.alloc (.cells #[iV ai,iV aj,.bool false,.bool aq] 91)) (HT6.out.trans hO1.tch) 0 (by decide) _ rfl;simp only[Nat.add_zero]at q0;go_wp2;go_roundw
       case rel=>exact⟨j+1,ys,by omega,by go_num,by omega,by have h9:=HNX.out;simpa[hx2]using h9,hO1⟩
       case measure=>simp[intOf]<;>omega
     ·by_cases hx2:x=2
      ·have tH:=tal wl (.cells #[iV ai,iV aj,.bool true,.bool aq] 91);obtain⟨a0,a1,a2,a3⟩:=(Blk.new wl 91 #[iV ai,iV aj,.bool true,.bool aq]).f4;have hO1:=(hOy.keep tl).keep tH;clear hOy;have q5:=HQ.out (wl.alloc (.cells #[iV ai,iV aj,.bool true,.bool aq] 91)) (HT6.out.trans hO1.tch) 5 (by decide) _ rfl;have q6:=HQ.out (wl.alloc (.cells #[iV ai,iV aj,.bool true,.bool aq] 91)) (HT6.out.trans hO1.tch) 6 (by decide) _ rfl;have hB:=hO1.keep (tal (wl.alloc (.cells #[iV ai,iV aj,.bool true,.bool aq] 91)) (.cells #[iV m1x,iV m2x] 41));have HBE:=Lib.hid (fun m9=>(Blk.new2 wl (.cells #[iV ai,iV aj,.bool true,.bool aq] 91) 41 #[iV m1x,iV m2x]).cell m9);have q0:=HQ.out (wl.alloc (.cells #[iV ai,iV aj,.bool true,.bool aq] 91)) (HT6.out.trans hO1.tch) 0 (by decide) _ rfl;simp only[Nat.add_zero]at q0;go_wp2_with (at_builtin;refine apd zz2 hB.own (Go.Gk.Src.one (news:=zzb (m1x,m2x)) rfl (fun m9 u9 hu9=>by rw[HBE.out m9];simpa[zzb]using hu9)) (by simp[zzb,Value.oneCell']) ?_ (h63:=by unfold maxLen;omega) (hbytes:=by omega);refine Hid.out ?_);refine Lib.hid ?_;intro v20 w20 ho hg hl;have hO20:=hB.step (x:=(m1x,m2x)) (Tch.refl _ _) (by first|exact ho|simpa using ho) hg (fun g hg=>by simpa using hl g hg);obtain⟨O20,co20,rfl,_,_⟩:=zac ho;clear hB HBE ho hg hl;have hyb2:(ys++[((m1x:Int),m2x)]).length≤2*j+2:=by simp;omega
       clear hO1 a0 a1 a2 a3 q0 q5 q6 tH;subst hx2;have q0:=HQ.out w20 (HT6.out.trans hO20.tch) 0 (by decide) _ rfl;have q3:=HQ.out w20 (HT6.out.trans hO20.tch) 3 (by decide) _ rfl;have q4:=HQ.out w20 (HT6.out.trans hO20.tch) 4 (by decide) _ rfl;simp only[Nat.add_zero]at q0;have hB:=hO20.keep (tal w20 (.cells #[iV p1x,iV p2x] 41));have HBE:=Lib.hid (fun m9=>(Blk.new w20 41 #[iV p1x,iV p2x]).cell m9);go_wp2_with (at_builtin;refine apd zz2 hB.own (Go.Gk.Src.one (news:=zzb (p1x,p2x)) rfl (fun m9 u9 hu9=>by rw[HBE.out m9];simpa[zzb]using hu9)) (by simp[zzb,Value.oneCell']) ?_ (h63:=by unfold maxLen;omega) (hbytes:=by omega);refine Hid.out ?_);refine Lib.hid ?_;intro v30 w30 ho hg hl;have hO30:=hB.step (x:=(p1x,p2x)) (Tch.refl _ _) (by first|exact ho|simpa using ho) hg (fun g hg=>by simpa using hl g hg);obtain⟨O30,co30,rfl,_,_⟩:=zac ho;clear hB HBE ho hg hl;go_wp2;go_roundw
       case rel=>exact⟨j+1,((ys++[(m1x,m2x)])++[(p1x,p2x)]),by omega,by go_num,by simp;omega,by have h9:=HNX.out;simpa using h9,hO30⟩
       case measure=>simp[intOf]<;>omega
      ·have tH:=tal wl (.cells #[iV ai,iV aj,.bool true,.bool aq] 91);obtain⟨a0,a1,a2,a3⟩:=(Blk.new wl 91 #[iV ai,iV aj,.bool true,.bool aq]).f4;have hO1:=(hOy.keep tl).keep tH;clear hOy;have q5:=HQ.out (wl.alloc (.cells #[iV ai,iV aj,.bool true,.bool aq] 91)) (HT6.out.trans hO1.tch) 5 (by decide) _ rfl;have q6:=HQ.out (wl.alloc (.cells #[iV ai,iV aj,.bool true,.bool aq] 91)) (HT6.out.trans hO1.tch) 6 (by decide) _ rfl;have hB:=hO1.keep (tal (wl.alloc (.cells #[iV ai,iV aj,.bool true,.bool aq] 91)) (.cells #[iV m1x,iV m2x] 41));have HBE:=Lib.hid (fun m9=>(Blk.new2 wl (.cells #[iV ai,iV aj,.bool true,.bool aq] 91) 41 #[iV m1x,iV m2x]).cell m9);have q0:=HQ.out (wl.alloc (.cells #[iV ai,iV aj,.bool true,.bool aq] 91)) (HT6.out.trans hO1.tch) 0 (by decide) _ rfl;simp only[Nat.add_zero]at q0;go_wp2_with (at_builtin;refine apd zz2 hB.own (Go.Gk.Src.one (news:=zzb (m1x,m2x)) rfl (fun m9 u9 hu9=>by rw[HBE.out m9];simpa[zzb]using hu9)) (by simp[zzb,Value.oneCell']) ?_ (h63:=by unfold maxLen;omega) (hbytes:=by omega);refine Hid.out ?_);refine Lib.hid ?_;intro v20 w20 ho hg hl;have hO20:=hB.step (x:=(m1x,m2x)) (Tch.refl _ _) (by first|exact ho|simpa using ho) hg (fun g hg=>by simpa using hl g hg);obtain⟨O20,co20,rfl,_,_⟩:=zac ho;clear hB HBE ho hg hl;have hyb2:(ys++[((m1x:Int),m2x)]).length≤2*j+2:=by simp;omega
       clear hO1 a0 a1 a2 a3 q0 q5 q6 tH;have hxb:(x==2)=false:=by simpa using hx2
       have q0:=HQ.out w20 (HT6.out.trans hO20.tch) 0 (by decide) _ rfl;simp only[Nat.add_zero]at q0;go_wp2;go_roundw
       case rel=>exact⟨j+1,(ys++[(m1x,m2x)]),by omega,by go_num,by simp;omega,by have h9:=HNX.out;simpa[hx2]using h9,hO20⟩
       case measure=>simp[intOf]<;>omega
    ·obtain rfl:j=L.length:=by omega
     have hlt':¬(L.length:Int)<(L.length:Int):=by omega
     have hys:=HLO.out;rw[List.take_length]at hys
     have h64:∀v∈ys,zz0 v:=fun v hv=>by
      rw[←hys]at hv;rcases List.mem_cons.1 hv with rfl|hv
      ·exact H65.out
      ·obtain⟨a,_,hv⟩:=List.mem_flatMap.1 hv;rcases List.mem_append.1 hv with hv|hv
       ·split at hv
        ·rw[List.mem_singleton]at hv;rw[hv];exact(HG1.out a).2.2.2
        ·cases hv
       ·split at hv
        ·rw[List.mem_singleton]at hv;rw[hv];exact(HG1.out a).2.2.1
        ·cases hv
     rw[hys]at HUY;rw[HUY.out]at HUL;have HNT:=Lib.hid (net28_any (m:=[]) hOy.row (Row.nil _ _ _) h64 (fun k hk=>by cases hk) (by omega) (by simp));have HTE:=Lib.hid (HTQ.out wk (HT6.out.trans hOy.tch));have HUG:=Lib.hid (fun w' (t9:Tf w2 w')=>HVX.out w' t9 7 up);generalize zy4 ys []=NW at *;obtain⟨e1,e2⟩:=NW;generalize zyq b (7,up,2,(pn:Int),c3,0)=NG at *;obtain⟨f1,f2⟩:=NG;clear hys h64 HUY HLO HROW HG1 HLF hOy HTQ HT4 HT6 HVX;unfold vlV at HNT;simp only at HNT;go_wp2_with fail;refine HNT.out.mono ?_;rintro _ wa ⟨rfl,ta⟩;have tB:=tal wa (.cells #[iV e1,iV e2] 41);have bE:=Blk.new wa 41 #[iV e1,iV e2];have T7:=HTE.out.trans (ta.trans tB);obtain⟨k0,k1,k2⟩:=(HCK.out _ T7).f3;clear HNT ta tB;go_wp2_with fail;generalize wa.alloc _=Wa at *;generalize wa.heap.size=ze at *;refine(z9z 7 up 2 pn c3 Wa).mono ?_;rintro _ wb ⟨rfl,tb⟩;have T8:=T7.trans tb;have HG7:=Lib.hid (HUG.out wb T8);have bE:=bE.keep tb id;clear k0 k1 k2 T7 tb HUG;go_wp2_with fail;refine HG7.out.mono ?_;rintro _ wc ⟨rfl,tc⟩;unfold vlV;simp only;have tD:=tal wc (.cells #[iV f1,iV f2] 41);have bD:=Blk.new wc 41 #[iV f1,iV f2];have Tz:=HTW.out.trans (T8.trans (tc.trans tD));obtain⟨y0,y1⟩:=((bE.keep tc id).keep tD id).f2;obtain⟨s0,s1⟩:=bD.f2;clear HG7 tc tD bE bD T8;by_cases he:f1=e1∧f2=e2
     ·obtain⟨rfl,rfl⟩:=he;have hcmp:∀w':World,(binOp .eql 41 (.agg #[iV f1,iV f2]) (.agg #[iV f1,iV f2])).run Tryz.prog w'=.ok (.bool true) w':=fun w'=>by rw[zt8];simp
      clear HUL;go_wp2_with fail;refine(z7v _ (HTA.out _ Tz)).mono ?_;rintro _ wz ⟨rfl,tz⟩;go_wp2;(try rw[Exit.noGoto_ret]);go_ret;exact⟨rfl,Tz.trans tz⟩
     ·have hne:f2≠0∧e2≠0:=by
       rcases HUL.out with h|h
       ·simp only[Prod.mk.injEq]at h;exact absurd h he
       ·exact h
      have hb:(f1==e1&&f2==e2)=false:=by
       rw[Bool.eq_false_iff];intro h;simp only[Bool.and_eq_true,beq_iff_eq]at h;exact he h
      have hcmp:∀w':World,(binOp .eql 41 (.agg #[iV f1,iV f2]) (.agg #[iV e1,iV e2])).run Tryz.prog w'=.ok (.bool false) w':=fun w'=>by rw[zt8,hb]
      have hf:(f2 !=0)=true:=by simpa using hne.1
      have hx:(e2 !=0)=true:=by simpa using hne.2
      clear HUL he hne hb;go_wp2_with fail;refine(z7v _ (HTA.out _ Tz)).mono ?_;rintro _ wz ⟨rfl,tz⟩;go_wp2;(try rw[Exit.noGoto_ret]);go_ret;exact⟨rfl,Tz.trans tz⟩
theorem z9w {w:World} {u v:Value} (hT:Tab64 0 w) (hu:∃b,BooksIs (fun _=>True) w u b∧Bks64 b) (hv:∃c:Int×Int×Int,v=.agg #[iV c.1,iV c.2.1,iV c.2.2]):
 Calls Tryz.prog 6 #[u,v] w fun x w'=>x=.returned (.bool true)∧Tf w w':=by
 obtain⟨b,hb,h64⟩:=hu;obtain⟨⟨c1,c2,c3⟩,rfl⟩:=hv;obtain⟨e,a,s,r,l,n,us,rfl,h⟩:=hb.at;exact z9v h h64 hT c1 c2 c3
