/-
  The probe of layer 41. (Printed by gen_jg.py.)
-/
import Derived.Test.YtoegobjnjljegaaGreatDoorZ89
set_option maxRecDepth 100000
set_option maxHeartbeats 25600000
namespace Go.Gk.V41
open Go.RowKit Go.Gk.V32 Go.Gk.V33 Go.Gk.V37 Go.Gk.V38
theorem a_btw:z6q zao 1 0=[(2,3)]:=by
 unfold z6q;rw[show((zen zao).flatMap fun a=>(zeb zao 1 a 0).map mm)=List.replicate 2 (2,3) by decide+kernel,List.perm_replicate.1 (z62 _)];rfl
theorem a_gap:z79 zao 1 0 1=[(2,3,(8,0),(-6,0),2,0)]:=by
 unfold z79;rw[if_pos (by decide+kernel),a_btw];decide+kernel
theorem a_facts:z8i zao 1 0 1=[(1,0,0),(2,-2,0),(3,2,0),(4,0,0),(5,0,0)]∧z8n zao 1 0 1=(0,0)∧z80 zao 2 0 1=[(1,(0,0),(0,0),0,0),(2,(0,0),(0,0),0,0),(3,(0,0),(0,0),0,0),(4,(-8,0),(-6,0),-2,0),(5,(8,0),(8,0),0,0)]∧z79 zao 1 0 1=[(2,3,(8,0),(-6,0),2,0)]∧z8i zao 4 0 1=[]∧z8n zao 4 0 1=(0,0)∧z81 zao 2 0 1=[(1,(0,0),(0,0),(0,0),0,0),(2,(0,0),(0,0),(0,0),0,0),(3,(0,0),(0,0),(0,0),0,0),(4,(0,0),(-8,0),(0,0),-8,0),(5,(0,0),(8,0),(0,0),8,0)]∧why zao 1 0 1=0∧why zao 2 0 1=0∧why zao 4 0 1=20:=⟨by decide+kernel,by decide+kernel,by decide+kernel,a_gap,by decide+kernel,by decide+kernel,by decide+kernel,by decide+kernel,by decide+kernel,by decide+kernel⟩
end Go.Gk.V41
namespace Go.Proofs.YtoegobjnjljegaaGreatDoor
open Go.RowKit Go.Gk Go.Gk.V33 Go.Gk.V37 Go.Gk.V38 Go.Gk.V41
theorem z7v (w:World) (hT:Tab64 0 w):
 Calls Tryz.prog 26 #[] w fun x w'=>x=.returned (.bool true)∧Tf w w':=by
 have HTB:=Lib.hid (fun w' (t9:Tf w w')=>hT.keep t9);clear hT;obtain⟨f1,f2,f3,f4,f5,f6,f7,f8,f9,f10⟩:=a_facts;go_enter Tryz.func26,Tryz.ntmps26;go_wp2_with fail;refine(z5p w).mono ?_;rintro _ w1 ⟨e,a,s,r,l,n,us,rfl,hB,t1⟩;go_wp2_with fail;refine(zwu hB z2c zrk).mono ?_;rintro _ w2 ⟨hsee,t2⟩;have tt:=t1.trans t2;clear hB t1 t2
 rcases hsee with⟨h,_⟩|⟨_,bv,bi,B,t,mr,mp,e,a,s,r,l,n,lv,fs,us,rfl,hV⟩
 ·rw[zyz.hok]at h;cases h
 have HTT:=Lib.hid (fun w' (t9:Tf w2 w')=>HTB.out w' (tt.trans t9));have HV:=Lib.hid (fun w' (t9:Tf w2 w')=>hV.keep t9);have T0:=Lib.hid tt;have H1:=Lib.hid (fun w' t9=>z78 (HV.out w' t9) zyz zy3 (HTT.out w' t9) 1 0 1);have H2:=Lib.hid (fun w' t9=>z85 (HV.out w' t9) zyz zy3 (HTT.out w' t9) 2 0 1);have H3:=Lib.hid (fun w' t9=>z8s (HV.out w' t9) zyz zy3 (HTT.out w' t9) (by decide) 1 0 1);have H4:=Lib.hid (fun w' t9=>z78 (HV.out w' t9) zyz zy3 (HTT.out w' t9) 4 0 1);have H5:=Lib.hid (fun w' t9=>z8y (HV.out w' t9) zyz zy3 (HTT.out w' t9) 2 0 1);simp only[f1,f2,f8]at H1;simp only[f3,f9]at H2;simp only[f4,f8]at H3;simp only[f5,f6,f10]at H4;simp only[f7,f9]at H5;unfold vlV at H1 H4;clear tt hV HTB f1 f2 f3 f4 f5 f6 f7 f8 f9 f10 HTT HV;go_wp2_with fail;refine(H1.out w2 (Tch.refl _ _)).mono ?_;rintro _ w3 ⟨v1,rfl,hO1⟩;have t0:=hO1.tch;obtain⟨A1,c1,rfl,_,_⟩:=hO1.form;have HO1:=Lib.hid (fun w' (t9:Tf w3 w')=>hO1.row.keep t9);have tA:=tal w3 (.cells #[iV 0,iV 0] 41);have bA:=Blk.new w3 41 #[iV 0,iV 0];have x3:=tA;have t0:=t0.trans tA;(try simp only[List.length_nil,List.length_cons,Nat.zero_add,Nat.reduceAdd]);clear hO1 H1 tA;go_wp2_with fail;generalize w3.alloc _=W3 at *;generalize w3.heap.size=y1 at *;refine(H2.out W3 t0).mono ?_;rintro _ w4 ⟨v2,rfl,hO2⟩;have t0:=t0.trans hO2.tch;have x3:=x3.trans hO2.tch;have bA:=bA.keep hO2.tch id;obtain⟨A2,c2,rfl,_,_⟩:=hO2.form;have HO2:=Lib.hid (fun w' (t9:Tf w4 w')=>hO2.row.keep t9);have x4:Tf w4 w4:=Tch.refl _ _;(try simp only[List.length_nil,List.length_cons,Nat.zero_add,Nat.reduceAdd]);clear hO2 H2;go_wp2_with fail;refine(H3.out w4 t0).mono ?_;rintro _ w5 ⟨v3,rfl,hO3⟩;have t0:=t0.trans hO3.tch;have x3:=x3.trans hO3.tch;have x4:=x4.trans hO3.tch;have bA:=bA.keep hO3.tch id;obtain⟨A3,c3,rfl,_,_⟩:=hO3.form;have HO3:=Lib.hid (fun w' (t9:Tf w5 w')=>hO3.row.keep t9);have x5:Tf w5 w5:=Tch.refl _ _;(try simp only[List.length_nil,List.length_cons,Nat.zero_add]);clear hO3 H3;go_wp2_with fail;refine(H4.out w5 t0).mono ?_;rintro _ w6 ⟨v4,rfl,hO4⟩;have tB:=tal w6 (.cells #[iV 0,iV 0] 41);have tt:=hO4.tch.trans tB;have t0:=t0.trans tt;have x3:=x3.trans tt;have x4:=x4.trans tt;have x5:=x5.trans tt;have bA:=bA.keep tt id;obtain⟨A4,c4,rfl,_,_⟩:=hO4.form;(try simp only[List.length_nil]);clear hO4 H4 tt tB;go_wp2_with fail;generalize w6.alloc _=W6 at *;generalize w6.heap.size=y6 at *;refine(H5.out W6 t0).mono ?_;rintro _ w7 ⟨v5,rfl,hO5⟩;have t0:=T0.out.trans (t0.trans hO5.tch);have bA:=bA.keep hO5.tch id;have r1:=HO1.out w7 (x3.trans hO5.tch);have r2:=HO2.out w7 (x4.trans hO5.tch);have r3:=HO3.out w7 (x5.trans hO5.tch);obtain⟨A5,c5,rfl,_,_⟩:=hO5.form;have r5:=hO5.row;clear HO1 HO2 HO3 x3 x4 x5 hO5 H5 T0;obtain⟨g1,o1,rfl⟩:=r1.head (by simp);obtain⟨g2,o2,rfl⟩:=r2.head (by simp);obtain⟨g3,o3,rfl⟩:=r3.head (by simp);obtain⟨g5,o5,rfl⟩:=r5.head (by simp);have k0:=Row.elem z8c r1 (i:=1) (by simp) (j:=0) (by decide) rfl;have k1:=Row.elem z8c r1 (i:=1) (by simp) (j:=1) (by decide) rfl;have k2:=Row.elem z8c r1 (i:=1) (by simp) (j:=2) (by decide) rfl;have m0:=Row.elem z71 r2 (i:=3) (by simp) (j:=0) (by decide) rfl;have m1:=Row.elem z71 r2 (i:=3) (by simp) (j:=1) (by decide) rfl;have m2:=Row.elem z71 r2 (i:=3) (by simp) (j:=2) (by decide) rfl;have m3:=Row.elem z71 r2 (i:=3) (by simp) (j:=3) (by decide) rfl;have m4:=Row.elem z71 r2 (i:=3) (by simp) (j:=4) (by decide) rfl;have m5:=Row.elem z71 r2 (i:=3) (by simp) (j:=5) (by decide) rfl;have m6:=Row.elem z71 r2 (i:=3) (by simp) (j:=6) (by decide) rfl;have n0:=Row.elem z7y r3 (i:=0) (by simp) (j:=0) (by decide) rfl;have n1:=Row.elem z7y r3 (i:=0) (by simp) (j:=1) (by decide) rfl;have n2:=Row.elem z7y r3 (i:=0) (by simp) (j:=2) (by decide) rfl;have n3:=Row.elem z7y r3 (i:=0) (by simp) (j:=3) (by decide) rfl;have n4:=Row.elem z7y r3 (i:=0) (by simp) (j:=4) (by decide) rfl;have n5:=Row.elem z7y r3 (i:=0) (by simp) (j:=5) (by decide) rfl;have n6:=Row.elem z7y r3 (i:=0) (by simp) (j:=6) (by decide) rfl;have n7:=Row.elem z7y r3 (i:=0) (by simp) (j:=7) (by decide) rfl;have q0:=Row.elem z7w r5 (i:=4) (by simp) (j:=0) (by decide) rfl;have q1:=Row.elem z7w r5 (i:=4) (by simp) (j:=1) (by decide) rfl;have q2:=Row.elem z7w r5 (i:=4) (by simp) (j:=2) (by decide) rfl;have q3:=Row.elem z7w r5 (i:=4) (by simp) (j:=3) (by decide) rfl;have q4:=Row.elem z7w r5 (i:=4) (by simp) (j:=4) (by decide) rfl;have q5:=Row.elem z7w r5 (i:=4) (by simp) (j:=5) (by decide) rfl;have q6:=Row.elem z7w r5 (i:=4) (by simp) (j:=6) (by decide) rfl;have q7:=Row.elem z7w r5 (i:=4) (by simp) (j:=7) (by decide) rfl;have q8:=Row.elem z7w r5 (i:=4) (by simp) (j:=8) (by decide) rfl;obtain⟨y0,yy⟩:=bA.f2;simp only[Nat.zero_mul,Nat.one_mul,Nat.add_zero,Nat.reduceMul]at k0 k1 k2 m0 m1 m2 m3 m4 m5 m6 n0 n1 n2 n3 n4 n5 n6 n7 q0 q1 q2 q3 q4 q5 q6 q7 q8;clear r1 r2 r3 r5 bA;have e5:∀w',(binOp .eql 104 (.agg #[iV 5,iV 0,iV 0,iV 8,iV 0,iV 0,iV 0,iV 8,iV 0]) (.agg #[iV 5,iV 0,iV 0,iV 8,iV 0,iV 0,iV 0,iV 8,iV 0])).run Tryz.prog w'=.ok (.bool true) w':=fun w'=>by kernel_rfl
 have e0:∀w',(binOp .eql 41 (.agg #[iV 0,iV 0]) (.agg #[iV 0,iV 0])).run Tryz.prog w'=.ok (.bool true) w':=fun w'=>by kernel_rfl
 have e1:∀w',(binOp .eql 74 (.agg #[iV 2,iV (-2),iV 0]) (.agg #[iV 2,iV (-2),iV 0])).run Tryz.prog w'=.ok (.bool true) w':=fun w'=>by kernel_rfl
 have e2:∀w',(binOp .eql 79 (.agg #[iV 4,iV (-8),iV 0,iV (-6),iV 0,iV (-2),iV 0]) (.agg #[iV 4,iV (-8),iV 0,iV (-6),iV 0,iV (-2),iV 0])).run Tryz.prog w'=.ok (.bool true) w':=fun w'=>by kernel_rfl
 have e3:∀w',(binOp .eql 99 (.agg #[iV 2,iV 3,iV 8,iV 0,iV (-6),iV 0,iV 2,iV 0]) (.agg #[iV 2,iV 3,iV 8,iV 0,iV (-6),iV 0,iV 2,iV 0])).run Tryz.prog w'=.ok (.bool true) w':=fun w'=>by kernel_rfl
 (try simp only[List.length_nil,List.length_cons,Nat.zero_add,Nat.reduceAdd]);go_wp2;go_ret;exact⟨rfl,t0⟩
open Go.RowKit Go.Gk
def FewRet (b:Bks) (p:Int) (w:World) (x:Ending) (w':World):Prop:=∃m:Bool,x=.returned (.bool m)∧(m=true→zuj b=true∧b.ents.length≤6∧b.accs.length≤9∧p≤3)∧Tf w w'
theorem z2e {w:World} {e a s r l n:Value} {b:Bks} {us:List (Ent×Value)} (h:BksAt w e a s r l n b us) (c1 c2 c3 c4 c5 c6:Int):
 Calls Tryz.prog 11 #[.agg #[e,a,s,r,l,n],.agg #[iV c1,iV c2,iV c3,iV c4,iV c5,iV c6]] w (FewRet b c4 w):=by
 obtain⟨W,hW,tw,bB,bC⟩:=al2 w #[e,a,s,r,l,n] #[iV c1,iV c2,iV c3,iV c4,iV c5,iV c6] 29 31;have HF:=Lib.hid (zwy (h.keep tw));obtain⟨Ae,ce,rfl,_,_⟩:=h.ents.form;obtain⟨Aa,ca,rfl,_,_⟩:=h.accs.form;obtain⟨As,cs,rfl,_,_⟩:=h.stakes.form;obtain⟨Ar,cr,rfl,_,_⟩:=h.rates.form;obtain⟨Al,cl,rfl,_,_⟩:=h.locks.form;obtain⟨An,cn,rfl,_,_⟩:=h.ent.row.form;obtain⟨g0,g1,g2,g3,g4,g5⟩:=bB.f6;clear h
 obtain⟨m,hm⟩:∃m,zuj b=m:=⟨_,rfl⟩
 rw[hm]at HF;have HM:=Lib.hid hm;clear hm;generalize hn0:b.ents.length=n0 at *;generalize hn1:b.accs.length=n1 at *;have HN0:=Lib.hid hn0;have HN1:=Lib.hid hn1;clear hn0 hn1;generalize us.length=n2 at *;generalize b.stakes.length=n3 at *;generalize b.rates.length=n4 at *;generalize b.locks.length=n5 at *;go_enter Tryz.func11,Tryz.ntmps11;go_wp2_with fail;refine HF.out.mono ?_;rintro _ w1 ⟨rfl,t1⟩;have bB1:=bB.keep t1 id;have bC1:=bC.keep t1 id;have tt:=tw.trans t1;clear HF g0 g1 g2 g3 g4 g5 hW tw t1 bB bC;obtain⟨g0,g1,g2,g3,g4,g5⟩:=bB1.f6;have k3:=bC1.at3;clear bB1 bC1
 cases m
 ·go_wp2;go_ret;exact⟨false,rfl,(fun h=>by cases h),tt⟩
 by_cases h0:(n0:Int)≤6
 rotate_left
 ·go_wp2;go_ret;exact⟨false,rfl,(fun h=>by cases h),tt⟩
 by_cases h1:(n1:Int)≤9
 rotate_left
 ·go_wp2;go_ret;exact⟨false,rfl,(fun h=>by cases h),tt⟩
 by_cases h2:(n2:Int)≤12
 rotate_left
 ·go_wp2;go_ret;exact⟨false,rfl,(fun h=>by cases h),tt⟩
 go_wp2;go_ret;exact⟨_,rfl,fun h9=>⟨HM.out,by rw[HN0.out];omega,by rw[HN1.out];omega,of_decide_eq_true h9⟩,tt⟩
open Go.RowKit Go.Gk Go.Gk.V32 Go.Gk.V33 Go.Gk.V37 Go.Gk.V38 Go.Gk.V41
theorem z8d {w:World} {e a s r l n:Value} {b:Bks} {us:List (Ent×Value)} (h:BksAt w e a s r l n b us) (c1 c2 c3:Int):
 Calls Tryz.prog 25 #[.agg #[e,a,s,r,l,n],.agg #[iV c1,iV c2,iV c3]] w (FewRet b c2 w):=by
 obtain⟨W,hW,tw,bB,bC⟩:=al2 w #[e,a,s,r,l,n] #[iV c1,iV c2,iV c3] 29 67;have HF:=Lib.hid (z2e (h.keep tw) 0 0 0 c2 0 0);obtain⟨Ae,ce,rfl,_,_⟩:=h.ents.form;obtain⟨Aa,ca,rfl,_,_⟩:=h.accs.form;obtain⟨As,cs,rfl,_,_⟩:=h.stakes.form;obtain⟨Ar,cr,rfl,_,_⟩:=h.rates.form;obtain⟨Al,cl,rfl,_,_⟩:=h.locks.form;obtain⟨An,cn,rfl,_,_⟩:=h.ent.row.form;obtain⟨g0,g1,g2,g3,g4,g5⟩:=bB.f6;obtain⟨k0,k1,k2⟩:=bC.f3;clear h bB bC;go_enter Tryz.func25,Tryz.ntmps25;go_wp2_with fail;refine HF.out.mono ?_;rintro _ w1 ⟨m,rfl,hm,t1⟩;have HM:=Lib.hid hm;clear hm HF;go_wp2;go_ret;exact⟨m,rfl,HM.out,tw.trans t1⟩
end Go.Proofs.YtoegobjnjljegaaGreatDoor
namespace Go.Gk.V41
open Go.RowKit Go.Gk.V32 Go.Gk.V33 Go.Gk.V37 Go.Gk.V38
theorem z88:∀{l:List Vl} {v:Vl} (r:List Vl),(∀x∈l,x.2=0)→v.2≠0→zzy 0 (l++v::r)=v.2
 |l,v,r,h,hv=>by
  rw[z82,z1y.2 h];show r.foldl _ (if(0:Int)=0 then v.2 else 0)=v.2;rw[if_pos rfl];exact z1x hv r
theorem tot_at {b:Bks} {e p u:Int} (hy:why b e p u=0) {L:List Int} (hL:zag b.accs=L) {j:Nat} (hj:j<L.length) (h0:∀a∈L.take j,(zyq b (7,e,a,p,u,0)).2=0) (hv:(zyq b (7,e,L[j],p,u,0)).2≠0):z8n b e p u=(0,(zyq b (7,e,L[j],p,u,0)).2):=by
 unfold z8n;rw[if_pos hy,hL]
 have h1:L.map (fun a=>zyq b (7,e,a,p,u,0))=(L.take j).map (fun a=>zyq b (7,e,a,p,u,0))++zyq b (7,e,L[j],p,u,0)::(L.drop (j+1)).map (fun a=>zyq b (7,e,a,p,u,0)):=by
  rw[←List.map_cons (f:=fun a=>zyq b (7,e,a,p,u,0)),←List.map_append,List.getElem_cons_drop,List.take_append_drop]
 have h2:zzy 0 (L.map (fun a=>zyq b (7,e,a,p,u,0))++[])=(zyq b (7,e,L[j],p,u,0)).2:=by
  rw[List.append_nil,h1];exact z88 _ (fun x hx=>by obtain⟨a,ha,rfl⟩:=List.mem_map.1 hx;exact h0 a ha) hv
 unfold zy4;rw[h2,if_neg hv]
theorem tot_end {b:Bks} (hok:zba b=true) {e p u:Int} (hy:why b e p u=0) (h0:∀a∈zag b.accs,(zyq b (7,e,a,p,u,0)).2=0):z8n b e p u=(0,0):=by
 unfold z8n;rw[if_pos hy];unfold zy4
 rw[if_pos (z1y.2 fun v hv=>by
  rw[List.append_nil]at hv;obtain⟨a,ha,rfl⟩:=List.mem_map.1 hv
  exact h0 a ha),List.map_map]
 have h1:=trial hok 42 (by omega) (z41 (r:=7) (by omega) hy) h0;show zda (((zag b.accs).map fun a=>(zyq b (7,e,a,p,u,0)).1).sum-0)=_;rw[h1];rfl
end Go.Gk.V41
namespace Go.Proofs.YtoegobjnjljegaaGreatDoor
open Go.RowKit Go.Gk Go.Gk.V32 Go.Gk.V33 Go.Gk.V37 Go.Gk.V38 Go.Gk.V41
theorem z8e {w:World} {e a s r l n:Value} {b:Bks} {us:List (Ent×Value)} (h:BksAt w e a s r l n b us) (h64:Bks64 b) (hT:Tab64 0 w) (c1 c2 c3:Int):
 Calls Tryz.prog 5 #[.agg #[e,a,s,r,l,n],.agg #[iV c1,iV c2,iV c3]] w fun x w'=>x=.returned (.bool true)∧Tf w w':=by
 have HTA:=Lib.hid (fun w' (t9:Tf w w')=>hT.keep t9);clear hT;obtain⟨W,hW,tw,hbB,hbC⟩:=al2 w #[e,a,s,r,l,n] #[iV c1,iV c2,iV c3] 29 67;have HF:=Lib.hid (z8d (h.keep tw) c1 c2 c3);have HW:=Lib.hid (h.keep tw);obtain⟨Ae,ce,rfl,_,_⟩:=h.ents.form;obtain⟨Aa,ca,rfl,_,_⟩:=h.accs.form;obtain⟨As,cs,rfl,_,_⟩:=h.stakes.form;obtain⟨Ar,cr,rfl,_,_⟩:=h.rates.form;obtain⟨Al,cl,rfl,_,_⟩:=h.locks.form;obtain⟨An,cn,rfl,_,_⟩:=h.ent.row.form;clear h;obtain⟨g0,g1,g2,g3,g4,g5⟩:=hbB.f6;obtain⟨k0,k1,k2⟩:=hbC.f3;go_enter Tryz.func5,Tryz.ntmps5;go_wp2_with fail;generalize w.heap.size=z at *;refine HF.out.mono ?_;rintro _ w1 ⟨fw,rfl,hfw,t1⟩;clear HF k0 k1 k2 g0 g1 g2 g3 g4 g5 hW;have tt1:=tw.trans t1
 cases fw
 ·clear hfw;go_wp2_with fail;refine(z7v w1 (HTA.out w1 tt1)).mono ?_;rintro _ wz ⟨rfl,tz⟩;go_wp2;(try rw[Exit.noGoto_ret]);go_ret;exact⟨rfl,tt1.trans tz⟩
 obtain⟨hf26,hE6,hA9,hP3⟩:=hfw rfl;have hfew:=zwv hf26;have hB1:=hbB.keep t1 id;have hC1:=hbC.keep t1 id;have h1:=HW.out.keep t1;clear hbB hbC HW tw t1 hfw hf26;obtain⟨g0,g1,g2,g3,g4,g5⟩:=hB1.f6;go_wp2_with fail;refine(zwu h1 hfew h64).mono ?_;rintro _ w2 ⟨hsee,t2⟩;have tt2:=tt1.trans t2
 rcases hsee with⟨_,m,rfl,hm⟩|⟨hok,bv,bi,B,t,mr,mp,e',a',s',r',l',n',lv,fs,us',rfl,hV⟩
 ·have hm2:(m !=0)=true:=by simpa using hm
  clear g0 g1 g2 g3 g4 g5 hm;go_wp2_with fail;refine(z7v w2 (HTA.out w2 tt2)).mono ?_;rintro _ wz ⟨rfl,tz⟩;go_wp2;(try rw[Exit.noGoto_ret]);go_ret;exact⟨rfl,tt2.trans tz⟩
 have hC2:=hC1.keep t2 id;clear g0 g1 g2 g3 g4 g5 hB1 hC1 h1 tt1 t2;have hn:=zvc hfew;have hpl:=z34 hfew;have FACTS:=Lib.hid (show RuleFacts b from⟨hn,zxs hfew,ztj h64,by have:=hfew.rates;omega,(zec hok).1,by have:=hfew.accs;omega,hok⟩);have HOK:=Lib.hid hok;have HPL:=Lib.hid hpl;have HL65:=Lib.hid (show(zag b.accs).length≤65 from Nat.le_trans (z3x b.accs) hfew.accs);have HV:=Lib.hid (fun w' (t9:Tf w2 w')=>hV.keep t9);have HTW:=Lib.hid tt2;have HE6:=Lib.hid hE6;have HA9:=Lib.hid hA9;have HP3:=Lib.hid hP3;obtain⟨k0,k1,k2⟩:=hC2.f3;clear hfew h64 hok hpl hE6 hA9 hP3;have HTR:=Lib.hid (z78 hV FACTS.out HPL.out (HTA.out w2 tt2) c1 c2 c3);have HRW:=Lib.hid (show z8i b c1 c2 c3=if why b c1 c2 c3=0 then(zag b.accs).map fun a=>(a,zyq b (7,c1,a,c2,c3,0))else[]from rfl);have HAT:=Lib.hid (fun hy j (hj:j<(zag b.accs).length) h0 hv=>tot_at (b:=b) (e:=c1) (p:=c2) (u:=c3) hy rfl hj h0 hv);have HEN:=Lib.hid (fun hy h0=>tot_end HOK.out (e:=c1) (p:=c2) (u:=c3) hy h0);generalize z8i b c1 c2 c3=RR at *;generalize z8n b c1 c2 c3=TT at *;generalize why b c1 c2 c3=y at *;obtain⟨T1,T2⟩:=TT;unfold vlV at HTR;simp only at HTR;have t0:Tf w2 w2:=Tch.refl _ _;clear hC2 hV tt2 FACTS HPL HOK HL65 HE6 HA9 HP3;go_wp2_with fail;refine HTR.out.mono ?_;rintro _ w3 ⟨v,rfl,hO⟩;have t0:=t0.trans hO.tch;obtain⟨A3,k3,rfl,_,_⟩:=hO.form;have tA:=tal w3 (.cells #[iV T1,iV T2] 41);have bT:=Blk.new w3 41 #[iV T1,iV T2];have hO3:=hO.keep tA;have t3:=t0.trans tA;clear HTR hO t0 tA k0 k1 k2;by_cases hy:y=0
 rotate_left
 ·have hyb:(y !=0)=true:=by simpa using hy
  rw[if_neg hy]at HRW;have hrr:=HRW.out;subst hrr;have Tz:=HTW.out.trans t3;clear hy HRW HAT HEN hO3 bT HV t3;simp only[List.length_nil];go_wp2_with fail;refine(z7v _ (HTA.out _ Tz)).mono ?_;rintro _ wz ⟨rfl,tz⟩;go_wp2;(try rw[Exit.noGoto_ret]);go_ret;exact⟨rfl,Tz.trans tz⟩
 subst hy;rw[if_pos rfl]at HRW;have HLV:=Lib.hid (zg4 (HV.out _ t3) hn);have hrl:RR.length=(zag b.accs).length:=by rw[HRW.out,List.length_map]
 go_wp2_with fail;generalize w3.alloc _=W3 at *;generalize w3.heap.size=zt at *;refine HLV.out.mono ?_;rintro _ w4 ⟨ul,rfl,hOl⟩;have t4:=t3.trans hOl.tch;have hln:(zag b.accs).length≤1000:=hn;have HAT:=Lib.hid (fun j (hj:j<(zag b.accs).length) h0 hv=>HAT.out (by first|rfl|trivial) j hj h0 hv);have HEN:=Lib.hid (fun h0=>HEN.out (by first|rfl|trivial) h0);have HRA:=Lib.hid (fun w' (t9:Tf w4 w')=>hOl.row.keep t9);have HRR:=Lib.hid (fun w' (t9:Tf w4 w')=>(hO3.keep hOl.tch).row.keep t9);have HBT:=Lib.hid (fun w' (t9:Tf w4 w')=>(bT.keep hOl.tch id).keep t9 id);have HTQ:=Lib.hid (HTW.out.trans t4);obtain⟨U,cu,rfl,_,_⟩:=hOl.form
 obtain⟨Vf,hVf⟩:∃Vf:Int→Vl,(fun a=>zyq b (7,c1,a,c2,c3,0))=Vf:=⟨_,rfl⟩
 have HVE:∀a,zyq b (7,c1,a,c2,c3,0)=Vf a:=fun a=>by rw[←hVf]
 simp only[HVE]at HRW HAT HEN;clear HLV hO3 bT hOl t3 t4 hn HV HTW hVf HVE;generalize zag b.accs=L at *;have hrr:=HRW.out;subst hrr;go_wp2_with fail;go_loopw [11] (fun i wr=>∃j:Nat,j≤L.length∧i=.int .i64 (j:Int)∧(∀a∈L.take j,(Vf a).2=0)∧Tf w4 wr) (fun i _=>L.length-(intOf i).toNat)
 case atStart=>exact⟨0,Nat.zero_le _,rfl,(fun a ha=>by rw[List.take_zero]at ha;cases ha),Tch.refl _ _⟩
 case round=>
  obtain⟨j,hj,rfl,hz,ht⟩:=hrel;have HZ:=Lib.hid hz;have hj0:=znn j;clear hz;by_cases hlt:j<L.length
  ·have hlt':(j:Int)<(L.length:Int):=by omega
   have hl9:=HRA.out wr ht;obtain⟨g9,o9,rfl⟩:=hl9.head (by omega);have q0:=Row.one hl9 zap hlt rfl;have hr9:=HRR.out wr ht;have hr9:zae row3 3 (fun _=>True) wr (.slice A3 (L.map fun a=>(a,Vf a)).length k3) (L.map fun a=>(a,Vf a)):=hr9;obtain⟨g8,o8,rfl⟩:=hr9.head (by rw[List.length_map];omega);obtain⟨p0,p1,p2⟩:=Row.three (i:=j) hr9 z8c (by rw[List.length_map];omega) (by rw[List.getElem_map];rfl);have HTK:=Lib.hid (show L.take (j+1)=L.take j++[L[j]]from List.take_succ_eq_append_getElem hlt);have HAX:=Lib.hid (fun hv=>HAT.out j hlt HZ.out hv);generalize L[j]=x at *;generalize hvx:Vf x=vx at *;have HEX:=Lib.hid hvx;obtain⟨v1,v2⟩:=vx;simp only at p0 p1 p2 HAX;clear hvx hl9 hr9;go_wp2_with fail;go_quiet (fail)
   rename_i nq
   have t4:Tf wr (wr.drewN nq):=Tch.drewN _ _ _;have p2:=t4.cell_some p2 id;have ht4:=ht.trans t4;clear p0 p1 q0 t4 ht;generalize wr.drewN nq=W4 at *;by_cases hv2:v2=0
   rotate_left
   ·have hv2b:(v2 !=0)=true:=by simpa using hv2
    obtain⟨rfl,rfl⟩:T1=0∧T2=v2:=by have h9:=HAX.out hv2;simpa using h9
    obtain⟨y0,y1⟩:=(HBT.out W4 ht4).f2;have X0:=wc0 y0;have X1:=wc0 y1;have X2:=wc0 p2;have hcmp:∀w':World,(binOp .eql 41 (.agg #[iV 0,iV T2]) (.agg #[iV 0,iV T2])).run Tryz.prog w'=.ok (.bool true) w':=fun w'=>by rw[zt8];simp
    clear hv2 HAX HTK HZ HAT HEN y0 y1;go_wp2_with fail;refine zai (fun _=>False) [] 8 [] [] trivial ?_;intro bef _;iterate 8 (refine zbt ?_;(try simp only[zaw]))
    refine za6 ?_;intro w6 hr hp hap;have Tz:=HTQ.out.trans (ht4.trans ((Tch.drew (fun _=>False) W4).trans hr));clear hr hp hap X0 X1 X2 ht4 p2;go_wp2_with fail;refine(z7v _ (HTA.out _ Tz)).mono ?_;rintro _ wz ⟨rfl,tz⟩;go_wp2;(try rw[Exit.noGoto_ret]);go_ret;exact⟨rfl,Tz.trans tz⟩
   subst hv2
   have HZN:=Lib.hid (show∀a∈L.take (j+1),(Vf a).2=0 by
    rw[HTK.out];intro a ha;rcases List.mem_append.1 ha with h|h
    ·exact HZ.out a h
    ·obtain rfl:=List.mem_singleton.1 h
     rw[HEX.out])
   clear HAX;go_wp2;go_roundw
   case rel=>exact⟨j+1,by omega,by go_num,HZN.out,ht4⟩
   case measure=>simp[intOf]<;>omega
  ·obtain rfl:j=L.length:=by omega
   have hlt':¬(L.length:Int)<(L.length:Int):=by omega
   have hz:=HZ.out;rw[List.take_length]at hz;obtain⟨rfl,rfl⟩:T1=0∧T2=0:=by have h9:=HEN.out hz;simpa using h9
   obtain⟨y0,y1⟩:=(HBT.out wr ht).f2;have hcmp:∀w':World,(binOp .eql 41 (.agg #[iV 0,iV 0]) (.agg #[iV 0,iV 0])).run Tryz.prog w'=.ok (.bool true) w':=fun w'=>by rw[zt8];simp
   have Tz:=HTQ.out.trans ht;clear hz HZ HAT HEN ht HRA HRR HBT;go_wp2_with fail;refine(z7v _ (HTA.out _ Tz)).mono ?_;rintro _ wz ⟨rfl,tz⟩;go_wp2;(try rw[Exit.noGoto_ret]);go_ret;exact⟨rfl,Tz.trans tz⟩
theorem z8f {w:World} {u v:Value} (hT:Tab64 0 w) (hu:∃b,BooksIs (fun _=>True) w u b∧Bks64 b) (hv:∃c:Int×Int×Int,v=.agg #[iV c.1,iV c.2.1,iV c.2.2]):
 Calls Tryz.prog 5 #[u,v] w fun x w'=>x=.returned (.bool true)∧Tf w w':=by
 obtain⟨b,hb,h64⟩:=hu;obtain⟨⟨c1,c2,c3⟩,rfl⟩:=hv;obtain⟨e,a,s,r,l,n,us,rfl,h⟩:=hb.at;exact z8e h h64 hT c1 c2 c3
end Go.Proofs.YtoegobjnjljegaaGreatDoor
namespace Go.Gk.V41
open Go.RowKit Go.Gk.V32 Go.Gk.V33 Go.Gk.V37 Go.Gk.V38
theorem z8p {p:List Vl} (h:(zy4 p []).2=0):(∀v∈p,v.2=0)∧(zy4 p []).1=(p.map (·.1)).sum:=by
 unfold zy4 at h⊢;rw[List.append_nil]at h⊢;by_cases hf:zzy 0 p=0
 ·rw[if_pos hf]at h⊢;refine⟨z1y.1 hf,?_⟩;rw[z30 h];simp
 ·rw[if_neg hf]at h;exact absurd h hf
theorem z8o {b:Bks} {p u x y:Int} (h:(z7x b p u x y).2=0):(∀k∈z8b b p u x y,(zyq b k).2=0)∧(z7x b p u x y).1=((z8b b p u x y).map fun k=>(zyq b k).1).sum:=by
 obtain⟨h1,h2⟩:=z8p h;refine⟨fun k hk=>h1 _ (List.mem_map.2 ⟨k,hk,rfl⟩),?_⟩;unfold z7x;rw[h2,List.map_map];rfl
theorem z8g {b:Bks} {p u:Int} {q:Int×Int} (h:(z7z b p u q).2.2.1.2=0∧(z7z b p u q).2.2.2.1.2=0∧(z7z b p u q).2.2.2.2.2=0):(z7z b p u q).2.2.2.2.1=(z7z b p u q).2.2.1.1+(z7z b p u q).2.2.2.1.1∧(∀k∈(zen b).flatMap (fun a=>[((3:Int),q.1,a,p,u,q.2),(3,q.2,a,p,u,q.1)]),(zyq b k).2=0)∧(z7z b p u q).2.2.2.2.1=(((zen b).flatMap fun a=>[((3:Int),q.1,a,p,u,q.2),(3,q.2,a,p,u,q.1)]).map fun k=>(zyq b k).1).sum:=by
 unfold z7z at h⊢;simp only at h⊢;obtain⟨h1,h2,h3⟩:=h;have e3:=(z8p h3).2;simp only[List.map_cons,List.map_nil,List.sum_cons,List.sum_nil,Int.add_zero]at e3;obtain⟨z1,s1⟩:=z8o h1;obtain⟨z2,s2⟩:=z8o h2;refine⟨e3,fun k hk=>?_,?_⟩
 ·obtain⟨a,ha,hk⟩:=List.mem_flatMap.1 hk;rcases List.mem_cons.1 hk with rfl|hk
  ·exact z1 _ (List.mem_map.2 ⟨a,ha,rfl⟩)
  ·rw[List.mem_singleton]at hk;subst hk;exact z2 _ (List.mem_map.2 ⟨a,ha,rfl⟩)
 ·rw[e3,s1,s2];unfold z8b;rw[List.map_map,List.map_map,List.map_flatMap,z6w,←z7c];congr 1;refine List.map_congr_left fun a _=>?_
  simp
theorem gap_law {b:Bks} (hok:zba b=true) {e p u:Int} (hy:why b e p u=0) (h:∀q∈z6q b e p,(z7z b p u q).2.2.1.2=0∧(z7z b p u q).2.2.2.1.2=0∧(z7z b p u q).2.2.2.2.2=0):zyq b (6,e,3,p,u,0)=zda ((z6q b e p).map fun q=>(z7z b p u q).2.2.2.2.1).sum:=by
 have h0:=zyp.1 (show za3 (7,e,1,p,u,0) b.ents.length b.accs.length=0 from hy);obtain⟨pn,rfl⟩:=Int.eq_ofNat_of_zero_le (show 0≤p by omega)
 rw[gaps hok (z0e hok (z41 (r:=7) (by omega) hy) (z1n hok (by omega)) (by omega)) fun k hk=>by
  obtain⟨q,hq,hk⟩:=List.mem_flatMap.1 hk
  exact(z8g (h q hq)).2.1 k hk]
 unfold z6r;rw[List.map_flatMap,z6w];congr 2;exact List.map_congr_left fun q hq=>((z8g (h q hq)).2.2).symm
end Go.Gk.V41
namespace Go.Proofs.YtoegobjnjljegaaGreatDoor
open Go.RowKit Go.Gk Go.Gk.V32 Go.Gk.V33 Go.Gk.V37 Go.Gk.V38 Go.Gk.V41
theorem z8z (r e a p u:Int) (w:World):
 Calls Tryz.prog 36 #[iV r,iV e,iV a,iV p,iV u] w fun x w'=>x=.returned (.agg #[iV r,iV e,iV a,iV p,iV u,iV 0])∧Tf w w':=by
 go_enter Tryz.func36,Tryz.ntmps36;go_wp2;refine zfe (Blk.new w 31 _) ?_;exact⟨rfl,tal _ _⟩
theorem z8l {w:World} {e a s r l n:Value} {b:Bks} {us:List (Ent×Value)} (h:BksAt w e a s r l n b us) (h64:Bks64 b) (hT:Tab64 0 w) (c1 c2 c3:Int):
 Calls Tryz.prog 7 #[.agg #[e,a,s,r,l,n],.agg #[iV c1,iV c2,iV c3]] w fun x w'=>x=.returned (.bool true)∧Tf w w':=by
 have HTA:=Lib.hid (fun w' (t9:Tf w w')=>hT.keep t9);clear hT;obtain⟨W,hW,tw,hbB,hbC⟩:=al2 w #[e,a,s,r,l,n] #[iV c1,iV c2,iV c3] 29 67;have HF:=Lib.hid (z8d (h.keep tw) c1 c2 c3);have HW:=Lib.hid (h.keep tw);obtain⟨Ae,ce,rfl,_,_⟩:=h.ents.form;obtain⟨Aa,ca,rfl,_,_⟩:=h.accs.form;obtain⟨As,cs,rfl,_,_⟩:=h.stakes.form;obtain⟨Ar,cr,rfl,_,_⟩:=h.rates.form;obtain⟨Al,cl,rfl,_,_⟩:=h.locks.form;obtain⟨An,cn,rfl,_,_⟩:=h.ent.row.form;clear h;obtain⟨g0,g1,g2,g3,g4,g5⟩:=hbB.f6;obtain⟨k0,k1,k2⟩:=hbC.f3;go_enter Tryz.func7,Tryz.ntmps7;go_wp2_with fail;generalize w.heap.size=z at *;refine HF.out.mono ?_;rintro _ w1 ⟨fw,rfl,hfw,t1⟩;clear HF k0 k1 k2 g0 g1 g2 g3 g4 g5 hW;have tt1:=tw.trans t1
 cases fw
 ·clear hfw;go_wp2_with fail;refine(z7v w1 (HTA.out w1 tt1)).mono ?_;rintro _ wz ⟨rfl,tz⟩;go_wp2;(try rw[Exit.noGoto_ret]);go_ret;exact⟨rfl,tt1.trans tz⟩
 obtain⟨hf26,hE6,hA9,hP3⟩:=hfw rfl;have hfew:=zwv hf26;have hB1:=hbB.keep t1 id;have hC1:=hbC.keep t1 id;have h1:=HW.out.keep t1;clear hbB hbC HW tw t1 hfw hf26;obtain⟨g0,g1,g2,g3,g4,g5⟩:=hB1.f6;go_wp2_with fail;refine(zwu h1 hfew h64).mono ?_;rintro _ w2 ⟨hsee,t2⟩;have tt2:=tt1.trans t2
 rcases hsee with⟨_,m,rfl,hm⟩|⟨hok,bv,bi,B,t,mr,mp,e',a',s',r',l',n',lv,fs,us',rfl,hV⟩
 ·have hm2:(m !=0)=true:=by simpa using hm
  clear g0 g1 g2 g3 g4 g5 hm;go_wp2_with fail;refine(z7v w2 (HTA.out w2 tt2)).mono ?_;rintro _ wz ⟨rfl,tz⟩;go_wp2;(try rw[Exit.noGoto_ret]);go_ret;exact⟨rfl,tt2.trans tz⟩
 have hC2:=hC1.keep t2 id;clear g0 g1 g2 g3 g4 g5 hB1 hC1 h1 tt1 t2;have hn:=zvc hfew;have hpl:=z34 hfew;have FACTS:=Lib.hid (show RuleFacts b from⟨hn,zxs hfew,ztj h64,by have:=hfew.rates;omega,(zec hok).1,by have:=hfew.accs;omega,hok⟩);have HOK:=Lib.hid hok;have HPL:=Lib.hid hpl;have HL65:=Lib.hid (show(zag b.accs).length≤65 from Nat.le_trans (z3x b.accs) hfew.accs);have HV:=Lib.hid (fun w' (t9:Tf w2 w')=>hV.keep t9);have HTW:=Lib.hid tt2;have HE6:=Lib.hid hE6;have HA9:=Lib.hid hA9;have HP3:=Lib.hid hP3;obtain⟨k0,k1,k2⟩:=hC2.f3;clear hfew h64 hok hpl hE6 hA9 hP3;have HTR:=Lib.hid (z8s hV FACTS.out HPL.out (HTA.out w2 tt2) HL65.out c1 c2 c3);have HRW:=Lib.hid (show z79 b c1 c2 c3=if why b c1 c2 c3=0 then(z6q b c1 c2).map (z7z b c2 c3)else[]from rfl);have HLW0:=Lib.hid (fun hy h9=>gap_law HOK.out (e:=c1) (p:=c2) (u:=c3) hy h9)
 have HPR:=Lib.hid (fun(hy:why b c1 c2 c3=0)=>show(∀q∈z6q b c1 c2,q.1<q.2)∧(z6q b c1 c2).length≤1600 from by
  have h0:=zyp.1 (show za3 (7,c1,1,c2,c3,0) b.ents.length b.accs.length=0 from hy);obtain⟨pn,rfl⟩:=Int.eq_ofNat_of_zero_le (show 0≤c2 by omega)
  exact⟨fun q hq=>(z6u HOK.out (p:=pn) (by omega) hq).1,z8r HOK.out (by omega)⟩)
 have HGW:=Lib.hid (fun q h9=>(z8g (b:=b) (p:=c2) (u:=c3) (q:=q) h9).1);have HG1:=Lib.hid (fun q=>show zz0 (z7z b c2 c3 q).2.2.1∧zz0 (z7z b c2 c3 q).2.2.2.1∧zz0 (z7z b c2 c3 q).2.2.2.2∧(z7z b c2 c3 q).1=q.1∧(z7z b c2 c3 q).2.1=q.2 from⟨z8k _ _,z8k _ _,z8k _ _,rfl,rfl⟩);have HCK:=Lib.hid (fun w' (t9:Tf w2 w')=>hC2.keep t9 id);generalize z79 b c1 c2 c3=RR at *;generalize why b c1 c2 c3=y at *;have t0:Tf w2 w2:=Tch.refl _ _;have hz2:=hC2.lt;clear hC2 hV tt2 HL65 HE6 HA9 HP3 hn HOK;go_wp2_with fail;refine HTR.out.mono ?_;rintro _ w3 ⟨v,rfl,hO⟩;have t3:=t0.trans hO.tch;obtain⟨A3,k3,rfl,_,_⟩:=hO.form;clear HTR t0 k0 k1 k2;by_cases hy:y=0
 rotate_left
 ·have hyb:(y !=0)=true:=by simpa using hy
  rw[if_neg hy]at HRW;have hrr:=HRW.out;subst hrr;have Tz:=HTW.out.trans t3;clear hy HRW HLW0 HPR HGW HG1 HCK hO HV t3;simp only[List.length_nil];go_wp2_with fail;refine(z7v _ (HTA.out _ Tz)).mono ?_;rintro _ wz ⟨rfl,tz⟩;go_wp2;(try rw[Exit.noGoto_ret]);go_ret;exact⟨rfl,Tz.trans tz⟩
 subst hy;rw[if_pos rfl]at HRW;obtain⟨hPT,hTl⟩:=HPR.out rfl;have HPT:=Lib.hid hPT;have HLW:=Lib.hid (HLW0.out (by first|rfl|trivial));clear HLW0
 obtain⟨GO,hGO⟩:∃GO:Int×Int→Int×Int×Vl×Vl×Vl,z7z b c2 c3=GO:=⟨_,rfl⟩
 rw[hGO]at HRW;simp only[hGO]at HLW HGW HG1;clear hGO HPR hPT;generalize z6q b c1 c2=L at *;have hrr:=HRW.out;subst hrr;have tB:=tal w3 (.cells #[.bool false,.slice none 0 0] 83);have bS:=Blk.new w3 83 #[.bool false,.slice none 0 0];have hr3:=Row.keepTo (P':=fun g=>g<w3.heap.size) (Row.keepTo (P':=fun g=>g<w3.heap.size) hO.row (Tch.refl (fun _=>False) _) (fun g hg _=>⟨id,hg⟩)) tB (fun g _ hg=>⟨id,hg⟩);have hyz:z+2≤w3.heap.size:=(HCK.out w3 t3).lt;have t4:=t3.trans tB;have HS3:=Lib.hid t3.size;have HM:=Lib.hid (show(L.map GO).length=L.length from List.length_map _);rw[HM.out];clear hO t3 tB HRW;go_wp2_with fail;generalize w3.alloc _=wS at *;generalize w3.heap.size=y at *;have HROW:=Lib.hid (fun wr (ht:Tch (fun g=>g=y) wS wr)=>Row.keepTo (P':=fun _=>True) hr3 ht (fun g _ hg=>⟨fun e=>by have e:g=y:=e;have hg:g<y:=hg;omega,trivial⟩));have HTQ:=Lib.hid (fun wr (ht:Tch (fun g=>g=y) wS wr)=>t4.trans' ht (fun i hi=>.inr (by have hi:i=y:=hi;have:=HS3.out;omega)));have HTW:=Lib.hid (fun wr (ht:Tch (fun g=>g=y) wS wr)=>HTW.out.trans (HTQ.out wr ht));clear hr3 t4;go_loopw [10] (fun i wr=>∃(j:Nat) (S:Int),j≤L.length∧i=.int .i64 j∧(∀q∈L.take j,(GO q).2.2.1.2=0∧(GO q).2.2.2.1.2=0∧(GO q).2.2.2.2.2=0)∧S=((L.take j).map fun q=>(GO q).2.2.2.2.1).sum∧S.natAbs≤j*9223372036854775808∧SumAt2 83 (z+1) y wr S∧Tch (fun g=>g=y) wS wr) (fun i _=>L.length-(intOf i).toNat)
 case atStart=>exact⟨0,0,Nat.zero_le _,rfl,(fun a ha=>by rw[List.take_zero]at ha;cases ha),rfl,by simp,SumAt2.zero bS,Tch.refl _ _⟩
 case round=>
  obtain⟨j,S,hj,rfl,hz,hS,hSb,hSM,ht⟩:=hrel;obtain⟨sg,D,nd,cd,hb,hbig⟩:=hSM;have HZ:=Lib.hid hz;have HS:=Lib.hid hS;have HSB:=Lib.hid hSb;have hj0:=znn j;have Tr:=HTW.out wr ht;clear hz hS hSb;by_cases hlt:j<L.length
  ·have hlt':(j:Int)<(L.length:Int):=by omega
   have hl9:=HROW.out wr ht;have hl9:zae z84 8 (fun _=>True) wr (.slice A3 (L.map GO).length k3) (L.map GO):=hl9;obtain⟨g,o9,rfl⟩:=hl9.head (by rw[HM.out];omega);have hq:∀k (hk:k<8) v,(z84 (GO L[j]))[k]?=some v→wr.cell? ⟨g,o9+j*8+k,none⟩=some v:=fun k hk v hv=>Row.elem z7y hl9 (i:=j) (by rw[HM.out];omega) hk (by rw[List.getElem_map];exact hv)
   have HTK:=Lib.hid (show L.take (j+1)=L.take j++[L[j]]from List.take_succ_eq_append_getElem hlt);have hlt1:=HPT.out L[j] (List.getElem_mem _);generalize L[j]=x at *;obtain⟨h64a,h64b,h64c,he1,he2⟩:=HG1.out x;have HGX:=Lib.hid (HGW.out x);generalize hvx:GO x=vx at *;have HEX:=Lib.hid hvx;obtain⟨x1,x2,⟨a1,b1⟩,⟨a2,b2⟩,⟨a3,b3⟩⟩:=vx;simp only at h64a h64b h64c he1 he2 HGX;unfold zz0 I64 at h64a h64b h64c;simp only at h64a h64b h64c;have h12:x1<x2:=by omega
   have q0:=hq 0 (by decide) _ rfl;have q1:=hq 1 (by decide) _ rfl;have q2:=hq 2 (by decide) _ rfl;have q3:=hq 3 (by decide) _ rfl;have q4:=hq 4 (by decide) _ rfl;have q5:=hq 5 (by decide) _ rfl;have q6:=hq 6 (by decide) _ rfl;have q7:=hq 7 (by decide) _ rfl;simp only[Nat.add_zero]at q0;have tG:=tal wr (.cells #[iV x1,iV x2,iV a1,iV b1,iV a2,iV b2,iV a3,iV b3] 99);have bG:=Blk.new wr 99 #[iV x1,iV x2,iV a1,iV b1,iV a2,iV b2,iV a3,iV b3];have hbG:=hb.keep tG id;have hbigG:=hbig.beside tG (fun _ _ h=>h.elim);have htG:=ht.trans (Exn.touch tG);have hyw:=hb.lt;obtain⟨n0,n1,n2,n3,n4,n5,n6,n7⟩:=bG.f8;clear hl9 hq hvx he1 he2 hlt1 hb hbig ht tG;have TrG:=HTW.out _ htG;clear Tr;by_cases hE1:b1=0
   rotate_left
   ·have hE1b:(b1 !=0)=true:=by simpa using hE1
    clear hE1;go_wp2_with fail;refine(z7v _ (HTA.out _ TrG)).mono ?_;rintro _ wz ⟨rfl,tz⟩;go_wp2;(try rw[Exit.noGoto_ret]);go_ret;exact⟨rfl,TrG.trans tz⟩
   by_cases hE2:b2=0
   rotate_left
   ·have hE2b:(b2 !=0)=true:=by simpa using hE2
    subst hE1;clear hE2;go_wp2_with fail;refine(z7v _ (HTA.out _ TrG)).mono ?_;rintro _ wz ⟨rfl,tz⟩;go_wp2;(try rw[Exit.noGoto_ret]);go_ret;exact⟨rfl,TrG.trans tz⟩
   by_cases hE3:b3=0
   rotate_left
   ·have hE3b:(b3 !=0)=true:=by simpa using hE3
    subst hE1;subst hE2;clear hE3;go_wp2_with fail;refine(z7v _ (HTA.out _ TrG)).mono ?_;rintro _ wz ⟨rfl,tz⟩;go_wp2;(try rw[Exit.noGoto_ret]);go_ret;exact⟨rfl,TrG.trans tz⟩
   subst hE1;subst hE2;subst hE3;obtain rfl:a3=a1+a2:=HGX.out ⟨rfl,rfl,rfl⟩;have hI:asInt (a1+a2)=.tuple #[iV (a1+a2),.bool true]:=by unfold asInt;rw[if_pos h64c]
   generalize hsum:a1+a2=a3 at *;have HSU:=Lib.hid hsum;have HII:=Lib.hid hI;have HO1:=Lib.hid (fun wa=>zft (B:=fun _=>True) (w:=wa) (x:=a1) h64a.1 h64a.2 (fun _ _=>trivial));have HO2:=Lib.hid (fun wa=>zft (B:=fun _=>True) (w:=wa) (x:=a2) h64b.1 h64b.2 (fun _ _=>trivial));have HF1:=Lib.hid (show(dg a1.natAbs).length≤50000 from z49 (by omega));have HF2:=Lib.hid (show(dg a2.natAbs).length≤50000 from z49 (by omega));have HF3:=Lib.hid (show(dg a3.natAbs).length≤50000 from z49 (by omega));have HNB:=Lib.hid (show(S+a3).natAbs≤(j+1)*9223372036854775808 by have h1:=h64c.1;have h2:=h64c.2;have:=HSB.out;omega);have H64:=Lib.hid h64c;clear hsum hI h64a h64b h64c HGX;go_wp2_with fail;generalize wr.alloc _=W5 at *;generalize wr.heap.size=v at *;have X0:=wc0 n2;have X1:=wc0 n4
   obtain⟨V1,hV1⟩:∃V:Value→World→Prop,V=fun u w'=>BigIs (fun _=>True) w' u a1:=⟨_,rfl⟩
   obtain⟨V2,hV2⟩:∃V:Value→World→Prop,V=fun u w'=>BigIs (fun _=>True) w' u a2:=⟨_,rfl⟩
   obtain⟨V3,hV3⟩:∃V:Value→World→Prop,V=fun u w'=>BigIs (fun _=>True) w' u a3:=⟨_,rfl⟩
   have HV1:=Lib.hid hV1;have HV2:=Lib.hid hV2;have HV3:=Lib.hid hV3;clear hV1 hV2 hV3 n0 n1 n2 n3 n4 n5 n6 n7 q0 q1 q2 q3 q4 q5 q6 q7;refine zai (fun _=>False) [] 14 [(3,.inr V1),(7,.inr V2),(8,.inr V3),(9,.inl (.tuple #[iV a3,.bool true]))] [] ?_ ?_
   ·rw[HV1.out,HV2.out,HV3.out];exact⟨fun _ _ _ hr h=>h.beside hr (fun _ _ h=>h.elim),fun _ _ _ hr h=>h.beside hr (fun _ _ h=>h.elim),fun _ _ _ hr h=>h.beside hr (fun _ _ h=>h.elim),trivial⟩
   intro bef hbef;have hb1:(bef.getD 8 0).testBit 3=true:=by rw[hbef];kernel_rfl
   have hb2:(bef.getD 8 0).testBit 7=true:=by rw[hbef];kernel_rfl
   have hb3:(bef.getD 9 0).testBit 8=true:=by rw[hbef];kernel_rfl
   clear hbef;iterate 3 (refine zbt ?_;(try simp only[zaw]))
   refine zaq (by rfl) (by rfl) (fun wx hr hf=>?_) (fun u1=>?_)
   ·refine zaa (d:=84) rfl (by simp) (fun K hK=>?_);go_step;refine(HO1.out wx).mono ?_;rintro _ wy ⟨u,rfl,hu,ty⟩;refine hK _ _ ⟨⟨?_,ty⟩,zaf⟩;rw[HV1.out];exact hu
   simp only[zaw];iterate 3 (refine zbt ?_;(try simp only[zaw]))
   refine zaq (by rfl) (by rfl) (fun wx hr hf=>?_) (fun u2=>?_)
   ·refine zaa (d:=88) rfl (by simp) (fun K hK=>?_);go_step;refine(HO2.out wx).mono ?_;rintro _ wy ⟨u,rfl,hu,ty⟩;refine hK _ _ ⟨⟨?_,ty⟩,zaf⟩;rw[HV2.out];exact hu
   simp only[zaw];refine zaq (by rfl) (by rfl) (fun wx hr hf=>?_) (fun u3=>?_)
   ·have e1:=hf (3,fun w'=>V1 u1 w') (by simp) hb1;have e2:=hf (7,fun w'=>V2 u2 w') (by simp) hb2;simp only at e1 e2;rw[HV1.out]at e1;rw[HV2.out]at e2;refine zaa (d:=89) rfl (by simp) (fun K hK=>?_);go_step;refine(zsy (B:=fun _=>True) e1 e2 HF1.out HF2.out (fun _ _=>trivial)).mono ?_;rintro _ wy ⟨u,rfl,hu,ty⟩;refine hK _ _ ⟨⟨?_,ty⟩,zaf⟩;rw[HV3.out,←HSU.out];exact hu
   simp only[zaw];refine zb3 (.tuple #[iV a3,.bool true]) (by rfl) (by rfl) (fun wx hr hf=>?_) ?_
   ·have e1:=hf (8,fun w'=>V3 u3 w') (by simp) hb3;simp only at e1;rw[HV3.out]at e1;have e2:=zq9 e1 HF3.out (fun _ _=>trivial);rw[HII.out]at e2;refine zaa (d:=90) rfl (by simp) (fun K hK=>?_);go_step;refine e2.mono ?_;rintro _ wy ⟨rfl,ty⟩;exact hK _ _ ⟨⟨rfl,ty⟩,zaf⟩
   simp only[zaw];iterate 4 (refine zbt ?_;(try simp only[zaw]))
   refine za6 ?_;intro we hr hp hap;have te:=(Tch.drew _ W5).trans hr;have bG6:=bG.keep te id;have hb6:=hbG.keep te id;have ht6:=htG.trans (Exn.touch te);have HB6:=Lib.hid (hbigG.beside te (fun _ _ h=>h.elim));obtain⟨n0,n1,n2,n3,n4,n5,n6,n7⟩:=bG6.f8;obtain⟨y0,y1⟩:=hb6.f2;have HYL:=Lib.hid hb6.lt;have HO3:=Lib.hid (fun wa (h9:we.heap.size≤wa.heap.size)=>zft (B:=fun g=>g≠z+1∧g≠y) (w:=wa) (x:=a3) H64.out.1 H64.out.2 (fun g hg=>by have:=HYL.out;omega));have HFS:=Lib.hid (show(dg S.natAbs).length≤50000 from z49 (Nat.le_trans HSB.out (Nat.mul_le_mul_right _ (by omega))));clear hap hp hr te hbG htG hbigG bG X0 X1 hb1 hb2 hb3 HV1 HV2 HV3 HO1 HO2 HF1 HF2 HII TrG;go_wp2_with fail;have X0:=wc0 y0;have X1:=wc0 y1;have X2:=wc0 n6;refine zai (fun _=>False) [] 5 [(4,.inr fun u w'=>BigIs (fun g=>g≠z+1∧g≠y) w' u a3)] [] ?_ ?_
   ·exact⟨fun u a b hr h=>h.beside hr (fun _ _ h=>h.elim),trivial⟩
   intro bef _;iterate 4 (refine zbt ?_;(try simp only[zaw]))
   refine zaq (by rfl) (by rfl) (fun wa hr hf=>?_) (fun dv=>?_)
   ·have hs9:=((Tch.drew (fun _=>False) we).trans hr).size;refine zaa (d:=113) rfl (by simp) (fun K hK=>?_);go_step;refine(HO3.out wa hs9).mono ?_;rintro _ wb ⟨v',rfl,ho,tb⟩;exact hK _ _ ⟨⟨ho,tb⟩,zaf⟩
   simp only[zaw];refine za6 ?_;intro wf hr hp hap;have hdv:=hp (4,fun w'=>BigIs (fun g=>g≠z+1∧g≠y) w' dv a3) (List.mem_cons_self ..);simp only at hdv;have te:=(Tch.drew _ we).trans hr;have HPL9:=Lib.hid (zsy (HB6.out.beside te (fun _ _ h=>h.elim)) hdv HFS.out HF3.out (fun g hg=>by have:=te.size;have:=HYL.out;omega));have hb8:=hb6.keep te id;have ht8:=ht6.trans (Exn.touch te);clear hap hp hr X0 X1 X2 y0 y1 hdv HO3 HB6 te n0 n1 n2 n3 n4 n5 n6 n7 hb6 ht6 bG6;go_wp2_with fail;refine HPL9.out.mono ?_;rintro _ wg ⟨v',rfl,hsm,tf⟩;obtain⟨sg2,D2,nd2,cd2,rfl⟩:=hsm.form2;have hb9:=hb8.keep tf id;have ht9:=ht8.trans (Exn.touch tf);have HSM:=Lib.hid hsm;clear HPL9 hb8 ht8 tf hsm;go_wp2_with (refine stK y #[.bool sg2,.slice D2 nd2 cd2] hb9 ?_);intro wh hbF tF;have HSA:=Lib.hid (show SumAt2 83 (z+1) y wh (S+a3)from⟨sg2,D2,nd2,cd2,hbF,HSM.out.beside tF (fun _ hg=>hg.2)⟩);have htF:=ht9.trans tF;clear hb9 ht9 hbF tF
   have HZN:=Lib.hid (show∀q∈L.take (j+1),(GO q).2.2.1.2=0∧(GO q).2.2.2.1.2=0∧(GO q).2.2.2.2.2=0 by
    rw[HTK.out];intro q hq;rcases List.mem_append.1 hq with h|h
    ·exact HZ.out q h
    ·obtain rfl:=List.mem_singleton.1 h;rw[HEX.out]
     exact⟨rfl,rfl,rfl⟩)
   have HSN:=Lib.hid (show S+a3=((L.take (j+1)).map fun q=>(GO q).2.2.2.2.1).sum by
    rw[HTK.out,List.map_append,List.sum_append,←HS.out]
    simp[HEX.out])
   go_wp2;go_roundw
   case rel=>exact⟨j+1,S+a3,by omega,by go_num,HZN.out,HSN.out,HNB.out,HSA.out,htF⟩
   case measure=>simp[intOf]<;>omega
  ·obtain rfl:j=L.length:=by omega
   have hlt':¬(L.length:Int)<(L.length:Int):=by omega
   have hz:=HZ.out;have hs:=HS.out;rw[List.take_length]at hz hs;have hval:=HLW.out hz;rw[←hs]at hval;have HVA:=Lib.hid hval;have HTR:=Lib.hid (HTQ.out wr ht);have HIN:=Lib.hid (zq9 hbig (z49 (Nat.le_trans HSB.out (Nat.mul_le_mul_right _ (by omega)))) (fun g hg=>by have:=hb.lt;have:=(HCK.out wr HTR.out).lt;omega));obtain⟨y0,y1⟩:=hb.f2;clear hz hs hval hb hbig ht HROW HTQ HTW HSB HS HZ HLW HGW HG1 HPT;unfold asInt at HIN;unfold zda at HVA;by_cases hS: -9223372036854775808≤S∧S≤9223372036854775807
   ·rw[if_pos hS]at HIN HVA;have hcmp:∀w':World,(binOp .eql 41 (.agg #[iV S,iV 0]) (.agg #[iV S,iV 0])).run Tryz.prog w'=.ok (.bool true) w':=fun w'=>by rw[zt8];simp
    clear hS;go_wp2_with fail;refine HIN.out.mono ?_;rintro _ wx ⟨rfl,tx⟩;have tX:=HTR.out.trans tx;obtain⟨k0,k1,k2⟩:=(HCK.out wx tX).f3;have Tx:=Tr.trans tx;clear HIN y0 y1 tx Tr;go_wp2_with fail;refine(z8z 6 c1 3 c2 c3 wx).mono ?_;rintro _ wp ⟨rfl,tp⟩;have HVL:=Lib.hid (z5q (HV.out wp (tX.trans tp)) FACTS.out HPL.out (HTA.out wp (Tx.trans tp)) 6 c1 3 c2 c3 0);rw[HVA.out]at HVL;have Tp:=Tx.trans tp;clear k0 k1 k2 tX tp Tx;go_wp2_with fail;refine HVL.out.mono ?_;rintro _ wy ⟨rfl,ty⟩;unfold vlV;have Tz:=(Tp.trans ty).trans (tal wy (.cells #[iV S,iV 0] 41));clear HVL Tp ty;go_wp2_with fail;refine(z7v _ (HTA.out _ Tz)).mono ?_;rintro _ wz ⟨rfl,tz⟩;go_wp2;(try rw[Exit.noGoto_ret]);go_ret;exact⟨rfl,Tz.trans tz⟩
   ·rw[if_neg hS]at HIN HVA;have hcmp:∀w':World,(binOp .eql 41 (.agg #[iV 0,iV 10]) (.agg #[iV 0,iV 10])).run Tryz.prog w'=.ok (.bool true) w':=fun w'=>by rw[zt8];simp
    clear hS;go_wp2_with fail;refine HIN.out.mono ?_;rintro _ wx ⟨rfl,tx⟩;have tX:=HTR.out.trans tx;obtain⟨k0,k1,k2⟩:=(HCK.out wx tX).f3;have Tx:=Tr.trans tx;clear HIN y0 y1 tx Tr;go_wp2_with fail;refine(z8z 6 c1 3 c2 c3 wx).mono ?_;rintro _ wp ⟨rfl,tp⟩;have HVL:=Lib.hid (z5q (HV.out wp (tX.trans tp)) FACTS.out HPL.out (HTA.out wp (Tx.trans tp)) 6 c1 3 c2 c3 0);rw[HVA.out]at HVL;have Tp:=Tx.trans tp;clear k0 k1 k2 tX tp Tx;go_wp2_with fail;refine HVL.out.mono ?_;rintro _ wy ⟨rfl,ty⟩;unfold vlV;have Tz:=(Tp.trans ty).trans (tal wy (.cells #[iV 0,iV 10] 41));clear HVL Tp ty;go_wp2_with fail;refine(z7v _ (HTA.out _ Tz)).mono ?_;rintro _ wz ⟨rfl,tz⟩;go_wp2;(try rw[Exit.noGoto_ret]);go_ret;exact⟨rfl,Tz.trans tz⟩
theorem z8m {w:World} {u v:Value} (hT:Tab64 0 w) (hu:∃b,BooksIs (fun _=>True) w u b∧Bks64 b) (hv:∃c:Int×Int×Int,v=.agg #[iV c.1,iV c.2.1,iV c.2.2]):
 Calls Tryz.prog 7 #[u,v] w fun x w'=>x=.returned (.bool true)∧Tf w w':=by
 obtain⟨b,hb,h64⟩:=hu;obtain⟨⟨c1,c2,c3⟩,rfl⟩:=hv;obtain⟨e,a,s,r,l,n,us,rfl,h⟩:=hb.at;exact z8l h h64 hT c1 c2 c3
