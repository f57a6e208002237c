/-
  Ratios that may be.
-/
import Derived.Test.YtoegobjnjljegaaGreatDoorTz
import Derived.Test.YtoegobjnjljegaaGreatDoorZ41
import Derived.Scope
import Derived.Test.YtoegobjnjljegaaGreatDoorZ27
set_option maxRecDepth 100000
set_option maxHeartbeats 12800000
namespace Go.Proofs.YtoegobjnjljegaaGreatDoor
open Go.RowKit Go.Gk
theorem zhm (r1 r2:Int) (w:World):
 Calls Tryz.prog 267 #[.agg #[iV r1,iV r2]] w fun e w'=>e=.returned (iV (if zb7 (r1,r2)=true then 0 else 11))∧Tf w w':=by
 by_cases h1:min r1 r2<1
 ·have HF:=Lib.hid (show(if zb7 (r1,r2)=true then(0:Int)else 11)=11 from if_neg (by unfold zb7;simp only[Bool.and_eq_true,decide_eq_true_eq];omega));rw[HF.out];have g1:decide (min r1 r2<1)=true:=decide_eq_true h1;clear HF h1;go_enter Tryz.func267,Tryz.ntmps267;go_wp2;go_ret;exact⟨rfl,Tch.alloc _ _ _⟩
 ·have g1:decide (min r1 r2<1)=false:=decide_eq_false h1;by_cases h2:max r1 r2>1000000000000
  ·have HF:=Lib.hid (show(if zb7 (r1,r2)=true then(0:Int)else 11)=11 from if_neg (by unfold zb7;simp only[Bool.and_eq_true,decide_eq_true_eq];omega));rw[HF.out];have g2:decide (1000000000000<max r1 r2)=true:=decide_eq_true h2;clear HF h1 h2;go_enter Tryz.func267,Tryz.ntmps267;go_wp2;go_ret;exact⟨rfl,Tch.alloc _ _ _⟩
  ·have HF:=Lib.hid (show(if zb7 (r1,r2)=true then(0:Int)else 11)=0 from if_pos (by unfold zb7;simp only[Bool.and_eq_true,decide_eq_true_eq];omega));rw[HF.out];have g2:decide (1000000000000<max r1 r2)=false:=decide_eq_false h2;clear HF h1 h2;go_enter Tryz.func267,Tryz.ntmps267;go_wp2;go_ret;exact⟨rfl,Tch.alloc _ _ _⟩
open Go.RowKit Go.Gk
theorem zi9 (r1 r2:Int) (w:World) (hT:Tab64 0 w):
 Calls Tryz.prog 268 #[.agg #[iV r1,iV r2]] w fun e w'=>e=.returned (.agg #[iV (nrm (r1,r2)).1,iV (nrm (r1,r2)).2])∧Tf w w':=by
 have ta:=tal w (.cells #[iV r1,iV r2] 44);have tb:=tal (w.alloc (.cells #[iV r1,iV r2] 44)) (.cells #[iV 0,iV 0] 44);have tw:=ta.trans tb;have bR:=(Blk.new w 44 #[iV r1,iV r2]).keep tb id;have bO:=Blk.new2 w (.cells #[iV r1,iV r2] 44) 44 #[iV 0,iV 0];have HC:=Lib.hid (fun w'=>zhm r1 r2 w');have HT:=Lib.hid (hT.keep tw);have hsz:((w.alloc (.cells #[iV r1,iV r2] 44)).alloc (.cells #[iV 0,iV 0] 44)).heap.size=w.heap.size+2:=by simp
 obtain⟨x0,x1⟩:=bR.f2;clear ta tb hT;by_cases hok:zb7 (r1,r2)=true
 ·rw[if_pos hok]at HC;obtain⟨h1,h2,h3,h4⟩:=zbp.1 hok;simp only at h1 h2 h3 h4
  obtain⟨n,rfl⟩:∃n:Nat,r1=(n:Int):=⟨r1.toNat,by omega⟩
  obtain⟨d,rfl⟩:∃d:Nat,r2=(d:Int):=⟨r2.toNat,by omega⟩
  rw[zr9 hok];have hG1:0<Nat.gcd n d:=Nat.gcd_pos_of_pos_left _ (by omega);have hG2:Nat.gcd n d≤n:=Nat.gcd_le_left _ (by omega);have HK:=Lib.hid (fun w' (t:Tab64 0 w')=>zve n d (by omega) (by omega) (by omega) (by omega) w' t);generalize Nat.gcd n d=G at *;have hn64:IntKind.u64.wrap (n:Int)=(n:Int):=by rw[IntKind.wrap_u64];omega
  have hd64:IntKind.u64.wrap (d:Int)=(d:Int):=by rw[IntKind.wrap_u64];omega
  have hg0:((G:Int)==0)=false:=by simp;omega
  have HQ1:=Lib.hid (show wrap64 ((n:Int)/(G:Int))=((n/G:Nat):Int) by
   have h9:n/G≤n:=Nat.div_le_self _ _;rw[←Int.natCast_ediv];generalize n/G=q at *
   unfold wrap64;omega)
  have HQ2:=Lib.hid (show wrap64 ((d:Int)/(G:Int))=((d/G:Nat):Int) by
   have h9:d/G≤d:=Nat.div_le_self _ _;rw[←Int.natCast_ediv];generalize d/G=q at *
   unfold wrap64;omega)
  generalize((n/G:Nat):Int)=q1 at *;generalize((d/G:Nat):Int)=q2 at *;clear hok;go_enter Tryz.func268,Tryz.ntmps268;go_wp2_with fail;generalize(w.alloc (.cells #[iV n,iV d] 44)).alloc _=W at *;generalize hzw:w.heap.size=z at *;have HZW:=Lib.hid hzw;clear hzw;refine(HC.out W).mono ?_;rintro _ w1 ⟨rfl,t1⟩;have bR1:=bR.keep t1 id;have bO1:=bO.keep t1 id;have T1:=tw.trans t1;obtain⟨y0,y1⟩:=bR1.f2;have HKW:=Lib.hid (HK.out w1 (HT.out.keep t1));clear HC x0 x1 bR bO HK HT tw t1;go_wp2_with fail;refine HKW.out.mono ?_;rintro _ _ ⟨rfl,rfl⟩;clear HKW y0 y1;obtain⟨y0,y1⟩:=bR1.w2;go_wp2_with fail;refine zai (fun _=>False) [] 9 [] [] ?_ ?_
  ·exact trivial
  intro bef _;iterate 9 (refine zbt ?_;(try simp only[zaw]))
  refine za6 ?_;rw[HQ1.out,HQ2.out];intro w2 hr hp9 hap;have t2:=(Tch.drew (fun _=>False) w1).trans hr;have bO2:=bO1.keep t2 id;have T2:=T1.trans t2;clear hap hp9 hr bR1 bO1 T1 t2 y0 y1 HQ1 HQ2 hn64 hd64 hg0 hsz;go_wp2_with (refine stH (z+1) #[iV q1,iV q2] bO2 ?_);intro w9 HBF HTF;clear bO2;go_wp2;(try simp only[Exit.inBlock,Exit.then]);(try rw[Exit.noGoto_ret]);refine zfe HBF.out ?_;exact⟨rfl,T2.trans' (F':=fun g=>g=z+1) HTF.out (fun i hi=>.inr (by have hi:i=z+1:=hi;have:=HZW.out;omega))⟩
 ·rw[if_neg hok]at HC;have HN:=Lib.hid (show nrm (r1,r2)=(0,0) by unfold nrm;rw[if_neg hok]);rw[HN.out];clear hok;simp only;go_enter Tryz.func268,Tryz.ntmps268;go_wp2_with fail;generalize(w.alloc (.cells #[iV r1,iV r2] 44)).alloc _=W at *;generalize hzw:w.heap.size=z at *;have HZW:=Lib.hid hzw;clear hzw;refine(HC.out W).mono ?_;rintro _ w1 ⟨rfl,t1⟩;have bO1:=bO.keep t1 id;have T1:=tw.trans t1;clear HC x0 x1 bR bO HT tw t1;go_wp2_with (refine stH (z+1) #[iV 0,iV 0] bO1 ?_);intro w9 HBF HTF;clear bO1;go_wp2;(try simp only[Exit.inBlock,Exit.then]);(try rw[Exit.noGoto_ret]);refine zfe HBF.out ?_;exact⟨rfl,T1.trans' (F':=fun g=>g=z+1) HTF.out (fun i hi=>.inr (by have hi:i=z+1:=hi;have:=HZW.out;omega))⟩
theorem zsa (r1 r2:Int) (w:World) (hT:Tab64 0 w):
 Calls Tryz.prog 190 #[.agg #[iV r1,iV r2]] w fun e w'=>e=.returned (.tuple #[.agg #[iV (zg9 (r1,r2)).1.1,iV (zg9 (r1,r2)).1.2],iV (zg9 (r1,r2)).2])∧Tf w w':=by
 have ta:=tal w (.cells #[iV r1,iV r2] 44);have tb:=tal (w.alloc (.cells #[iV r1,iV r2] 44)) (.cells #[iV 0,iV 0] 44);have tw:=ta.trans tb;have bR:=(Blk.new w 44 #[iV r1,iV r2]).keep tb id;have bO:=Blk.new2 w (.cells #[iV r1,iV r2] 44) 44 #[iV 0,iV 0];have HC:=Lib.hid (fun w'=>zhm r1 r2 w');have HT:=Lib.hid (hT.keep tw);obtain⟨x0,x1⟩:=bR.f2;have HN:=Lib.hid (fun w' (t:Tab64 0 w')=>zi9 r2 r1 w' t);have HIV:=Lib.hid (show zg9 (r1,r2)=if zb7 (r1,r2)=true then(nrm (r2,r1),0)else((0,0),11)from rfl);rw[HIV.out];generalize nrm (r2,r1)=N at *;obtain⟨n1,n2⟩:=N;clear ta tb hT HIV;by_cases hok:zb7 (r1,r2)=true
 ·rw[if_pos hok]at HC⊢;simp only at HN⊢;clear hok;go_enter Tryz.func190,Tryz.ntmps190;go_wp2_with fail;generalize(w.alloc (.cells #[iV r1,iV r2] 44)).alloc _=W at *;generalize hzw:w.heap.size=z at *;have HZW:=Lib.hid hzw;clear hzw;refine(HC.out W).mono ?_;rintro _ w1 ⟨rfl,t1⟩;have bR1:=bR.keep t1 id;have bO1:=bO.keep t1 id;have T1:=tw.trans t1;obtain⟨y0,y1⟩:=bR1.f2;have HN1:=Lib.hid (HN.out w1 (HT.out.keep t1));clear HC x0 x1 bR bO HT tw t1 HN;go_wp2_with fail;refine HN1.out.mono ?_;rintro _ w2 ⟨rfl,t2⟩;have bO2:=bO1.keep t2 id;have T2:=T1.trans t2;clear HN1 y0 y1 bR1 bO1 T1 t2;go_wp2_with (refine stH (z+1) #[iV n1,iV n2] bO2 ?_);intro w9 HBF HTF;clear bO2;go_wp2;(try simp only[exS]);refine zbi HBF.out ?_;exact⟨rfl,T2.trans' (F':=fun g=>g=z+1) HTF.out (fun i hi=>.inr (by have hi:i=z+1:=hi;have:=HZW.out;omega))⟩
 ·rw[if_neg hok]at HC⊢;simp only;clear hok;go_enter Tryz.func190,Tryz.ntmps190;go_wp2_with fail;generalize(w.alloc (.cells #[iV r1,iV r2] 44)).alloc _=W at *;generalize hzw:w.heap.size=z at *;have HZW:=Lib.hid hzw;clear hzw;refine(HC.out W).mono ?_;rintro _ w1 ⟨rfl,t1⟩;have bO1:=bO.keep t1 id;have T1:=tw.trans t1;clear HC x0 x1 bR bO HT tw t1 HN;go_wp2_with (refine stH (z+1) #[iV 0,iV 0] bO1 ?_);intro w9 HBF HTF;clear bO1;go_wp2;(try simp only[exS]);refine zbi HBF.out ?_;exact⟨rfl,T1.trans' (F':=fun g=>g=z+1) HTF.out (fun i hi=>.inr (by have hi:i=z+1:=hi;have:=HZW.out;omega))⟩
theorem zxv (a1 a2 b1 b2:Int) (w:World) (hT:Tab64 0 w):
 Calls Tryz.prog 191 #[.agg #[iV a1,iV a2],.agg #[iV b1,iV b2]] w fun e w'=>e=.returned (.tuple #[.agg #[iV (zck (a1,a2) (b1,b2)).1.1,iV (zck (a1,a2) (b1,b2)).1.2],iV (zck (a1,a2) (b1,b2)).2])∧Tf w w':=by
 have ta:=tal w (.cells #[iV a1,iV a2] 44);have tb:=tal (w.alloc (.cells #[iV a1,iV a2] 44)) (.cells #[iV b1,iV b2] 44);have tc:=tal ((w.alloc (.cells #[iV a1,iV a2] 44)).alloc (.cells #[iV b1,iV b2] 44)) (.cells #[iV 0,iV 0] 44);have tw:=(ta.trans tb).trans tc;have bA:=((Blk.new w 44 #[iV a1,iV a2]).keep tb id).keep tc id;have bB:=(Blk.new2 w (.cells #[iV a1,iV a2] 44) 44 #[iV b1,iV b2]).keep tc id;have bO:Blk (((w.alloc (.cells #[iV a1,iV a2] 44)).alloc (.cells #[iV b1,iV b2] 44)).alloc (.cells #[iV 0,iV 0] 44)) (w.heap.size+1+1) 44 #[iV 0,iV 0]:=by simpa using Blk.new ((w.alloc (.cells #[iV a1,iV a2] 44)).alloc (.cells #[iV b1,iV b2] 44)) 44 #[iV 0,iV 0]
 have HCA:=Lib.hid (fun w'=>zhm a1 a2 w');have HCB:=Lib.hid (fun w'=>zhm b1 b2 w');have HT:=Lib.hid (hT.keep tw);have HTZ:=Lib.hid (fun w' (t:Tf w w')=>hT.keep t);obtain⟨x0,x1⟩:=bA.f2;have HTO:=Lib.hid (show zck (a1,a2) (b1,b2)=if zb7 (a1,a2)=true∧zb7 (b1,b2)=true then(if(crs (a1,a2) (b1,b2)).1≤1000000000000∧(crs (a1,a2) (b1,b2)).2≤1000000000000 then(crs (a1,a2) (b1,b2),0)else((0,0),10))else((0,0),11)from rfl);rw[HTO.out];clear ta tb tc hT HTO;by_cases hA:zb7 (a1,a2)=true
 rotate_left
 ·rw[if_neg (fun h=>hA h.1)];rw[if_neg hA]at HCA;simp only;clear hA;go_enter Tryz.func191,Tryz.ntmps191;go_wp2_with fail;generalize((w.alloc (.cells #[iV a1,iV a2] 44)).alloc (.cells #[iV b1,iV b2] 44)).alloc _=W at *;generalize hzw:w.heap.size=z at *;have HZW:=Lib.hid hzw;clear hzw;refine(HCA.out W).mono ?_;rintro _ w1 ⟨rfl,t1⟩;have bA1:=bA.keep t1 id;have bB1:=bB.keep t1 id;have bO1:=bO.keep t1 id;have T1:=tw.trans t1;have HT1:=Lib.hid (HT.out.keep t1);clear HCA x0 x1 bA bB bO HT tw t1;go_wp2_with (refine stH (z+1+1) #[iV 0,iV 0] bO1 ?_);intro w9 HBF HTF;clear bO1;go_wp2;(try simp only[exS]);refine zbi HBF.out ?_;exact⟨rfl,T1.trans' (F':=fun g=>g=z+1+1) HTF.out (fun i hi=>.inr (by have hi:i=z+1+1:=hi;have:=HZW.out;omega))⟩
 rw[if_pos hA]at HCA;by_cases hB:zb7 (b1,b2)=true
 rotate_left
 ·rw[if_neg (fun h=>hB h.2)];rw[if_neg hB]at HCB;simp only;clear hA hB;go_enter Tryz.func191,Tryz.ntmps191;go_wp2_with fail;generalize((w.alloc (.cells #[iV a1,iV a2] 44)).alloc (.cells #[iV b1,iV b2] 44)).alloc _=W at *;generalize hzw:w.heap.size=z at *;have HZW:=Lib.hid hzw;clear hzw;refine(HCA.out W).mono ?_;rintro _ w1 ⟨rfl,t1⟩;have bA1:=bA.keep t1 id;have bB1:=bB.keep t1 id;have bO1:=bO.keep t1 id;have T1:=tw.trans t1;have HT1:=Lib.hid (HT.out.keep t1);clear HCA x0 x1 bA bB bO HT tw t1;obtain⟨p0,p1⟩:=bB1.f2;go_wp2_with fail;refine(HCB.out w1).mono ?_;rintro _ w2 ⟨rfl,t2⟩;have bA2:=bA1.keep t2 id;have bB2:=bB1.keep t2 id;have bO2:=bO1.keep t2 id;have T2:=T1.trans t2;have HT2:=Lib.hid (HT1.out.keep t2);clear HCB p0 p1 bA1 bB1 bO1 T1 HT1 t2;go_wp2_with (refine stH (z+1+1) #[iV 0,iV 0] bO2 ?_);intro w9 HBF HTF;clear bO2;go_wp2;(try simp only[exS]);refine zbi HBF.out ?_;exact⟨rfl,T2.trans' (F':=fun g=>g=z+1+1) HTF.out (fun i hi=>.inr (by have hi:i=z+1+1:=hi;have:=HZW.out;omega))⟩
 rw[if_pos hB]at HCB;rw[if_pos ⟨hA,hB⟩];have hokx:=zhx (zhl (zhx hA) (zhx hB));have hoky:=zhx (zhl (zhx hB) (zhx hA));have HNA:=Lib.hid (fun w' (t:Tab64 0 w')=>zi9 a1 a2 w' t);have HNB:=Lib.hid (fun w' (t:Tab64 0 w')=>zi9 b1 b2 w' t);have HNX:=Lib.hid (fun w' (t:Tab64 0 w')=>zi9 (nrm (a1,a2)).1 (nrm (b1,b2)).2 w' t);have HNY:=Lib.hid (fun w' (t:Tab64 0 w')=>zi9 (nrm (b1,b2)).1 (nrm (a1,a2)).2 w' t);unfold crs;generalize nrm (a1,a2)=NA at *;generalize nrm (b1,b2)=NB at *;obtain⟨n1,n2⟩:=NA;obtain⟨m1,m2⟩:=NB;simp only at hokx hoky HNX HNY HNA HNB⊢;generalize nrm (n1,m2)=NX at *;generalize nrm (m1,n2)=NY at *;obtain⟨x1,x2⟩:=NX;obtain⟨y1,y2⟩:=NY;simp only at HNX HNY⊢;obtain⟨e1,e2,e3,e4⟩:=zbp.1 hokx;obtain⟨f1,f2,f3,f4⟩:=zbp.1 hoky;simp only at e1 e2 e3 e4 f1 f2 f3 f4;have HM1:=Lib.hid (fun w'=>ztl x1 y1 (by omega) (by omega) w');have HM2:=Lib.hid (fun w'=>ztl x2 y2 (by omega) (by omega) w');have hP1:0<x1*y1:=Int.mul_pos (by omega) (by omega);have hP2:0<x2*y2:=Int.mul_pos (by omega) (by omega);generalize x1*y1=P1 at *;generalize x2*y2=P2 at *;have HI1:=Lib.hid (fun w'=>ztm P1 w');have HI2:=Lib.hid (fun w'=>ztm P2 w');have h10:(10:Int)≠0:=by decide
 have K1:P1≤1000000000000→zda P1=(P1,0):=fun h=>if_pos (by omega)
 have K2:P2≤1000000000000→zda P2=(P2,0):=fun h=>if_pos (by omega)
 have J1:zda P1=(P1,0)∨(zda P1=(0,10)∧¬P1≤1000000000000):=by
  by_cases h: -9223372036854775808≤P1∧P1≤9223372036854775807
  ·exact .inl (if_pos h)
  ·exact .inr ⟨if_neg h,by omega⟩
 have J2:zda P2=(P2,0)∨(zda P2=(0,10)∧¬P2≤1000000000000):=by
  by_cases h: -9223372036854775808≤P2∧P2≤9223372036854775807
  ·exact .inl (if_pos h)
  ·exact .inr ⟨if_neg h,by omega⟩
 have HJ1:=Lib.hid J1;have HJ2:=Lib.hid J2;have HP1:=Lib.hid hP1;have HP2:=Lib.hid hP2;clear hA hB hokx hoky e1 e2 e3 e4 f1 f2 f3 f4 K1 K2 J1 J2 h10 hP1 hP2;have HQ:Hid (∃t1 c1 t2 c2:Int,zda P1=(t1,c1)∧zda P2=(t2,c2)):=Lib.hid ⟨_,_,_,_,rfl,rfl⟩;obtain⟨t1',c1,t2',c2,hq1,hq2⟩:=HQ.out;rw[hq1]at HI1 HJ1;rw[hq2]at HI2 HJ2;clear HQ hq1 hq2;simp only at HI1 HI2;generalize hAV:(if P1≤1000000000000∧P2≤1000000000000 then(((P1,P2),(0:Int)):(Int×Int)×Int)else((0,0),10))=AV at *;have HAV:=Lib.hid hAV;clear hAV;obtain⟨⟨v1,v2⟩,v3⟩:=AV;simp only;go_enter Tryz.func191,Tryz.ntmps191;go_wp2_with fail;generalize((w.alloc (.cells #[iV a1,iV a2] 44)).alloc (.cells #[iV b1,iV b2] 44)).alloc _=W at *;generalize hzw:w.heap.size=z at *;have HZW:=Lib.hid hzw;clear hzw;refine(HCA.out W).mono ?_;rintro _ w1 ⟨rfl,t1⟩;have bA1:=bA.keep t1 id;have bB1:=bB.keep t1 id;have bO1:=bO.keep t1 id;have T1:=tw.trans t1;have HT1:=Lib.hid (HT.out.keep t1);clear HCA x0 x1 bA bB bO HT tw t1;obtain⟨p0,p1⟩:=bB1.f2;go_wp2_with fail;refine(HCB.out w1).mono ?_;rintro _ w2 ⟨rfl,t2⟩;have bA2:=bA1.keep t2 id;have bB2:=bB1.keep t2 id;have bO2:=bO1.keep t2 id;have T2:=T1.trans t2;have HT2:=Lib.hid (HT1.out.keep t2);clear HCB p0 p1 bA1 bB1 bO1 T1 HT1 t2;have T2':=Lib.hid T2;obtain⟨u0,u1⟩:=bA2.w2;obtain⟨v0,v1⟩:=bB2.w2;have HNA2:=Lib.hid (fun w' (t:Tf w2 w')=>HNA.out w' (HT2.out.keep t));go_wp2_with fail;refine zai (fun _=>False) [] 3 [(1,.inl (.agg #[iV n1,iV n2]))] [] ?_ ?_
 ·exact trivial
 intro bef _;(refine zbt ?_;(try simp only[zaw]));refine zb3 (.agg #[iV n1,iV n2]) (by rfl) (by rfl) (fun wa hr hf=>?_) ?_
 ·refine zaa (d:=22) rfl (by simp) (fun K hK=>?_);go_step;refine(HNA2.out wa ((Tch.drew _ w2).trans hr)).mono ?_;rintro _ wb ⟨rfl,t3⟩;exact hK _ _ ⟨⟨rfl,t3⟩,zaf⟩
 simp only[zaw];(refine zbt ?_;(try simp only[zaw]));refine za6 ?_;intro w3 hr hp9 hap;have t3:=(Tch.drew (fun _=>False) w2).trans hr;have bA3:=bA2.keep t3 id;have bB3:=bB2.keep t3 id;have bO3:=bO2.keep t3 id;have T3:=T2'.out.trans t3;have HT3:=Lib.hid (HT2.out.keep t3);have HNB3:=Lib.hid (HNB.out w3 HT3.out);clear hap hp9 hr u0 u1 v0 v1 HNA2 bA2 bB2 bO2 T2 T2' HT2 t3 HNA HNB;go_wp2_with fail;refine HNB3.out.mono ?_;rintro _ w4 ⟨rfl,t4⟩;have bA4:=bA3.keep t4 id;have bB4:=bB3.keep t4 id;have bO4:=bO3.keep t4 id;have T4:=T3.trans t4;have HT4:=Lib.hid (HT3.out.keep t4);clear HNB3 bA3 bB3 bO3 T3 HT3 t4;go_wp2_with (refine stK z #[iV n1,iV n2] bA4 ?_);intro w5 bA5 ts5;have bB5:=bB4.keep ts5 (by omega);have bO5:=bO4.keep ts5 (by omega);have hz5:z+2<w5.heap.size:=bO5.lt;have T5:=T4.trans' ts5 (fun i hi=>.inr (by have hi:i=z:=hi;have:=HZW.out;omega));have HT5:=Lib.hid (HTZ.out w5 T5);clear bA4 bB4 bO4 T4 HT4 ts5;go_wp2_with (refine stK (z+1) #[iV m1,iV m2] bB5 ?_);intro w6 bB6 ts6;have bA6:=bA5.keep ts6 (by omega);have bO6:=bO5.keep ts6 (by omega);have T6:=T5.trans' ts6 (fun i hi=>.inr (by have hi:i=z+1:=hi;have:=HZW.out;omega));clear bA5 bB5 bO5 T5 HT5 ts6;obtain⟨u0,u1⟩:=bA6.w2;obtain⟨v0,v1⟩:=bB6.w2;have HX6:=Lib.hid (fun w' (t:Tf w6 w')=>HNX.out w' (HTZ.out w' (T6.trans t)));have HY6:=Lib.hid (fun w' (t:Tf w6 w')=>HNY.out w' (HTZ.out w' (T6.trans t)));go_wp2_with fail;refine zai (fun _=>False) [] 14 [(5,.inl (.agg #[iV x1,iV x2])),(11,.inl (.agg #[iV y1,iV y2])),(12,.inr fun u w'=>∃g,u=.pointer (some ⟨g,0,none⟩)∧w6.heap.size≤g∧Blk w' g 44 #[iV 0,iV 0]),(13,.inr fun u w'=>∃g,u=.pointer (some ⟨g,0,none⟩)∧w6.heap.size≤g∧Blk w' g 44 #[iV 0,iV 0])] [12,13] ?_ ?_
 ·exact⟨fun u a b hr ⟨g,e,h1,h2⟩=>⟨g,e,h1,h2.keep hr id⟩,fun u a b hr ⟨g,e,h1,h2⟩=>⟨g,e,h1,h2.keep hr id⟩,trivial⟩
 intro bef _;iterate 5 (refine zbt ?_;(try simp only[zaw]))
 refine zb3 (.agg #[iV x1,iV x2]) (by rfl) (by rfl) (fun wa hr hf=>?_) ?_
 ·refine zaa (d:=30) rfl (by simp) (fun K hK=>?_);go_step;refine(HX6.out wa ((Tch.drew _ w6).trans hr)).mono ?_;rintro _ wb ⟨rfl,t3⟩;exact hK _ _ ⟨⟨rfl,t3⟩,zaf⟩
 simp only[zaw];iterate 5 (refine zbt ?_;(try simp only[zaw]))
 refine zb3 (.agg #[iV y1,iV y2]) (by rfl) (by rfl) (fun wa hr hf=>?_) ?_
 ·refine zaa (d:=36) rfl (by simp) (fun K hK=>?_);go_step;refine(HY6.out wa ((Tch.drew _ w6).trans hr)).mono ?_;rintro _ wb ⟨rfl,t3⟩;exact hK _ _ ⟨⟨rfl,t3⟩,zaf⟩
 simp only[zaw];refine zaq (by rfl) (by rfl) (fun wa hr hf=>?_) (fun d1=>?_)
 ·refine zaa (d:=6) rfl (by simp) (fun K hK=>?_);go_step;refine hK _ _ ⟨⟨⟨_,rfl,((Tch.drew (fun _=>False) w6).trans hr).size,Blk.new _ _ _⟩,Tch.alloc _ _ _⟩,fun _ g hg=>?_⟩;injection hg with hg;subst hg;exact⟨Nat.le_refl _,by simp⟩
 simp only[zaw];refine zaq (by rfl) (by rfl) (fun wa hr hf=>?_) (fun d2=>?_)
 ·refine zaa (d:=7) rfl (by simp) (fun K hK=>?_);go_step;refine hK _ _ ⟨⟨⟨_,rfl,((Tch.drew (fun _=>False) w6).trans hr).size,Blk.new _ _ _⟩,Tch.alloc _ _ _⟩,fun _ g hg=>?_⟩;injection hg with hg;subst hg;exact⟨Nat.le_refl _,by simp⟩
 simp only[zaw];refine za6 ?_;intro w7 hr hp9 hap;have t7:=(Tch.drew (fun _=>False) w6).trans hr;obtain⟨g2,rfl,hg2,hG2⟩:=hp9 _ (List.mem_cons_self ..);obtain⟨g1,rfl,hg1,hG1⟩:=hp9 _ (List.mem_cons_of_mem _ (List.mem_cons_self ..));have hne:g2≠g1:=fun e=>hap 12 13 6 7 (by decide) (by decide) rfl rfl (by decide) rfl rfl g1 rfl (by rw[←e];rfl)
 have bO7:=bO6.keep t7 id;have T7:=T6.trans t7;have hz6:z+2<w6.heap.size:=bO6.lt;clear hap hp9 hr u0 u1 v0 v1 HX6 HY6 bA6 bB6 bO6 t7 HNX HNY;go_wp2_with (refine stK g1 #[iV x1,iV x2] hG1 ?_);intro w8 bX8 ts8;have bY8:=hG2.keep ts8 hne;have bO8:=bO7.keep ts8 (by omega);have T8:=T7.trans' ts8 (fun i hi=>.inr (by have hi:i=g1:=hi;have:=T6.size;omega));clear hG1 hG2 bO7 T7 ts8;go_wp2_with (refine stK g2 #[iV y1,iV y2] bY8 ?_);intro w9 bY9 ts9;have bX9:=bX8.keep ts9 (fun e=>hne e.symm);have bO9:=bO8.keep ts9 (by omega);have T9:=T8.trans' ts9 (fun i hi=>.inr (by have hi:i=g2:=hi;have:=T6.size;omega));obtain⟨p0,p1⟩:=bX9.f2;obtain⟨q0,q1⟩:=bY9.f2;clear bX8 bY8 bO8 T8 ts9 hne hg1 hg2 T6;go_wp2_with fail;refine(HM1.out w9).mono ?_;rintro _ wa ⟨rfl,ta⟩;go_wp2_with fail;refine(HI1.out wa).mono ?_;rintro _ wb ⟨rfl,tb⟩;have tab:=ta.trans tb;have bXb:=bX9.keep tab id;have bYb:=bY9.keep tab id;have bOb:=bO9.keep tab id;have Tb:=T9.trans tab;obtain⟨r0,r1⟩:=bXb.f2;obtain⟨s0,s1⟩:=bYb.f2;clear p0 p1 q0 q1 bX9 bY9 bO9 T9 ta tb tab HM1 HI1;go_wp2_with fail;refine(HM2.out wb).mono ?_;rintro _ wc ⟨rfl,tc⟩;go_wp2_with fail;refine(HI2.out wc).mono ?_;rintro _ wd ⟨rfl,td⟩;have tcd:=tc.trans td;have bOd:=bOb.keep tcd id;have Td:=Tb.trans tcd;clear r0 r1 s0 s1 bXb bYb bOb Tb tc td tcd HM2 HI2
 rcases HJ1.out with h|⟨h,hb⟩;rotate_left
 ·injection h with h1 h2;subst h1;subst h2;have hav:=HAV.out;rw[if_neg (fun h=>by omega)]at hav;injection hav with h1 h2;injection h1 with h0 h1;subst h0;subst h1;subst h2;clear hb HAV HJ1 HJ2 HP1 HP2;go_wp2_with (refine stH (z+1+1) #[iV 0,iV 0] bOd ?_);intro w9 HBF HTF;clear bOd;go_wp2;(try simp only[exS]);refine zbi HBF.out ?_;exact⟨rfl,Td.trans' (F':=fun g=>g=z+1+1) HTF.out (fun i hi=>.inr (by have hi:i=z+1+1:=hi;have:=HZW.out;omega))⟩
 injection h with h1 h2;subst h1;subst h2
 rcases HJ2.out with h|⟨h,hb⟩;rotate_left
 ·injection h with h1 h2;subst h1;subst h2;have hav:=HAV.out;rw[if_neg (fun h=>by omega)]at hav;injection hav with h1 h2;injection h1 with h0 h1;subst h0;subst h1;subst h2;clear hb HAV HJ1 HJ2 HP1 HP2;go_wp2_with (refine stH (z+1+1) #[iV 0,iV 0] bOd ?_);intro w9 HBF HTF;clear bOd;go_wp2;(try simp only[exS]);refine zbi HBF.out ?_;exact⟨rfl,Td.trans' (F':=fun g=>g=z+1+1) HTF.out (fun i hi=>.inr (by have hi:i=z+1+1:=hi;have:=HZW.out;omega))⟩
 injection h with h1 h2;subst h1;subst h2;by_cases hm:t1'≤1000000000000∧t2'≤1000000000000
 ·have hav:=HAV.out;rw[if_pos hm]at hav;injection hav with h1 h2;injection h1 with h0 h1;subst h0;subst h1;subst h2;have g2:decide (1000000000000<max t1' t2')=false:=decide_eq_false (by omega);clear hm HAV HJ1 HJ2 HP1 HP2;go_wp2_with (refine stH (z+1+1) #[iV t1',iV t2'] bOd ?_);intro w9 HBF HTF;clear bOd;go_wp2;(try simp only[exS]);refine zbi HBF.out ?_;exact⟨rfl,Td.trans' (F':=fun g=>g=z+1+1) HTF.out (fun i hi=>.inr (by have hi:i=z+1+1:=hi;have:=HZW.out;omega))⟩
 ·have hav:=HAV.out;rw[if_neg hm]at hav;injection hav with h1 h2;injection h1 with h0 h1;subst h0;subst h1;subst h2;have g2:decide (1000000000000<max t1' t2')=true:=decide_eq_true (by omega);clear hm HAV HJ1 HJ2 HP1 HP2;go_wp2_with (refine stH (z+1+1) #[iV 0,iV 0] bOd ?_);intro w9 HBF HTF;clear bOd;go_wp2;(try simp only[exS]);refine zbi HBF.out ?_;exact⟨rfl,Td.trans' (F':=fun g=>g=z+1+1) HTF.out (fun i hi=>.inr (by have hi:i=z+1+1:=hi;have:=HZW.out;omega))⟩
open Go.RowKit Go.Gk
theorem eqRate (a0:Int) (a1:Int) (a2:Int) (a3:Int) (a4:Int) (a5:Int) (b0:Int) (b1:Int) (b2:Int) (b3:Int) (b4:Int) (b5:Int) (w:World):(Op.equalIn 10000 115 (.agg #[iV a0,iV a1,iV a2,iV a3,iV a4,iV a5]) (.agg #[iV b0,iV b1,iV b2,iV b3,iV b4,iV b5])).run Tryz.prog w=.ok (a0==b0&&a1==b1&&a2==b2&&a3==b3&&(a4==b4&&a5==b5)) w:=by
 have u_int:=Tryz.underlying3;have a_int:=Tryz.isAgg3;have z_int:=Tryz.sizeOf3;have hS:Tryz.prog.underlying 115=some (.struct (Tryz.prog.fieldsOf 115)):=by kernel_rfl
 have hp:Tryz.prog.stoodInHeld 115=false:=by kernel_rfl
 rw[show(10000:Nat)=9999+1 from rfl,run_equalIn_agg w 9999 115 _ _ hS hp];simp only[Program.fieldsOf,Tryz.underlying115];go_simp
 by_cases h0:a0=b0<;>by_cases h1:a1=b1<;>by_cases h2:a2=b2<;>by_cases h3:a3=b3<;>by_cases h4:a4=b4<;>by_cases h5:a5=b5<;>simp[h0,h1,h2,h3,h4,h5]
theorem zsb (a0:Int) (a1:Int) (a2:Int) (a3:Int) (a4:Int) (a5:Int) (b0:Int) (b1:Int) (b2:Int) (b3:Int) (b4:Int) (b5:Int) (w:World):(binOp .eql 115 (.agg #[iV a0,iV a1,iV a2,iV a3,iV a4,iV a5]) (.agg #[iV b0,iV b1,iV b2,iV b3,iV b4,iV b5])).run Tryz.prog w=.ok (.bool (a0==b0&&a1==b1&&a2==b2&&a3==b3&&(a4==b4&&a5==b5))) w:=by
 rw[run_eql_struct,eqRate];rfl
theorem zma (r1 r2 r3 r4 r5 r6:Int) (w:World):
 Calls Tryz.prog 304 #[.agg #[iV r1,iV r2,iV r3,iV r4,iV r5,iV r6]] w fun e w'=>e=.returned (.agg #[iV r1,iV r2,iV r3,iV r4,iV 0,iV 0])∧Tf w w':=by
 go_enter Tryz.func304,Tryz.ntmps304;go_wp2_with fail;(try simp only[Exit.inBlock,Exit.then]);(try rw[Exit.noGoto_ret]);refine zfe (Blk.new2 w (.cells #[iV r1,iV r2,iV r3,iV r4,iV 0,iV 0] 115) 115 #[iV r1,iV r2,iV r3,iV r4,iV 0,iV 0]) ?_;exact⟨rfl,(Tch.alloc _ _ _).trans (Tch.alloc _ _ _)⟩
theorem zqh {w:World} {v:Value} {l:List Rt6} (hl:zae za2 6 (fun _=>True) w v l) (hn:l.length≤1000000) (k1 k2 k3 k4 k5 k6:Int):
 Calls Tryz.prog 266 #[v,.agg #[iV k1,iV k2,iV k3,iV k4,iV k5,iV k6]] w fun e w'=>e=.returned (iV ((zha l (k1,k2,k3,k4) l.length:Int)-1))∧Tf w w':=by
 have ta:=tal w (.cells #[iV k1,iV k2,iV k3,iV k4,iV k5,iV k6] 115);have bK:=Blk.new w 115 #[iV k1,iV k2,iV k3,iV k4,iV k5,iV k6];obtain⟨A,c,rfl,hc1,hc2⟩:=hl.form;have HL:=Lib.hid hl;have HK:=Lib.hid (fun w'=>zma k1 k2 k3 k4 k5 k6 w');obtain⟨x0,x1,x2,x3,x4,x5⟩:=bK.f6;clear hl
 obtain⟨ANS,hANS⟩:∃n,zha l (k1,k2,k3,k4) l.length=n:=⟨_,rfl⟩
 have HANS:=Lib.hid hANS;rw[hANS];clear hANS;go_enter Tryz.func266,Tryz.ntmps266;go_wp2_with fail;generalize w.alloc _=W at *;generalize hzw:w.heap.size=z at *;have HZW:=Lib.hid hzw;clear hzw;refine(HK.out W).mono ?_;rintro _ w1 ⟨rfl,t1⟩;have bK1:=bK.keep t1 id;have T1:=ta.trans t1;have hz1:=bK1.lt;clear HK x0 x1 x2 x3 x4 x5 bK ta t1;go_wp2_with (refine stK z #[iV k1,iV k2,iV k3,iV k4,iV 0,iV 0] bK1 ?_);intro w2 bK2 ts2;have T2:=T1.trans' ts2 (fun i hi=>.inr (by have hi:i=z:=hi;have:=HZW.out;omega));have hl3:=HL.out.keep T2;have HKR:=Lib.hid (fun(r1 r2 r3 r4 r5 r6:Int) w'=>zma r1 r2 r3 r4 r5 r6 w');have hw64:wrap64 ((l.length:Int)-1)=(l.length:Int)-1:=by unfold wrap64;omega
 clear bK1 T1 ts2 HL;go_wp2_with fail;go_loopw [5] (fun i wr=>∃j:Nat,j≤l.length∧i=.int .i64 ((j:Int)-1)∧zha l (k1,k2,k3,k4) j=ANS∧Tf w2 wr) (fun i _=>((intOf i)+1).toNat)
 case atStart=>exact⟨l.length,Nat.le_refl _,rfl,HANS.out,Tch.refl _ _⟩
 case round=>
  obtain⟨j,hj,rfl,ha,ht⟩:=hrel;have HA:=Lib.hid ha;clear ha
  cases j with
  |zero=>
   have hlt:¬(0:Int)≤((0:Nat):Int)-1:=by omega
   have e0:ANS=0:=by rw[←HA.out];rfl
   subst e0;clear HA HKR hl3 bK2;go_wp2;go_ret;exact⟨rfl,T2.trans ht⟩
  |succ j=>
   have hjj:(((j+1:Nat):Int)-1)=(j:Int):=by omega
   rw[hjj];have hj0:=znn j;have hj1:(j:Int)<(l.length:Int):=by omega
   have hlr:=hl3.keep ht;obtain⟨g,oo,rfl⟩:=hlr.head (by omega);obtain⟨q0,q1,q2,q3,q4,q5⟩:=Row.six hlr zd3 (show j<l.length by omega) rfl;have hbr:=bK2.keep ht id;have HGE:=Lib.hid (show l[j]?=some l[j]from List.getElem?_eq_getElem (by omega));generalize l[j]=r at *;obtain⟨r1,r2,r3,r4,r5,r6⟩:=r;simp only at q0 q1 q2 q3 q4 q5;have HKJ:=Lib.hid (fun w'=>HKR.out r1 r2 r3 r4 r5 r6 w');have hcmp:=fun(w':World)=>zsb r1 r2 r3 r4 0 0 k1 k2 k3 k4 0 0 w'
   have y0:=wc0 q0;have y1:=wc0 q1;have y2:=wc0 q2;have y3:=wc0 q3;have y4:=wc0 q4;have y5:=wc0 q5;obtain⟨z0,z1,z2,z3,z4,z5⟩:=hbr.w6;have HAT:=Lib.hid (show zha l (k1,k2,k3,k4) (j+1)=if(l[j]?.map rkey)=some (k1,k2,k3,k4)then j+1 else zha l (k1,k2,k3,k4) j from rfl);clear q0 q1 q2 q3 q4 q5 HKR;go_wp2_with fail;refine zai (fun _=>False) [] 6 [(4,.inl (.agg #[iV r1,iV r2,iV r3,iV r4,iV 0,iV 0]))] [] ?_ ?_
   ·exact trivial
   intro bef _;iterate 4 (refine zbt ?_;(try simp only[zaw]))
   refine zb3 (.agg #[iV r1,iV r2,iV r3,iV r4,iV 0,iV 0]) (by rfl) (by rfl) (fun wa hr hf=>?_) ?_
   ·refine zaa (d:=19) rfl (by simp) (fun K hK=>?_);go_step;refine(HKJ.out wa).mono ?_;rintro _ wb ⟨rfl,t3⟩;exact hK _ _ ⟨⟨rfl,t3⟩,zaf⟩
   simp only[zaw];(refine zbt ?_;(try simp only[zaw]));refine za6 ?_;intro w3 hr hp9 hap;have t3:=(Tch.drew (fun _=>False) wr).trans hr;have ht3:=ht.trans t3;clear hap hp9 hr y0 y1 y2 y3 y4 y5 z0 z1 z2 z3 z4 z5 HKJ t3 ht hbr hlr;have hA:=HA.out;rw[HAT.out,HGE.out]at hA;simp only[Option.map_some,Option.some.injEq,rkey]at hA;by_cases he:(r1,r2,r3,r4)=(k1,k2,k3,k4)
   ·rw[if_pos he]at hA;injection he with e1 e2;injection e2 with e2 e3;injection e3 with e3 e4;subst e1;subst e2;subst e3;subst e4;have HFIN:=Lib.hid (show(j:Int)=(ANS:Int)-1 by omega);simp only[beq_self_eq_true,Bool.and_self]at hcmp;clear hA HA HAT HGE;go_wp2;go_ret;rw[←HFIN.out];exact⟨rfl,T2.trans ht3⟩
   ·rw[if_neg he]at hA
    have hb:(r1==k1&&r2==k2&&r3==k3&&r4==k4&&((0:Int)==0&&(0:Int)==0))=false:=by
     simp only[Bool.and_eq_false_iff,beq_eq_false_iff_ne,ne_eq,beq_self_eq_true,Bool.true_eq_false,or_false];simp only[Prod.mk.injEq]at he;by_cases c1:r1=k1<;>by_cases c2:r2=k2<;>by_cases c3:r3=k3<;>by_cases c4:r4=k4<;>simp_all
    have HLA:=Lib.hid hA;have hwj:wrap64 ((j:Int)-1)=(j:Int)-1:=by unfold wrap64;omega
    simp only[hb]at hcmp;clear hA HA HAT HGE he hb;go_wp2;go_roundw
    case rel=>exact⟨j,by omega,by go_num,HLA.out,ht3⟩
    case measure=>simp[intOf]<;>omega
theorem zkl {w:World} {v:Value} {l:List Rt6} (hl:zae za2 6 (fun _=>True) w v l) (hn:l.length≤1000000) (k1 k2 k3 k4 k5 k6:Int):
 Calls Tryz.prog 189 #[v,.agg #[iV k1,iV k2,iV k3,iV k4,iV k5,iV k6]] w fun e w'=>e=.returned (.tuple #[.agg #[iV (zbl l (k1,k2,k3,k4)).1.1,iV (zbl l (k1,k2,k3,k4)).1.2],.bool (zbl l (k1,k2,k3,k4)).2])∧Tf w w':=by
 have ta:=tal w (.cells #[iV k1,iV k2,iV k3,iV k4,iV k5,iV k6] 115);have tb:=tal (w.alloc (.cells #[iV k1,iV k2,iV k3,iV k4,iV k5,iV k6] 115)) (.cells #[iV 0,iV 0] 44);have tw:=ta.trans tb;have bK:=(Blk.new w 115 #[iV k1,iV k2,iV k3,iV k4,iV k5,iV k6]).keep tb id;have bO:=Blk.new2 w (.cells #[iV k1,iV k2,iV k3,iV k4,iV k5,iV k6] 115) 44 #[iV 0,iV 0];have HLA:=Lib.hid (zqh (hl.keep tw) hn k1 k2 k3 k4 k5 k6);have HAR:=Lib.hid (znp l (k1,k2,k3,k4) l.length (Nat.le_refl _));rw[List.take_length]at HAR;obtain⟨A,cc,rfl,hc1,hc2⟩:=hl.form;have HL:=Lib.hid hl;have HFI:=Lib.hid (show zbl l (k1,k2,k3,k4)=match zgf l (k1,k2,k3,k4)with |some r=>(r,true)|none=>((0,0),false)from rfl);generalize zha l (k1,k2,k3,k4) l.length=at0 at *;generalize zbl l (k1,k2,k3,k4)=F at *;obtain⟨x0,x1,x2,x3,x4,x5⟩:=bK.f6;clear ta tb hl
 cases at0 with
 |zero=>
  have hF9:=HFI.out;rw[HAR.out.2.1 rfl]at hF9;simp only at hF9;subst hF9;simp only;have hm1:((0:Nat):Int)-1<0:=by omega
  clear HFI HAR HL;go_enter Tryz.func189,Tryz.ntmps189;go_wp2_with fail;generalize(w.alloc (.cells #[iV k1,iV k2,iV k3,iV k4,iV k5,iV k6] 115)).alloc _=W at *;generalize hzw:w.heap.size=z at *;have HZW:=Lib.hid hzw;clear hzw;refine HLA.out.mono ?_;rintro _ w1 ⟨rfl,t1⟩;have bO1:=bO.keep t1 id;have T1:=tw.trans t1;clear HLA x0 x1 x2 x3 x4 x5 bK bO tw t1;go_wp2_with (refine stH (z+1) #[iV 0,iV 0] bO1 ?_);intro w9 HBF HTF;go_wp2;(try simp only[exS]);refine zbi HBF.out ?_;exact⟨rfl,T1.trans' (F':=fun g=>g=z+1) HTF.out (fun i hi=>.inr (by have hi:i=z+1:=hi;have:=HZW.out;omega))⟩
 |succ i=>
  have hi:i<l.length:=by have:=HAR.out.1;omega
  have hF9:=HFI.out;rw[HAR.out.2.2 i hi rfl]at hF9;simp only at hF9;subst hF9;have hlr:=HL.out;obtain⟨g,oo,rfl⟩:=hlr.head (by omega);have HLR:=Lib.hid hlr;have hi0:=znn i;have hi1:(i:Int)<(l.length:Int):=by omega
  have hm1:(((i+1:Nat):Int)-1)=(i:Int):=by omega
  have hm2:¬(i:Int)<0:=by omega
  rw[hm1]at HLA;have HSX:=Lib.hid (fun(w':World) (t:Tf w w')=>Row.six (hlr.keep t) zd3 hi rfl);generalize l[i]=r at *;obtain⟨r1,r2,r3,r4,r5,r6⟩:=r;simp only at HSX⊢;clear HFI HAR HL hlr hm1 HLR;go_enter Tryz.func189,Tryz.ntmps189;go_wp2_with fail;generalize(w.alloc (.cells #[iV k1,iV k2,iV k3,iV k4,iV k5,iV k6] 115)).alloc _=W at *;generalize hzw:w.heap.size=z at *;have HZW:=Lib.hid hzw;clear hzw;refine HLA.out.mono ?_;rintro _ w1 ⟨rfl,t1⟩;have bO1:=bO.keep t1 id;have T1:=tw.trans t1;obtain⟨q0,q1,q2,q3,q4,q5⟩:=HSX.out w1 T1;clear HLA x0 x1 x2 x3 x4 x5 bK bO tw t1 q0 q1 q2 q3 HSX;go_wp2_with (refine stH (z+1) #[iV r5,iV r6] bO1 ?_);intro w9 HBF HTF;go_wp2;(try simp only[exS]);refine zbi HBF.out ?_;exact⟨rfl,T1.trans' (F':=fun g=>g=z+1) HTF.out (fun i hi=>.inr (by have hi:i=z+1:=hi;have:=HZW.out;omega))⟩
theorem zsc {w:World} {v:Value} {l:List Rt6} (hl:zae za2 6 (fun _=>True) w v l) (hn:l.length≤1000000) (hT:Tab64 0 w) {zk zl:Nat} {f t kd p k5 k6:Int} (hk:Blk w zk 115 #[iV f,iV t,iV kd,iV p,iV k5,iV k6]) (hb:Blk w zl 25 #[v]) (c d:Int):
 Calls Tryz.prog 188 #[iV c,iV d,.pointer (some ⟨zk,0,none⟩),.pointer (some ⟨zl,0,none⟩)] w fun e w'=>e=.returned (.tuple #[.agg #[iV (zcy l kd p c d).1.1,iV (zcy l kd p c d).1.2],.bool (zcy l kd p c d).2])∧Tf w w':=by
 have ta:=tal w (.cells #[iV 0,iV 0] 44);have tb:=tal (w.alloc (.cells #[iV 0,iV 0] 44)) (.cells #[iV c,iV d,iV kd,iV p,iV k5,iV k6] 115);have tw:=ta.trans tb;have bO:=(Blk.new w 44 #[iV 0,iV 0]).keep tb id;have bW:=Blk.new2 w (.cells #[iV 0,iV 0] 44) 115 #[iV c,iV d,iV kd,iV p,iV k5,iV k6];have hk1:=hk.keep ta id;have HKB:=Lib.hid (fun w' (t:Tf w w')=>hb.keep t id);have hzl:=hb.lt;have hbl:=hb.keep tw id;obtain⟨x0,x1,x2,x3,x4,x5⟩:=hk1.f6;have y0:=hbl.at0;have HF1:=Lib.hid (zkl (hl.keep tw) hn c d kd p k5 k6);have HF2:=Lib.hid (fun w' (t:Tf w w')=>zkl (hl.keep t) hn d c kd p k5 k6);have HTT:=Lib.hid (fun w' (t:Tf w w')=>hT.keep t);have HLG:=Lib.hid (show zcy l kd p c d=if(zbl l (c,d,kd,p)).2=true then((zbl l (c,d,kd,p)).1,true)else((zg9 (zbl l (d,c,kd,p)).1).1,(zbl l (d,c,kd,p)).2&&decide ((zg9 (zbl l (d,c,kd,p)).1).2=0))from rfl);generalize zbl l (c,d,kd,p)=F1 at *;generalize zbl l (d,c,kd,p)=F2 at *;generalize zcy l kd p c d=AV at *;obtain⟨⟨v1,v2⟩,v3⟩:=AV;obtain⟨⟨r1,r2⟩,ok1⟩:=F1;obtain⟨⟨s1,s2⟩,ok2⟩:=F2;obtain⟨A,cc,rfl,hc1,hc2⟩:=hl.form;clear ta tb hl hT hk hk1 hb hbl;go_enter Tryz.func188,Tryz.ntmps188;go_wp2_with fail;generalize(w.alloc (.cells #[iV 0,iV 0] 44)).alloc _=W at *;generalize hzw:w.heap.size=z at *;have HZW:=Lib.hid hzw;clear hzw;refine HF1.out.mono ?_;rintro _ w1 ⟨rfl,t1⟩;have bO1:=bO.keep t1 id;have bW1:=bW.keep t1 id;have T1:=tw.trans t1;have tc:=tal w1 (.cells #[iV r1,iV r2] 44);have bF:=Blk.new w1 44 #[iV r1,iV r2];have bO2:=bO1.keep tc id;have bW2:=bW1.keep tc id;have T2:=T1.trans tc;have hz1:=bW1.lt;have hlg:=HLG.out;clear HF1 x0 x1 x2 x3 x4 x5 y0 bO bW tw t1 bO1 bW1 T1 tc HLG
 cases ok1;rotate_left
 ·rw[if_pos rfl]at hlg;injection hlg with e1 e2;injection e1 with e0 e1;have e0:=e0.symm;have e1:=e1.symm;have e2:=e2.symm;subst e0;subst e1;subst e2;obtain⟨f0,f1⟩:=bF.f2;clear HF2 HTT HKB bW2;go_wp2_with (refine stH z #[iV r1,iV r2] bO2 ?_);intro w9 HBF HTF;go_wp2;(try simp only[exS]);refine zbi HBF.out ?_;exact⟨rfl,T2.trans' (F':=fun g=>g=z) HTF.out (fun i hi=>.inr (by have hi:i=z:=hi;have:=HZW.out;omega))⟩
 rw[if_neg (by decide)]at hlg;(try simp only at hlg);have HLG:=Lib.hid hlg;clear hlg bF;go_wp2_with (refine zab rfl _ _ _ rfl (z+1) 0 (iV d) (by rfl) (by rfl) rfl (by rfl) bW2 (by simp) ?_;refine Hid.out ?_);refine Lib.hid ?_;intro w3 bW3 ts3;(try simp only[List.setIfInBounds_toArray,List.set_cons_succ,List.set_cons_zero]at bW3);generalize w1.alloc _=W1 at *;generalize w1.heap.size=y1 at *;have bO3:=bO2.keep ts3 (by omega);have T3:=T2.trans' ts3 (fun i hi=>.inr (by have hi:i=z+1:=hi;have:=HZW.out;omega));clear bO2 bW2 T2 ts3;go_wp2_with (refine zab rfl _ _ _ rfl (z+1) 1 (iV c) (by rfl) (by rfl) rfl (by rfl) bW3 (by simp) ?_;refine Hid.out ?_);refine Lib.hid ?_;intro w4 bW4 ts4;(try simp only[List.setIfInBounds_toArray,List.set_cons_succ,List.set_cons_zero]at bW4);have bO4:=bO3.keep ts4 (by omega);have T4:=T3.trans' ts4 (fun i hi=>.inr (by have hi:i=z+1:=hi;have:=HZW.out;omega));have y0:=(HKB.out w4 T4).at0;obtain⟨x0,x1,x2,x3,x4,x5⟩:=bW4.f6;have HF24:=Lib.hid (HF2.out w4 T4);clear bO3 bW3 T3 ts4 HF2 HKB;go_wp2_with fail;refine HF24.out.mono ?_;rintro _ w5 ⟨rfl,t5⟩;have bO5:=bO4.keep t5 id;have T5:=T4.trans t5;have td:=tal w5 (.cells #[iV s1,iV s2] 44);have bS:=Blk.new w5 44 #[iV s1,iV s2];have bO6:=bO5.keep td id;have T6:=T5.trans td;obtain⟨f0,f1⟩:=bS.f2;have HIV:=Lib.hid (zsa s1 s2 _ (HTT.out _ T6));generalize zg9 (s1,s2)=IV at *;obtain⟨⟨i1,i2⟩,i3⟩:=IV;clear HF24 x0 x1 x2 x3 x4 x5 y0 bO4 bW4 T4 t5 bO5 T5 td HTT;(try simp only at HIV);(try simp only at HLG);go_wp2_with fail;generalize w5.alloc _=W5 at *;generalize w5.heap.size=y5 at *;refine HIV.out.mono ?_;rintro _ w7 ⟨rfl,t7⟩;have te:=tal w7 (.cells #[iV i1,iV i2] 44);have bI:=Blk.new w7 44 #[iV i1,iV i2];have bO8:=(bO6.keep t7 id).keep te id;have T8:=(T6.trans t7).trans te;obtain⟨g0,g1⟩:=bI.f2;have hlg:=HLG.out;clear HIV f0 f1 bO6 T6 t7 te bS bI HLG
 cases ok2
 ·rw[Bool.false_and]at hlg;injection hlg with e1 e2;injection e1 with e0 e1;have e0:=e0.symm;have e1:=e1.symm;have e2:=e2.symm;subst e0;subst e1;subst e2;go_wp2_with (refine stH z #[iV i1,iV i2] bO8 ?_);intro w9 HBF HTF;go_wp2;(try simp only[exS]);refine zbi HBF.out ?_;exact⟨rfl,T8.trans' (F':=fun g=>g=z) HTF.out (fun i hi=>.inr (by have hi:i=z:=hi;have:=HZW.out;omega))⟩
 ·rw[Bool.true_and]at hlg;by_cases hi3:i3=0
  ·subst hi3;rw[decide_eq_true rfl]at hlg;injection hlg with e1 e2;injection e1 with e0 e1;have e0:=e0.symm;have e1:=e1.symm;have e2:=e2.symm;subst e0;subst e1;subst e2;go_wp2_with (refine stH z #[iV i1,iV i2] bO8 ?_);intro w9 HBF HTF;go_wp2;(try simp only[exS]);refine zbi HBF.out ?_;exact⟨rfl,T8.trans' (F':=fun g=>g=z) HTF.out (fun i hi=>.inr (by have hi:i=z:=hi;have:=HZW.out;omega))⟩
  ·have hi4:(i3==0)=false:=by simpa using hi3
   rw[decide_eq_false hi3]at hlg;injection hlg with e1 e2;injection e1 with e0 e1;have e0:=e0.symm;have e1:=e1.symm;have e2:=e2.symm;subst e0;subst e1;subst e2;go_wp2_with (refine stH z #[iV i1,iV i2] bO8 ?_);intro w9 HBF HTF;go_wp2;(try simp only[exS]);refine zbi HBF.out ?_;exact⟨rfl,T8.trans' (F':=fun g=>g=z) HTF.out (fun i hi=>.inr (by have hi:i=z:=hi;have:=HZW.out;omega))⟩
open Go.RowKit Go.Gk
theorem zmb {w:World} {v:Value} {l:List Rt6} (hl:zae za2 6 (fun _=>True) w v l) (hn:l.length≤1000000) (hT:Tab64 0 w) (f t kd p k5 k6:Int):
 Calls Tryz.prog 115 #[v,.agg #[iV f,iV t,iV kd,iV p,iV k5,iV k6]] w fun e w'=>e=.returned (.tuple #[.agg #[iV (zcw l f t kd p).1.1,iV (zcw l f t kd p).1.2],.bool (zcw l f t kd p).2])∧Tf w w':=by
 obtain⟨A,cc,rfl,hc1,hc2⟩:=hl.form;have ta:=tal w (.cells #[.slice A l.length cc] 25);have tb:=tal (w.alloc (.cells #[.slice A l.length cc] 25)) (.cells #[iV f,iV t,iV kd,iV p,iV k5,iV k6] 115);have tc:=tal ((w.alloc (.cells #[.slice A l.length cc] 25)).alloc (.cells #[iV f,iV t,iV kd,iV p,iV k5,iV k6] 115)) (.cells #[iV 0,iV 0] 44);have tw:=(ta.trans tb).trans tc;have bL:=((Blk.new w 25 #[.slice A l.length cc]).keep tb id).keep tc id;have bK:=(Blk.new2 w (.cells #[.slice A l.length cc] 25) 115 #[iV f,iV t,iV kd,iV p,iV k5,iV k6]).keep tc id;have bO:Blk (((w.alloc (.cells #[.slice A l.length cc] 25)).alloc (.cells #[iV f,iV t,iV kd,iV p,iV k5,iV k6] 115)).alloc (.cells #[iV 0,iV 0] 44)) (w.heap.size+1+1) 44 #[iV 0,iV 0]:=by simpa using Blk.new ((w.alloc (.cells #[.slice A l.length cc] 25)).alloc (.cells #[iV f,iV t,iV kd,iV p,iV k5,iV k6] 115)) 44 #[iV 0,iV 0]
 have HLEG:=Lib.hid (fun w' (t9:Tf w w') zk zl hk hb c d=>zsc (w:=w') (zk:=zk) (zl:=zl) (f:=f) (t:=t) (kd:=kd) (p:=p) (k5:=k5) (k6:=k6) (hl.keep t9) hn (hT.keep t9) hk hb c d);have HTM:=Lib.hid (fun w' (t9:Tf w w') a1 a2 b1 b2=>zxv a1 a2 b1 b2 w' (hT.keep t9));have HCR:=Lib.hid (show zcw l f t kd p=if(zcy l kd p f t).2=true then((zcy l kd p f t).1,true)else zb6 l kd p f t 0 from rfl)
 obtain⟨AV,hAV⟩:∃AV,zcw l f t kd p=AV:=⟨_,rfl⟩
 rw[hAV]at HCR;rw[hAV];clear hAV;obtain⟨⟨v1,v2⟩,v3⟩:=AV;have HLC:=Lib.hid (HLEG.out _ tw (w.heap.size+1) w.heap.size bK bL f t);obtain⟨x0,x1,x2,x3,x4,x5⟩:=bK.f6;clear ta tb tc hl hT;simp only;go_enter Tryz.func115,Tryz.ntmps115;go_wp2_with fail;refine wp_scope_straight ?_;go_wp2_with fail;generalize((w.alloc (.cells #[.slice A l.length cc] 25)).alloc (.cells #[iV f,iV t,iV kd,iV p,iV k5,iV k6] 115)).alloc _=W at *;generalize hzw:w.heap.size=z at *;have HZW:=Lib.hid hzw;clear hzw
 obtain⟨⟨⟨r1,r2⟩,ok1⟩,hL1⟩:∃L,zcy l kd p f t=L:=⟨_,rfl⟩
 rw[hL1]at HCR HLC;clear hL1;refine HLC.out.mono ?_;rintro _ w1 ⟨rfl,t1⟩;have bL1:=bL.keep t1 id;have bK1:=bK.keep t1 id;have bO1:=bO.keep t1 id;have T1:=tw.trans t1;have td:=tal w1 (.cells #[iV r1,iV r2] 44);have bR:=Blk.new w1 44 #[iV r1,iV r2];have bL2:=bL1.keep td id;have bK2:=bK1.keep td id;have bO2:=bO1.keep td id;have T2:=T1.trans td;have hcr:=HCR.out;obtain⟨f0,f1⟩:=bR.f2;clear HLC x0 x1 x2 x3 x4 x5 bL bK bO tw t1 bL1 bK1 bO1 T1 td HCR bR
 cases ok1;rotate_left
 ·rw[if_pos rfl]at hcr;injection hcr with e1 e2;injection e1 with e0 e1;have e0:=e0.symm;have e1:=e1.symm;have e2:=e2.symm;subst e0;subst e1;subst e2;clear HLEG HTM bL2 bK2;go_wp2_with (refine stH (z+1+1) #[iV r1,iV r2] bO2 ?_);intro w9 HBF HTF;go_wp2;(try simp only[exS]);refine zbi HBF.out ?_;exact⟨rfl,T2.trans' (F':=fun g=>g=z+1+1) HTF.out (fun i hi=>.inr (by have hi:i=z+1+1:=hi;have:=HZW.out;omega))⟩
 rw[if_neg (fun h=>by cases h)]at hcr;have HCR:=Lib.hid hcr;clear hcr;go_wp2_with fail;refine wp_label ?_;go_wp2_with fail;generalize w1.alloc _=W1 at *;generalize w1.heap.size=y1 at *;clear f0 f1;go_loopw [9] (fun i wr=>∃n:Nat,n≤8∧i=.int .i64 ((n:Int)+1)∧zb6 l kd p f t n=((v1,v2),v3)∧Tf W1 wr) (fun i _=>(9-intOf i).toNat)
 case atStart=>exact⟨0,by omega,rfl,HCR.out.symm,Tch.refl _ _⟩
 case round=>
  obtain⟨n,hn8,rfl,hth,htt⟩:=hrel;have HTH:=Lib.hid hth;clear hth HCR;have bOr:=bO2.keep htt id;have bKr:=bK2.keep htt id;have bLr:=bL2.keep htt id;have Tr:=T2.trans htt;by_cases h8:n=8
  ·subst h8;have hth:=HTH.out;rw[zi7]at hth;injection hth with e1 e2;injection e1 with e0 e1;subst e0;subst e1;subst e2;have h9:¬(((8:Nat):Int)+1)≤8:=by omega
   clear HLEG HTM bO2 bK2 bL2 bKr bLr HTH;go_wp2_with (refine stH (z+1+1) #[iV 0,iV 0] bOr ?_);intro w9 HBF HTF;go_wp2;(try simp only[exS]);refine zbi HBF.out ?_;exact⟨rfl,Tr.trans' (F':=fun g=>g=z+1+1) HTF.out (fun i hi=>.inr (by have hi:i=z+1+1:=hi;have:=HZW.out;omega))⟩
  have h9:((n:Int)+1)≤8:=by omega
  have HST:=Lib.hid (zhy l kd p f t (show n<8 by omega));rw[HTH.out]at HST;have hwr:wrap64 ((n:Int)+1+1)=(n:Int)+1+1:=by unfold wrap64;omega
  have hcast:((n:Int)+1)=((n+1:Nat):Int):=by omega
  obtain⟨x0,x1,x2,x3,x4,x5⟩:=bKr.f6;by_cases hf:((n:Int)+1)=f
  ·have hne:zb6 l kd p f t (n+1)=((v1,v2),v3):=by
    have h:=HST.out;rw[if_neg (fun h=>h.1.1 hf)]at h;exact h.symm
   have HNE:=Lib.hid hne;have hb:(((n:Int)+1)==f)=true:=by simpa using hf
   clear hne hf HST HTH HLEG HTM hcast;go_wp2;go_roundw
   case rel=>exact⟨n+1,by omega,by go_num,HNE.out,htt⟩
   case measure=>simp[intOf]<;>omega
  have hb1:(((n:Int)+1)==f)=false:=by simpa using hf
  by_cases ht:((n:Int)+1)=t
  ·have hne:zb6 l kd p f t (n+1)=((v1,v2),v3):=by
    have h:=HST.out;rw[if_neg (fun h=>h.1.2 ht)]at h;exact h.symm
   have HNE:=Lib.hid hne;have hb:(((n:Int)+1)==t)=true:=by simpa using ht
   clear hne hf ht HST HTH HLEG HTM hcast;go_wp2;go_roundw
   case rel=>exact⟨n+1,by omega,by go_num,HNE.out,htt⟩
   case measure=>simp[intOf]<;>omega
  have hb2:(((n:Int)+1)==t)=false:=by simpa using ht
  have HLA:=Lib.hid (HLEG.out _ Tr (z+1) z bKr bLr f ((n:Int)+1));have hst:=HST.out;simp only[ne_eq,hf,ht,not_false_eq_true,and_self,true_and]at hst;have HGA:Hid (∃L,zcy l kd p f ((n:Int)+1)=L):=Lib.hid ⟨_,rfl⟩;obtain⟨⟨⟨a1,a2⟩,oka⟩,hLa⟩:=HGA.out;have HGB:Hid (∃L,zcy l kd p ((n:Int)+1) t=L):=Lib.hid ⟨_,rfl⟩;obtain⟨⟨⟨b1,b2⟩,okb⟩,hLb⟩:=HGB.out;rw[hLa]at HLA;rw[hLa,hLb]at hst;have HLB:=Lib.hid (fun w' t9 hk hb=>HLEG.out w' t9 (z+1) z hk hb ((n:Int)+1) t);simp only[hLb]at HLB;have HS2:=Lib.hid hst;clear hst HST HTH HGA HGB hLa hLb HLEG hf ht hcast;simp only at HLA HLB HS2;go_wp2_with fail;refine HLA.out.mono ?_;rintro _ w3 ⟨rfl,t3⟩;have te:=tal w3 (.cells #[iV a1,iV a2] 44);have bA:=Blk.new w3 44 #[iV a1,iV a2];have t3e:=t3.trans te;have bO4:=bOr.keep t3e id;have bK4:=bKr.keep t3e id;have bL4:=bLr.keep t3e id;have T4:=Tr.trans t3e;have ht4:=htt.trans t3e;obtain⟨x0,x1,x2,x3,x4,x5⟩:=bK4.f6;have HLB4:=Lib.hid (HLB.out _ T4 bK4 bL4);clear HLA HLB t3 te t3e bOr bKr bLr Tr htt;go_wp2_with fail;generalize w3.alloc _=W3 at *;generalize w3.heap.size=y3 at *;refine HLB4.out.mono ?_;rintro _ w5 ⟨rfl,t5⟩;have te:=tal w5 (.cells #[iV b1,iV b2] 44);have bB:=Blk.new w5 44 #[iV b1,iV b2];have t5e:=t5.trans te;have bA6:=bA.keep t5e id;have bO6:=bO4.keep t5e id;have T6:=T4.trans t5e;have ht6:=ht4.trans t5e;obtain⟨p0,p1⟩:=bA6.f2;obtain⟨q0,q1⟩:=bB.f2;have HTM6:=Lib.hid (HTM.out _ T6 a1 a2 b1 b2);have HTMI:Hid (∃L,zck (a1,a2) (b1,b2)=L):=Lib.hid ⟨_,rfl⟩;obtain⟨⟨⟨m1,m2⟩,m3⟩,hM⟩:=HTMI.out;rw[hM]at HTM6;have hs2:=HS2.out;rw[hM]at hs2;simp only at HTM6 hs2;have HS3:=Lib.hid hs2;clear HTMI hM hs2 HS2 HLB4 t5 te t5e bA bO4 bK4 bL4 T4 ht4 bA6 bB HTM x0 x1 x2 x3 x4 x5 bO2 bK2 bL2
  cases oka
  ·have hne:zb6 l kd p f t (n+1)=((v1,v2),v3):=by
    have h:=HS3.out;rw[if_neg (fun h=>by cases h.1.1)]at h;exact h.symm
   have HNE:=Lib.hid hne;clear hne HS3 HTM6 p0 p1 q0 q1;go_wp2;go_roundw
   case rel=>exact⟨n+1,by omega,by go_num,HNE.out,ht6⟩
   case measure=>simp[intOf]<;>omega
  cases okb
  ·have hne:zb6 l kd p f t (n+1)=((v1,v2),v3):=by
    have h:=HS3.out;rw[if_neg (fun h=>by cases h.1.2)]at h;exact h.symm
   have HNE:=Lib.hid hne;clear hne HS3 HTM6 p0 p1 q0 q1;go_wp2;go_roundw
   case rel=>exact⟨n+1,by omega,by go_num,HNE.out,ht6⟩
   case measure=>simp[intOf]<;>omega
  go_wp2_with fail;generalize w5.alloc _=W5 at *;generalize w5.heap.size=y5 at *;refine HTM6.out.mono ?_;rintro _ w7 ⟨rfl,t7⟩;have te:=tal w7 (.cells #[iV m1,iV m2] 44);have bM:=Blk.new w7 44 #[iV m1,iV m2];have t7e:=t7.trans te;have bO8:=bO6.keep t7e id;have T8:=T6.trans t7e;have ht8:=ht6.trans t7e;obtain⟨g0,g1⟩:=bM.f2;clear HTM6 t7 te t7e bO6 T6 ht6 p0 p1 q0 q1 bM;by_cases hm:m3=0
  ·have h:=HS3.out;rw[if_pos ⟨⟨trivial,trivial⟩,hm⟩]at h;injection h with e1 e2;injection e1 with e0 e1;subst e0;subst e1;subst e2;subst hm;clear HS3 ht8;go_wp2_with (refine stH (z+1+1) #[iV v1,iV v2] bO8 ?_);intro w9 HBF HTF;go_wp2;(try simp only[exS]);refine zbi HBF.out ?_;exact⟨rfl,T8.trans' (F':=fun g=>g=z+1+1) HTF.out (fun i hi=>.inr (by have hi:i=z+1+1:=hi;have:=HZW.out;omega))⟩
  ·have hne:zb6 l kd p f t (n+1)=((v1,v2),v3):=by
    have h:=HS3.out;rw[if_neg (fun h=>hm h.2)]at h;exact h.symm
   have HNE:=Lib.hid hne;have hm':(m3==0)=false:=by simpa using hm
   clear hne HS3 hm;go_wp2;go_roundw
   case rel=>exact⟨n+1,by omega,by go_num,HNE.out,ht8⟩
   case measure=>simp[intOf]<;>omega
open Go.RowKit Go.Gk
section
variable {w:World} {bv bi B t mr mp:Nat} {e a s r l n lv:Value} {fs:List Value} {b:Bks} {us:List (Ent×Value)}
theorem zmw (h:Vw w bv bi B t mr mp e a s r l n lv fs b us):
 Calls Tryz.prog 100 #[.pointer (some ⟨bv,0,none⟩)] w fun x w'=>x=.returned (iV b.ents.length)∧w=w':=by
 have hM:=zb5 h;obtain⟨Aa,ca,rfl,_,_⟩:=h.bks.ents.form;have v0:=h.view.at0;have v2:=h.seen.at1;go_enter Tryz.func100,Tryz.ntmps100;go_wp2_with fail;refine hM.mono ?_;rintro _ _ ⟨rfl,rfl⟩;clear hM;go_wp2;go_ret;exact⟨rfl,rfl⟩
theorem zmx (h:Vw w bv bi B t mr mp e a s r l n lv fs b us) (x:Int):
 Calls Tryz.prog 41 #[.pointer (some ⟨bv,0,none⟩),iV x] w fun y w'=>y=.returned (iV (zgg b x))∧w=w':=by
 have HE:=Lib.hid (zmw h);by_cases hx:1≤x∧x≤(b.ents.length:Int)
 ·obtain⟨k,rfl⟩:∃k:Nat,x=(k:Int)+1:=⟨(x-1).toNat,by omega⟩
  have hk:k<b.ents.length:=by omega
  have hcv:zgg b ((k:Int)+1)=b.ents[k]:=by
   unfold zgg;rw[if_pos hx];have e:((k:Int)+1-1).toNat=k:=by omega
   rw[e,List.getElem?_eq_getElem hk];rfl
  rw[hcv];have hacc:=h.bks.ents;obtain⟨Aa,ca,rfl,hm1,hm2⟩:=h.bks.ents.form;obtain⟨g,o,rfl⟩:=hacc.head (by omega);have q0:=Row.one hacc zap hk rfl;have v0:=h.view.at0;have v2:=h.seen.at1;have hk':(k:Int)<(b.ents.length:Int):=by omega
  have hk0:=znn k;have g1:¬((k:Int)+1)<1:=by omega
  have g2:¬(b.ents.length:Int)<((k:Int)+1):=by omega
  have g3:wrap64 ((k:Int)+1-1)=(k:Int):=by unfold wrap64;omega
  generalize b.ents[k]=y at *;clear h hacc hcv hx;go_enter Tryz.func41,Tryz.ntmps41;go_wp2_with fail;refine HE.out.mono ?_;rintro _ _ ⟨rfl,rfl⟩;clear HE;go_wp2;go_ret;exact⟨rfl,rfl⟩
 ·have hcv:zgg b x=0:=by unfold zgg;rw[if_neg hx]
  rw[hcv];clear h hcv;by_cases h1:x<1
  ·clear hx;go_enter Tryz.func41,Tryz.ntmps41;go_wp2;go_ret;exact⟨rfl,rfl⟩
  ·have h2:(b.ents.length:Int)<x:=by omega
   clear hx;go_enter Tryz.func41,Tryz.ntmps41;go_wp2_with fail;refine HE.out.mono ?_;rintro _ _ ⟨rfl,rfl⟩;clear HE;go_wp2;go_ret;exact⟨rfl,rfl⟩
theorem zvd (h:Vw w bv bi B t mr mp e a s r l n lv fs b us) (hn:b.rates.length≤1000000) (hT:Tab64 0 w) (f g kd p:Int):
 Calls Tryz.prog 49 #[.pointer (some ⟨bv,0,none⟩),iV f,iV g,iV kd,iV p] w fun y w'=>y=.returned (.tuple #[.agg #[iV (zee b.rates f g kd p).1.1,iV (zee b.rates f g kd p).1.2],.bool (zee b.rates f g kd p).2])∧Tf w w':=by
 have tw:=tal w (.cells #[iV 0,iV 0] 44);have bO:=Blk.new w 44 #[iV 0,iV 0];have h1:=h.keep tw;have HM:=Lib.hid (zb5 h1);have HRA:=Lib.hid (show zee b.rates f g kd p=if f=g∧1≤f∧f≤8 then((1,1),true)else zcw b.rates f g kd p from rfl);obtain⟨Aa,ca,rfl,hm1,hm2⟩:=h.bks.rates.form;have v0:=h1.view.at0;have v4:=h1.seen.at4;by_cases hfg:f=g
 ·subst hfg;by_cases h18:1≤f∧f≤8
  ·rw[HRA.out,if_pos ⟨rfl,h18⟩];have g1:(1:Int)≤f:=h18.1;have g2:f≤(8:Int):=h18.2;simp only;clear h h1 hT hn h18 HRA v0 v4;go_enter Tryz.func49,Tryz.ntmps49;go_wp2_with fail;generalize w.alloc _=W at *;generalize hzw:w.heap.size=z at *;have HZW:=Lib.hid hzw;clear hzw;refine HM.out.mono ?_;rintro _ _ ⟨rfl,rfl⟩;clear HM;go_wp2_with (refine stH z #[iV 1,iV 1] bO ?_);intro w9 HBF HTF;go_wp2;(try simp only[exS]);refine zbi HBF.out ?_;exact⟨rfl,tw.trans' (F':=fun g=>g=z) HTF.out (fun i hi=>.inr (by have hi:i=z:=hi;have:=HZW.out;omega))⟩
  ·rw[HRA.out,if_neg (fun h=>h18 h.2)];by_cases g1:(1:Int)≤f
   ·have g2:¬f≤(8:Int):=fun h=>h18 ⟨g1,h⟩
    clear HRA h18;have HCR:=Lib.hid (zmb (h1.bks.rates) hn (hT.keep tw) f f kd p 0 0);generalize zcw b.rates f f kd p=AV at *;obtain⟨⟨q1,q2⟩,q3⟩:=AV;simp only at HCR⊢;clear h h1 hT hn;go_enter Tryz.func49,Tryz.ntmps49;go_wp2_with fail;generalize w.alloc _=W at *;generalize hzw:w.heap.size=z at *;have HZW:=Lib.hid hzw;clear hzw;refine HM.out.mono ?_;rintro _ _ ⟨rfl,rfl⟩;clear HM;go_wp2_with fail;refine HCR.out.mono ?_;rintro _ w1 ⟨rfl,t1⟩;have bO1:=bO.keep t1 id;have T1:=tw.trans t1;clear HCR bO tw t1 v0 v4;go_wp2_with (refine stH z #[iV q1,iV q2] bO1 ?_);intro w9 HBF HTF;go_wp2;(try simp only[exS]);refine zbi HBF.out ?_;exact⟨rfl,T1.trans' (F':=fun g=>g=z) HTF.out (fun i hi=>.inr (by have hi:i=z:=hi;have:=HZW.out;omega))⟩
   ·clear HRA h18;have HCR:=Lib.hid (zmb (h1.bks.rates) hn (hT.keep tw) f f kd p 0 0);generalize zcw b.rates f f kd p=AV at *;obtain⟨⟨q1,q2⟩,q3⟩:=AV;simp only at HCR⊢;clear h h1 hT hn;go_enter Tryz.func49,Tryz.ntmps49;go_wp2_with fail;generalize w.alloc _=W at *;generalize hzw:w.heap.size=z at *;have HZW:=Lib.hid hzw;clear hzw;refine HM.out.mono ?_;rintro _ _ ⟨rfl,rfl⟩;clear HM;go_wp2_with fail;refine HCR.out.mono ?_;rintro _ w1 ⟨rfl,t1⟩;have bO1:=bO.keep t1 id;have T1:=tw.trans t1;clear HCR bO tw t1 v0 v4;go_wp2_with (refine stH z #[iV q1,iV q2] bO1 ?_);intro w9 HBF HTF;go_wp2;(try simp only[exS]);refine zbi HBF.out ?_;exact⟨rfl,T1.trans' (F':=fun g=>g=z) HTF.out (fun i hi=>.inr (by have hi:i=z:=hi;have:=HZW.out;omega))⟩
 ·rw[HRA.out,if_neg (fun h=>hfg h.1)];have g0:(f==g)=false:=by simpa using hfg
  clear HRA hfg;have HCR:=Lib.hid (zmb (h1.bks.rates) hn (hT.keep tw) f g kd p 0 0);generalize zcw b.rates f g kd p=AV at *;obtain⟨⟨q1,q2⟩,q3⟩:=AV;simp only at HCR⊢;clear h h1 hT hn;go_enter Tryz.func49,Tryz.ntmps49;go_wp2_with fail;generalize w.alloc _=W at *;generalize hzw:w.heap.size=z at *;have HZW:=Lib.hid hzw;clear hzw;refine HM.out.mono ?_;rintro _ _ ⟨rfl,rfl⟩;clear HM;go_wp2_with fail;refine HCR.out.mono ?_;rintro _ w1 ⟨rfl,t1⟩;have bO1:=bO.keep t1 id;have T1:=tw.trans t1;clear HCR bO tw t1 v0 v4;go_wp2_with (refine stH z #[iV q1,iV q2] bO1 ?_);intro w9 HBF HTF;go_wp2;(try simp only[exS]);refine zbi HBF.out ?_;exact⟨rfl,T1.trans' (F':=fun g=>g=z) HTF.out (fun i hi=>.inr (by have hi:i=z:=hi;have:=HZW.out;omega))⟩
