/-
  What a node has: recipes, made.
-/
import Derived.Test.YtoegobjnjljegaaGreatDoorZ58
import Derived.Test.YtoegobjnjljegaaGreatDoorZ54
import Derived.Test.YtoegobjnjljegaaGreatDoorZ21
set_option maxRecDepth 100000
set_option maxHeartbeats 25600000
namespace Go.Gk
open Go.RowKit
theorem zja (c:Rt6) (kids splits:List Int) {j:Nat} (h:j<kids.length):zd0 c (kids.take (j+1)) splits=zd0 c (kids.take j) splits++splits.map (fun a=>ofC c 5 kids[j] a):=by
 unfold zd0;rw[List.take_succ_eq_append_getElem h,List.flatMap_append];simp
theorem map_take {α β:Type} (f:α→β) {l:List α} {j:Nat} (h:j<l.length):(l.take (j+1)).map f=(l.take j).map f++[f l[j]]:=by
 rw[List.take_succ_eq_append_getElem h,List.map_append];rfl
theorem zhc (c:Rt6) (splits:List Int):∀kids:List Int,(zd0 c kids splits).length=kids.length*splits.length
 |[]=>by simp[zd0]
 |k::r=>by
  have ih:=zhc c splits r;unfold zd0 at ih⊢;rw[List.flatMap_cons,List.length_append,List.length_map,ih,List.length_cons,Nat.add_mul];omega
theorem zkm {c:Rt6} (kids splits:List Int) (h:c.2.2.1≠2):zco c kids splits=ofC c 3 c.2.1 c.2.2.1::(kids.map (fun k=>ofC c 4 k c.2.2.1)++([]++[ofC c 6 c.2.1 c.2.2.1])):=by
 unfold zco;rw[if_neg h]
theorem zjb {c:Rt6} (kids splits:List Int) {ys:List Rt6} (h:c.2.2.1=2) (hy:zd0 c kids splits=ys):zco c kids splits=ofC c 3 c.2.1 c.2.2.1::(kids.map (fun k=>ofC c 4 k c.2.2.1)++(ys++[ofC c 6 c.2.1 c.2.2.1])):=by
 unfold zco;rw[if_pos h,hy]
theorem ztn {w:World} {g:Nat} {t:TypeId} {a b:Rt6} {xs ys:List Rt6} {Pc Mc:List Value} (hP:xs.flatMap za2=Pc) (hM:ys.flatMap za2=Mc) {n:Nat} (hn:n=2+xs.length+ys.length) (hm:n≤maxLen) (hb:Blk w g t (za2 a++Pc++Mc++za2 b++[]).toArray):
 zae za2 6 (fun k=>k=g) w (.slice (some ⟨g,0,none⟩) n n) (a::(xs++(ys++[b]))):=by
 have hl:(a::(xs++(ys++[b]))).length=n:=by simp;omega
 have hc:za2 a++Pc++Mc++za2 b++[]=(a::(xs++(ys++[b]))).flatMap za2:=by
  subst hP hM;simp
 rw[hc]at hb;unfold zae;rw[hl];have h9:=Row.blk (B:=fun k=>k=g) (n:=n) (size:=6) hb rfl (by rw[List.size_toArray,zc5 zd3,hl]) hm;simpa using h9
end Go.Gk
namespace Go.Proofs.YtoegobjnjljegaaGreatDoor
open Go.RowKit Go.Gk
def zhd (b:Bks) (c:Rt6) (w:World) (x:Ending) (w':World):Prop:=∃v,x=.returned (.tuple #[v,iV (zfz b c).2])∧RcpIs w' v (zfz b c).1∧Tf w w'
theorem zdj (c1 c2 c3 c4 c5 c6 r e a:Int) {w:World} {g:Nat} (hb:Blk w g 31 #[iV c1,iV c2,iV c3,iV c4,iV c5,iV c6]):
 Calls Tryz.prog 228 #[iV r,iV e,iV a,.pointer (some ⟨g,0,none⟩)] w fun x w'=>x=.returned (.agg #[iV r,iV e,iV a,iV c4,iV c5,iV c6])∧Tf w w':=by
 have ta:=tal w (.cells #[iV 0,iV 0,iV 0,iV 0,iV 0,iV 0] 31);have hb1:=hb.keep ta id;have q0:=hb1.cell 0;have q1:=hb1.cell 1;have q2:=hb1.cell 2;have q3:=hb1.cell 3;have q4:=hb1.cell 4;have q5:=hb1.cell 5;simp at q0 q1 q2 q3 q4 q5;clear hb1;go_enter Tryz.func228,Tryz.ntmps228;go_wp2;refine zfe ((Blk.new w 31 _).alloc _) ?_;exact⟨rfl,(Tch.alloc _ _ _).trans (Tch.alloc _ _ _)⟩
section
variable {w:World} {bv bi B t mr mp:Nat} {e a s r l n lv:Value} {fs:List Value} {b:Bks} {us:List (Ent×Value)}
theorem zsh (h:Vw w bv bi B t mr mp e a s r l n lv fs b us) (hn:(zag b.accs).length≤1000) (h40:b.ents.length≤40) (hac:b.accs.length≤1000) (c1 c2 c3 c4 c5 c6:Int):
 Calls Tryz.prog 156 #[.pointer (some ⟨bv,0,none⟩),.agg #[iV c1,iV c2,iV c3,iV c4,iV c5,iV c6]] w (zhd b (c1,c2,c3,c4,c5,c6) w):=by
 have ta:=tal w (.cells #[iV c1,iV c2,iV c3,iV c4,iV c5,iV c6] 31);have tb:=tal (w.alloc (.cells #[iV c1,iV c2,iV c3,iV c4,iV c5,iV c6] 31)) (.cells #[iV 0,iV 0,.slice none 0 0,.slice none 0 0,iV 0,iV 0,iV 0,iV 0,iV 0,iV 0,.bool false,iV 0,iV 0,.bool false] 48);have tw:=ta.trans tb;have hbC:=(Blk.new w 31 #[iV c1,iV c2,iV c3,iV c4,iV c5,iV c6]).keep tb id;have hbR:=Blk.new2 w (.cells #[iV c1,iV c2,iV c3,iV c4,iV c5,iV c6] 31) 48 #[iV 0,iV 0,.slice none 0 0,.slice none 0 0,iV 0,iV 0,iV 0,iV 0,iV 0,iV 0,.bool false,iV 0,iV 0,.bool false];have HM:=Lib.hid (ze3 (h.keep tw) (c1,c2,c3,c4,c5,c6));have HH:=Lib.hid (h.keep tw);have hsz:((w.alloc (.cells #[iV c1,iV c2,iV c3,iV c4,iV c5,iV c6] 31)).alloc (.cells #[iV 0,iV 0,.slice none 0 0,.slice none 0 0,iV 0,iV 0,iV 0,iV 0,iV 0,iV 0,.bool false,iV 0,iV 0,.bool false] 48)).heap.size=w.heap.size+2:=by simp
 unfold zcq at HM;simp only at HM;have HL:Hid (zfz b (c1,c2,c3,c4,c5,c6)=if za7 b (c1,c2,c3,c4,c5,c6) 7 7=0 then({Rcp.none with plus:=zco (c1,c2,c3,c4,c5,c6) (zgk b c2 c4) (zcn b)},0)else(Rcp.none,za7 b (c1,c2,c3,c4,c5,c6) 7 7)):=Lib.hid rfl;have HFA:=Lib.hid (fun h=>zdo (b:=b) (c:=(c1,c2,c3,c4,c5,c6)) (lo:=7) (hi:=7) h);have HAL:=Lib.hid (fun h=>zp6 (b:=b) (c:=(c1,c2,c3,c4,c5,c6)) (lo:=7) (hi:=7) h (by decide));have HLE:=Lib.hid (fun w' (tc:Tf w w')=>zdx (h.keep tc) hn c3);rw[zb9]at HLE
 obtain⟨m,hm⟩:∃m,za7 b (c1,c2,c3,c4,c5,c6) 7 7=m:=⟨_,rfl⟩
 rw[hm]at HL HFA HAL;unfold za7 at hm;simp only at hm;generalize za3 (c1,c2,c3,c4,c5,c6) b.ents.length b.accs.length=k at *;have HLF:=Lib.hid (fun(h:zas b.accs c3=true)=>h);generalize zas b.accs c3=lf at *;have HMM:=Lib.hid hm;clear hm ta tb h;go_enter Tryz.func156,Tryz.ntmps156;go_wp2_with fail;generalize(w.alloc (.cells #[iV c1,iV c2,iV c3,iV c4,iV c5,iV c6] 31)).alloc _=W at *;generalize hzw:w.heap.size=z at *;have HZW:=Lib.hid hzw;clear hzw;refine HM.out.mono ?_;rintro _ w1 ⟨rfl,t1⟩;clear HM;have b1:=hbC.keep t1 id;have r1:=hbR.keep t1 id;have h1:=HH.out.keep t1;have tW:=tw.trans t1;have hlow:z+2≤w1.heap.size:=by have:=t1.size;omega
 clear hbC hbR HH tw t1 hsz;by_cases hk:k=0
 rotate_left
 ·have hk':(k !=0)=true:=by simpa using hk
  obtain rfl:m=k:=by rw[←HMM.out,if_neg hk]
  have HLN:=Lib.hid (show zfz b (c1,c2,c3,c4,c5,c6)=(Rcp.none,m) by rw[HL.out,if_neg hk]);clear hk HMM HFA HAL HL HLE HLF b1 h1;go_wp2_with (refine stK (z+1) #[iV 0,iV 0,.slice none 0 0,.slice none 0 0,iV 0,iV 0,iV 0,iV 0,iV 0,iV 0,.bool false,iV 0,iV 0,.bool false] r1 ?_);intro w9 hF tF;have HBF:=Lib.hid hF;have HTF:=Lib.hid tF;have TT:=Lib.hid (tW.trans' (F':=fun g=>g=z+1) tF (fun i hi=>.inr (by have hi:i=z+1:=hi;have:=HZW.out;omega)));clear hF tF r1 tW;go_wp2;(try simp only[exS]);refine zbi HBF.out ?_;unfold zhd;rw[HLN.out];exact⟨_,rfl,⟨_,_,rfl,Row.nil _ _ _,Row.nil _ _ _⟩,TT.out⟩
 subst hk;have q0:=b1.at0;have q2:=b1.at2;by_cases hr:c1=7
 rotate_left
 ·have hr':(c1 !=7)=true:=by simpa using hr
  obtain rfl:m=25:=by rw[←HMM.out,if_pos rfl,if_pos (by omega)]
  have HLN:=Lib.hid (show zfz b (c1,c2,c3,c4,c5,c6)=(Rcp.none,25) by rw[HL.out,if_neg (by decide)]);clear hr HMM HFA HAL HL HLE HLF b1 h1;go_wp2_with (refine stK (z+1) #[iV 0,iV 0,.slice none 0 0,.slice none 0 0,iV 0,iV 0,iV 0,iV 0,iV 0,iV 0,.bool false,iV 0,iV 0,.bool false] r1 ?_);intro w9 hF tF;have HBF:=Lib.hid hF;have HTF:=Lib.hid tF;have TT:=Lib.hid (tW.trans' (F':=fun g=>g=z+1) tF (fun i hi=>.inr (by have hi:i=z+1:=hi;have:=HZW.out;omega)));clear hF tF r1 tW;go_wp2;(try simp only[exS]);refine zbi HBF.out ?_;unfold zhd;rw[HLN.out];exact⟨_,rfl,⟨_,_,rfl,Row.nil _ _ _,Row.nil _ _ _⟩,TT.out⟩
 subst hr
 have HM2:=Lib.hid (show(if lf=true then(0:Int)else 27)=m by
  have h9:=HMM.out
  simpa using h9)
 clear HMM;go_wp2_with fail;refine(HLE.out w1 tW).mono ?_;rintro _ w2 ⟨rfl,t2⟩;clear HLE q0 q2;have b2:=b1.keep t2 id;have r2:=r1.keep t2 id;have h2:=h1.keep t2;have tW2:=tW.trans t2;have hlow2:z+2≤w2.heap.size:=by have:=t2.size;omega
 clear b1 r1 h1 tW t2 hlow
 cases lf
 ·obtain rfl:m=27:=by rw[←HM2.out];rfl
  have HLN:=Lib.hid (show zfz b (7,c2,c3,c4,c5,c6)=(Rcp.none,27) by rw[HL.out,if_neg (by decide)]);clear HM2 HFA HAL HL HLF b2 h2;go_wp2_with (refine stK (z+1) #[iV 0,iV 0,.slice none 0 0,.slice none 0 0,iV 0,iV 0,iV 0,iV 0,iV 0,iV 0,.bool false,iV 0,iV 0,.bool false] r2 ?_);intro w9 hF tF;have HBF:=Lib.hid hF;have HTF:=Lib.hid tF;have TT:=Lib.hid (tW2.trans' (F':=fun g=>g=z+1) tF (fun i hi=>.inr (by have hi:i=z+1:=hi;have:=HZW.out;omega)));clear hF tF r2 tW2;go_wp2;(try simp only[exS]);refine zbi HBF.out ?_;unfold zhd;rw[HLN.out];exact⟨_,rfl,⟨_,_,rfl,Row.nil _ _ _,Row.nil _ _ _⟩,TT.out⟩
 obtain rfl:m=0:=by rw[←HM2.out];rfl
 obtain⟨_,⟨hp0,hp1⟩,_,_⟩:=HFA.out rfl;have hc6:=HAL.out rfl;(try simp only at hp0 hp1 hc6);subst hc6
 obtain⟨p,rfl⟩:∃p:Nat,c4=(p:Int):=⟨c4.toNat,by omega⟩
 have hp:p<24:=by omega
 have HLL:=Lib.hid (show zfz b (7,c2,c3,(p:Int),c5,0)=({Rcp.none with plus:=zco (7,c2,c3,(p:Int),c5,0) (zgk b c2 p) (zcn b)},0) by rw[HL.out,if_pos rfl]);clear HM2 HFA HAL HL HLF hp0 hp1;obtain⟨g,hg,hF⟩:=h2.forests p hp;have HFO:=Lib.hid (fun w' (t:Tf w2 w')=>zid (h2.keep t) hp hg);have HCH:=Lib.hid (fun w' (t:Tf w2 w')=>zoj (hF.keep t id) h40 c2);have HSP:=Lib.hid (fun w' (t:Tf w2 w')=>zon (h2.keep t) hn);have hkl:=zi1 b c2 p;have hsl:=zni b;have HKD:=Lib.hid (show zgk b c2 p=(if 1≤c2∧c2≤(b.ents.length:Int)then(zal b.ents.length).filter (fun i=>zam b.stakes i p==c2)else[])from rfl);rw[←HKD.out]at HCH;have HKL:=Lib.hid (show(zgk b c2 p).length≤40 by omega);have HSL:=Lib.hid (show(zcn b).length≤1000 by omega);clear hF hg h2 h40 hkl hsl HKD;generalize zgk b c2 p=kids at *;generalize zcn b=splits at *;generalize hcp:(p:Int)=c4 at *;have HCP:=Lib.hid hcp;clear hcp;have Y3:=wc0 b2.at3;have Y1:=wc0 b2.at1;go_wp2_with fail;refine zai (fun _=>False) [] 6 [(3,.inl (.pointer (some ⟨g,0,none⟩)))] [] ?_ ?_
 ·exact trivial
 intro bef _;iterate 3 (refine zbt ?_;(try simp only[zaw]))
 refine zb3 (.pointer (some ⟨g,0,none⟩)) (by rfl) (by rfl) (fun w3 hr hf=>?_) ?_
 ·refine zaa (d:=44) rfl (by simp) (fun K hK=>?_);go_step;refine(HFO.out w3 ((Tch.drew _ w2).trans hr)).mono ?_;rintro _ _ ⟨rfl,rfl⟩;exact hK _ _ ⟨⟨rfl,Tch.refl _ _⟩,zaf⟩
 simp only[zaw];iterate 2 (refine zbt ?_;(try simp only[zaw]))
 refine za6 ?_;intro w3 hr hp1 hap;have t3:=(Tch.drew (fun _=>False) w2).trans hr;clear hap hp1 hr Y1 Y3 HFO;go_wp2_with fail;refine(HCH.out w3 t3).mono ?_;rintro _ w4 ⟨u,rfl,hK⟩;obtain⟨K,ck,rfl,_,_⟩:=hK.form;have hrow:=hK.row;have t24:=t3.trans hK.tch;have b4:=b2.keep t24 id;have r4:=r2.keep t24 id;have tW4:=tW2.trans t24;have HSP4:=Lib.hid (fun w' (t:Tf w4 w')=>HSP.out w' (t24.trans t));have hlow4:z+2≤w4.heap.size:=by have:=t24.size;omega
 clear HCH hK t3 t24 HSP b2 r2 tW2 hlow2;have hkl:=HKL.out;have hsl:=HSL.out
 obtain⟨F4,hF4⟩:∃F:Int→Rt6,(fun k=>ofC (7,c2,c3,c4,c5,0) 4 k c3)=F:=⟨_,rfl⟩
 have HF4:=Lib.hid (fun k=>show F4 k=(4,k,c3,c4,c5,0) by rw[←hF4];rfl);have HE4:=Lib.hid hF4;clear hF4;go_wp2_with fail;go_loopw [9,50] (fun out i wr=>∃(j:Nat) (xs:List Rt6),j≤kids.length∧i=.int .i64 j∧(kids.take j).map F4=xs∧Outs za2 6 31 w4 wr out xs) (fun _ i _=>kids.length-(intOf i).toNat)
 case atStart=>exact⟨0,[],Nat.zero_le _,rfl,rfl,Outs.start _ _ _ (Tch.refl _ _)⟩
 case round=>
  obtain⟨j,xs,hj,rfl,hx,hO⟩:=hrel;obtain⟨O,co,rfl,ho1,ho2⟩:=hO.form;have HXL:=Lib.hid (show xs.length=j by rw[←hx,List.length_map,List.length_take];omega);have hxl:xs.length≤j:=by have:=HXL.out;omega
  have HX:=Lib.hid hx;have hj0:=znn j;clear hx;have bw:=b4.keep hO.tch id;by_cases hlt:j<kids.length
  ·have hlt':(j:Int)<(kids.length:Int):=by omega
   obtain⟨g5,o5,rfl⟩:=hrow.head (by omega);have q5:=Row.one (hrow.keep hO.tch) zap hlt rfl;have HS:=Lib.hid (show(kids.take (j+1)).map F4=xs++[F4 kids[j]] by rw[map_take F4 hlt,HX.out]);generalize kids[j]=x at *;rw[HF4.out]at HS;have k2:=bw.at2;go_wp2_with fail;refine(zdj 7 c2 c3 c4 c5 0 4 x c3 bw).mono ?_;rintro _ w5 ⟨rfl,t5⟩;have hO:=hO.keep t5;clear k2 q5 bw;go_wp2_with (at_builtin;refine apd za1 (hO.own.alloc _) (Go.Gk.Src.one (news:=za2 (4,x,c3,c4,c5,0)) rfl (fun m9 u9 hu9=>by rw[(Blk.new w5 31 #[iV 4,iV x,iV c3,iV c4,iV c5,iV 0]).cell m9];simpa[za2]using hu9)) (zjd _) ?_;intro v2 w2 ho2 hg2 hl2;have hO2:=hO.step (x:=(4,x,c3,c4,c5,0)) (Tch.alloc _ _ _) ho2 hg2 hl2;obtain⟨O2,co2,rfl,_,_⟩:=zac ho2);go_roundw
   case rel=>exact⟨j+1,_,by omega,by go_num,HS.out,hO2⟩
   case measure=>simp[intOf];omega
  ·obtain rfl:kids.length=j:=by omega
   rw[List.take_length]at HX;generalize O=OP at *;generalize co=cop at *;have HXP:=Lib.hid (show kids.map F4=xs from HX.out);have hP:=hO;clear hO HX hlt;have k2:=bw.at2;have rw4:=r4.keep hP.tch id;have tW5:=tW4.trans hP.tch;have hlow5:z+2≤wr.heap.size:=by have:=hP.tch.size;omega
   have hpl:xs.length≤40:=by omega
   have HOL:=HXL;have hrw:=hrow.keep hP.tch;have HSP5:=Lib.hid (fun w' (t:Tf wr w')=>HSP4.out w' (hP.tch.trans t));have hrP:=hP.row;clear b4 r4 tW4 hlow4 hP HSP4 hrow hxl HXL;by_cases h2:c3=2
   ·subst h2;go_wp2_with fail;refine(HSP5.out wr (Tch.refl _ _)).mono ?_;rintro _ w6 ⟨u,rfl,hSp⟩;obtain⟨SS,cs,rfl,_,_⟩:=hSp.form;have hrS:=hSp.row;have t6:=hSp.tch;have b6:=bw.keep t6 id;have hrw:=hrw.keep t6;clear hSp HSP5 k2
    obtain⟨F5,hF5⟩:∃F:Int→Int→Rt6,(fun k a=>ofC (7,c2,2,c4,c5,0) 5 k a)=F:=⟨_,rfl⟩
    have HF5:=Lib.hid (fun k a=>show F5 k a=(5,k,a,c4,c5,0) by rw[←hF5];rfl);have HE5:=Lib.hid (fun k a=>show ofC (7,c2,2,c4,c5,0) 5 k a=F5 k a by rw[←hF5]);clear hF5;have HCM:=Lib.hid (fun j=>zhc (7,c2,2,c4,c5,0) splits (kids.take j));have HCT:=Lib.hid (fun j (h:j<kids.length)=>zja (7,c2,2,c4,c5,0) kids splits h);simp only[HE5.out]at HCT
    obtain⟨CM,hCM⟩:∃C:List Int→List Rt6,(fun ks=>zd0 (7,c2,2,c4,c5,0) ks splits)=C:=⟨_,rfl⟩
    have HCE:=Lib.hid (fun ks=>show zd0 (7,c2,2,c4,c5,0) ks splits=CM ks by rw[←hCM]);simp only[HCE.out]at HCM HCT;have HC0:=Lib.hid (show CM []=[] by rw[←hCM];rfl);clear hCM;go_wp2_with fail;go_loopw [10,70] (fun out i wr=>∃(j:Nat) (ys:List Rt6),j≤kids.length∧i=.int .i64 j∧CM (kids.take j)=ys∧Outs za2 6 31 w6 wr out ys) (fun _ i _=>kids.length-(intOf i).toNat)
    case atStart=>exact⟨0,[],Nat.zero_le _,rfl,HC0.out,Outs.start _ _ _ (Tch.refl _ _)⟩
    case round=>
     obtain⟨j,ys,hj,rfl,hx,hO⟩:=hrel;obtain⟨O,co,rfl,ho1,ho2⟩:=hO.form
     have hyl:ys.length≤j*1000:=by
      rw[←hx,HCM.out,List.length_take,Nat.min_eq_left hj];exact Nat.mul_le_mul_left _ hsl
     have HX:=Lib.hid hx;have hj0:=znn j;clear hx;by_cases hlt:j<kids.length
     ·have hlt':(j:Int)<(kids.length:Int):=by omega
      obtain⟨g5,o5,rfl⟩:=hrw.head (by omega);have q5:=Row.one (hrw.keep hO.tch) zap hlt rfl;have HT:=Lib.hid (HCT.out j hlt);generalize kids[j]=kk at *;rw[HX.out]at HT;go_wp2_with fail;go_loopw [10,76] (fun out i wr=>∃(m:Nat) (xs:List Rt6),m≤splits.length∧i=.int .i64 m∧ys++(splits.take m).map (F5 kk)=xs∧Outs za2 6 31 w6 wr out xs) (fun _ i _=>splits.length-(intOf i).toNat)
      case atStart=>exact⟨0,ys,Nat.zero_le _,rfl,by simp,hO⟩
      case round=>
       clear hO q5 ho1 ho2;obtain⟨m,xs,hm,rfl,hx,hO⟩:=hrel;obtain⟨O,co,rfl,ho1,ho2⟩:=hO.form
       have hxl:xs.length≤41000:=by
        rw[←hx,List.length_append,List.length_map,List.length_take];omega
       have HX:=Lib.hid hx;have hm0:=znn m;clear hx;have bm:=b6.keep hO.tch id;by_cases hml:m<splits.length
       ·have hml':(m:Int)<(splits.length:Int):=by omega
        obtain⟨g7,o7,rfl⟩:=hrS.head (by omega);have q7:=Row.one (hrS.keep hO.tch) zap hml rfl;have HS:=Lib.hid (show ys++(splits.take (m+1)).map (F5 kk)=xs++[F5 kk splits[m]] by rw[map_take (F5 kk) hml,←List.append_assoc,HX.out]);generalize splits[m]=x at *;rw[HF5.out]at HS;go_wp2_with fail;refine(zdj 7 c2 2 c4 c5 0 5 kk x bm).mono ?_;rintro _ w5 ⟨rfl,t5⟩;have hO:=hO.keep t5;clear q7 bm;go_wp2_with (at_builtin;refine apd za1 (hO.own.alloc _) (Go.Gk.Src.one (news:=za2 (5,kk,x,c4,c5,0)) rfl (fun m9 u9 hu9=>by rw[(Blk.new w5 31 #[iV 5,iV kk,iV x,iV c4,iV c5,iV 0]).cell m9];simpa[za2]using hu9)) (zjd _) ?_;intro v2 w2 ho2 hg2 hl2;have hO2:=hO.step (x:=(5,kk,x,c4,c5,0)) (Tch.alloc _ _ _) ho2 hg2 hl2;obtain⟨O2,co2,rfl,_,_⟩:=zac ho2);go_roundw
        case rel=>exact⟨m+1,_,by omega,by go_num,HS.out,hO2⟩
        case measure=>simp[intOf];omega
       ·obtain rfl:splits.length=m:=by omega
        rw[List.take_length]at HX;have HX2:=Lib.hid (show CM (kids.take (j+1))=xs from HT.out.trans HX.out);clear HT HX;go_wp2;go_roundw
        case rel=>exact⟨j+1,xs,by omega,by go_num,HX2.out,hO⟩
        case measure=>simp[intOf];omega
     ·obtain rfl:kids.length=j:=by omega
      rw[List.take_length]at HX;have HMI:=Lib.hid (zjb (c:=(7,c2,2,c4,c5,0)) (ys:=ys) kids splits rfl (by rw[HCE.out,HX.out]));have hrM:=hO.row;have t68:=t6.trans hO.tch;have bw:=bw.keep t68 id;have rw4:=rw4.keep t68 id;have tW5:=tW5.trans t68;have hrP:=hrP.keep t68;have hlow5:z+2≤wr.heap.size:=by have:=t68.size;omega
      have hml:ys.length≤40000:=by omega
      clear hO t68 t6 HCE HC0 HCT HCM HF5 HE5 HX b6 hrw hrS hlt hyl
      have HFX:=Lib.hid (show(3,c2,2,c4,c5,0)::(xs++(ys++[(6,c2,2,c4,c5,0)]))=zco (7,c2,2,c4,c5,0) kids splits by
       rw[HMI.out,←HXP.out,←HE4.out]
       rfl)
      have HCR:=Lib.hid (fun(W:World) (g:Nat) (Pc Mc:List Value) (hP:xs.flatMap za2=Pc) (hM:ys.flatMap za2=Mc) (n:Nat) (hn:n=2+xs.length+ys.length) (hm:n≤maxLen)=>ztn (w:=W) (g:=g) (t:=31) (a:=(3,c2,2,c4,c5,0)) (b:=(6,c2,2,c4,c5,0)) hP hM hn hm);have h1P:=Lib.hid (ziv xs);have h1M:=Lib.hid (ziv ys);have hcP:(xs.flatMap za2).length=xs.length*6:=zc5 zd3 _;have hcM:(ys.flatMap za2).length=ys.length*6:=zc5 zd3 _;unfold zae at hrP hrM;have hrP:=hrP.keepTo (P':=fun g=>g<wr.heap.size) (Tch.refl (fun _=>False) _) (fun g hg _=>⟨id,hg⟩);have hrM:=hrM.keepTo (P':=fun g=>g<wr.heap.size) (Tch.refl (fun _=>False) _) (fun g hg _=>⟨id,hg⟩)
      obtain⟨Pc,hPc⟩:∃Pc,xs.flatMap za2=Pc:=⟨_,rfl⟩
      obtain⟨Mc,hMc⟩:∃Mc,ys.flatMap za2=Mc:=⟨_,rfl⟩
      have HCR2:=Lib.hid (fun W g=>HCR.out W g Pc Mc hPc hMc);rw[hPc]at hrP hcP;rw[hMc]at hrM hcM;have h1P2:=Lib.hid (show∀v∈Pc,v.oneCell'=true by rw[←hPc];exact h1P.out);have h1M2:=Lib.hid (show∀v∈Mc,v.oneCell'=true by rw[←hMc];exact h1M.out);clear hPc hMc HCR HXP HMI HE4 HF4 HOL h1P h1M;generalize ys.length=nm at *;generalize xs.length=np at *
      obtain⟨nn,hnn⟩:∃nn:Nat,nn=2+np+nm:=⟨_,rfl⟩
      obtain⟨p1,hp1⟩:∃p1:Nat,p1=1+np:=⟨_,rfl⟩
      obtain⟨q1,hq1⟩:∃q1:Nat,q1=1+np+nm:=⟨_,rfl⟩
      have e0:(2+(np:Int)+(nm:Int))=(nn:Int):=by omega
      have e1:(1+(np:Int))=(p1:Int):=by omega
      have e2:((p1:Int)+(nm:Int))=(q1:Int):=by omega
      have l1:1<nn:=by omega
      have l2:p1<nn:=by omega
      have l3:q1<nn:=by omega
      have l0':(0:Int)<(nn:Int):=by omega
      have l3':(q1:Int)<(nn:Int):=by omega
      have l3n:(0:Int)≤(q1:Int):=by omega
      have l4:np≤nn-1:=by omega
      have l5:nm≤nn-p1:=by omega
      have l6:48*nn≤281474976710656:=by omega
      have l7:nn≤9223372036854775807:=by omega
      have HRW:=Lib.hid (fun W g=>HCR2.out W g nn hnn l7);have HN:=Lib.hid (show nn*6=6+np*6+nm*6+6 by omega);have HP1:=Lib.hid (show p1*6=6+np*6 by omega);have HQ1:=Lib.hid (show q1*6=6+np*6+nm*6 by omega);clear hnn hp1 HCR2 hq1;go_wp2_with (refine zmd rfl _ _ _ rfl za1 (N:=(nn:Int)) (n:=nn) rfl (by rfl) (by rfl) l6 l7 ?_;refine Hid.out ?_);refine Lib.hid ?_;intro cells w10 hcl bN tN hlN;rw[HN.out]at hcl;obtain⟨X0,X1,X2,X3,rfl,hx0,hx1,hx2,hx3⟩:=znr cells hcl;clear hcl;generalize wr.heap.size=y at *;have b10:=bw.keep tN id;have r10:=rw4.keep tN id;have hrP:=hrP.keep tN;have hrM:=hrM.keep tN;have T10:=tW5.trans tN;clear bw rw4 tW5 tN;have k1:=b10.at1;have k2:=b10.at2;go_wp2_with fail;refine(zdj 7 c2 2 c4 c5 0 3 c2 2 b10).mono ?_;rintro _ w11 ⟨rfl,t11⟩;have bN:=bN.keep t11 id;have b11:=b10.keep t11 id;have r11:=r10.keep t11 id;have hrP:=hrP.keep t11;have hrM:=hrM.keep t11;have T11:=T10.trans t11;clear b10 r10 T10 t11 k1 k2 hlN
      obtain⟨V0,hV0⟩:∃V0:List Value,V0=[iV 3,iV c2,iV 2,iV c4,iV c5,iV 0]:=⟨_,rfl⟩
      have hv0:V0.length=6:=by rw[hV0];rfl
      have HV0:=Lib.hid hV0;clear hV0;go_wp2_with (refine zdp rfl _ _ _ rfl y 0 [] X0 [iV 3,iV c2,iV 2,iV c4,iV c5,iV 0] (X1++(X2++X3)) rfl (by rfl) (by rfl) (by simp[Value.oneCell']) (by kernel_rfl) hx0 (by simpa only[List.nil_append]using bN) ?_;refine Hid.out ?_);refine Lib.hid ?_;intro w12 bN2 ts;have bN2:Blk w12 y 31 (V0++(X1++(X2++X3))).toArray:=by rw[HV0.out];exact bN2
      have b12:=b11.keep ts (by omega);have r12:=r11.keep ts (by omega);have hrP:=hrP.keepTo (P':=fun g=>g<y) ts (fun g _ h=>⟨fun e=>by have e:g=y:=e;have h:g<y:=h;omega,h⟩);have hrM:=hrM.keepTo (P':=fun g=>g<y) ts (fun g _ h=>⟨fun e=>by have e:g=y:=e;have h:g<y:=h;omega,h⟩);have T12:=T11.trans' ts (fun i hi=>.inr (by have hi:i=y:=hi;have:=HZW.out;omega));clear b11 r11 T11 ts bN hx0;go_wp2_with (refine zc9 rfl _ _ _ _ rfl 31 Tryz.underlying42 (by kernel_rfl) (some ⟨y,1*6,none⟩) (nn-1) (nn-1) OP np cop (by rfl) (by rfl) l4 hrP y V0 X1 (X2++X3) (fun _=>by rw[hv0]) (by simpa only[List.append_assoc]using bN2) (hx1.trans hcP.symm) h1P2.out ?_;refine Hid.out ?_);refine Lib.hid ?_;intro w13 bN3 ts;have b13:=b12.keep ts (by omega);have r13:=r12.keep ts (by omega);have hrM:=hrM.keepTo (P':=fun g=>g<y) ts (fun g _ h=>⟨fun e=>by have e:g=y:=e;have h:g<y:=h;omega,h⟩);have T13:=T12.trans' ts (fun i hi=>.inr (by have hi:i=y:=hi;have:=HZW.out;omega));clear b12 r12 T12 ts bN2 hx1 hrP;go_wp2_with (refine zc9 rfl _ _ _ _ rfl 31 Tryz.underlying42 (by kernel_rfl) (some ⟨y,p1*6,none⟩) (nn-p1) (nn-p1) (O) (nm) (co) (by rfl) (by rfl) l5 hrM y (V0++Pc) X2 X3 (fun _=>by rw[List.length_append,hv0,hcP,HP1.out]) (by simpa only[List.append_assoc]using bN3) (hx2.trans hcM.symm) h1M2.out ?_;refine Hid.out ?_);refine Lib.hid ?_;intro w14 bN4 ts;have b14:=b13.keep ts (by omega);have r14:=r13.keep ts (by omega);have T14:=T13.trans' ts (fun i hi=>.inr (by have hi:i=y:=hi;have:=HZW.out;omega));clear b13 r13 T13 ts bN3 hx2 hrM;have k1:=b14.at1;have k2:=b14.at2;go_wp2_with fail;refine(zdj 7 c2 2 c4 c5 0 6 c2 2 b14).mono ?_;rintro _ w15 ⟨rfl,t15⟩;have bN5:=bN4.keep t15 id;have r15:=r14.keep t15 id;have T15:=T14.trans t15;clear b14 r14 T14 t15 bN4 k1 k2;go_wp2_with (refine zdp rfl _ _ _ rfl y (q1*6) (V0++Pc++Mc) X3 [iV 6,iV c2,iV 2,iV c4,iV c5,iV 0] [] (by rw[List.length_append,List.length_append,hv0,hcP,hcM,HQ1.out]) (by rfl) (by rfl) (by simp[Value.oneCell']) (by kernel_rfl) hx3 (by simpa only[List.append_assoc,List.append_nil]using bN5) ?_;refine Hid.out ?_);refine Lib.hid ?_;intro w16 bN6 ts
      have bN6:Blk w16 y 31 (za2 (3,c2,2,c4,c5,0)++Pc++Mc++za2 (6,c2,2,c4,c5,0)++[]).toArray:=by
       rw[HV0.out]at bN6;simpa[za2]using bN6
      have hr:=HRW.out w16 y bN6;rw[HFX.out]at hr;have hr:=Lib.hid hr;have r16:=r15.keep ts (by omega);have T16:=T15.trans' ts (fun i hi=>.inr (by have hi:i=y:=hi;have:=HZW.out;omega));clear r15 T15 ts bN5 bN6 hx3 HRW;go_wp2_with (refine stK (z+1) #[iV 0,iV 0,.slice (some ⟨y,0,none⟩) nn nn,.slice none 0 0,iV 0,iV 0,iV 0,iV 0,iV 0,iV 0,.bool false,iV 0,iV 0,.bool false] r16 ?_);intro w9 hF tF;have HBF:=Lib.hid hF;have HTF:=Lib.hid tF;have TT:=Lib.hid (T16.trans' (F':=fun g=>g=z+1) tF (fun i hi=>.inr (by have hi:i=z+1:=hi;have:=HZW.out;omega)));clear hF tF r16 T16;go_wp2;(try simp only[exS]);refine zbi HBF.out ?_;unfold zhd;rw[HLL.out];have HZY:=HZW.out;have hrf:=hr.out.keepTo (P':=fun _=>True) HTF.out (fun g _ h=>⟨fun e=>by have e:g=z+1:=e;have h:g=y:=h;omega,trivial⟩);exact⟨_,rfl,⟨_,_,rfl,hrf,Row.nil _ _ _⟩,TT.out⟩
   ·have h2':(c3==2)=false:=by simpa using h2
    have HMI:=Lib.hid (zkm (c:=(7,c2,c3,c4,c5,0)) kids splits h2);have hrM:=Row.nil (fun _=>True) wr 6;have hrM:zae za2 6 (fun _=>True) wr (.slice none 0 0) ([]:List Rt6):=hrM;have hml:([]:List Rt6).length≤40000:=by simp
    clear HSP5 h2 hrw
    have HFX:=Lib.hid (show(3,c2,c3,c4,c5,0)::(xs++(([]:List Rt6)++[(6,c2,c3,c4,c5,0)]))=zco (7,c2,c3,c4,c5,0) kids splits by
     rw[HMI.out,←HXP.out,←HE4.out]
     rfl)
    have HCR:=Lib.hid (fun(W:World) (g:Nat) (Pc Mc:List Value) (hP:xs.flatMap za2=Pc) (hM:([]:List Rt6).flatMap za2=Mc) (n:Nat) (hn:n=2+xs.length+([]:List Rt6).length) (hm:n≤maxLen)=>ztn (w:=W) (g:=g) (t:=31) (a:=(3,c2,c3,c4,c5,0)) (b:=(6,c2,c3,c4,c5,0)) hP hM hn hm);have h1P:=Lib.hid (ziv xs);have h1M:=Lib.hid (ziv ([]:List Rt6));have hcP:(xs.flatMap za2).length=xs.length*6:=zc5 zd3 _;have hcM:(([]:List Rt6).flatMap za2).length=([]:List Rt6).length*6:=zc5 zd3 _;unfold zae at hrP hrM;have hrP:=hrP.keepTo (P':=fun g=>g<wr.heap.size) (Tch.refl (fun _=>False) _) (fun g hg _=>⟨id,hg⟩);have hrM:=hrM.keepTo (P':=fun g=>g<wr.heap.size) (Tch.refl (fun _=>False) _) (fun g hg _=>⟨id,hg⟩)
    obtain⟨Pc,hPc⟩:∃Pc,xs.flatMap za2=Pc:=⟨_,rfl⟩
    obtain⟨Mc,hMc⟩:∃Mc,([]:List Rt6).flatMap za2=Mc:=⟨_,rfl⟩
    have HCR2:=Lib.hid (fun W g=>HCR.out W g Pc Mc hPc hMc);rw[hPc]at hrP hcP;rw[hMc]at hrM hcM;have h1P2:=Lib.hid (show∀v∈Pc,v.oneCell'=true by rw[←hPc];exact h1P.out);have h1M2:=Lib.hid (show∀v∈Mc,v.oneCell'=true by rw[←hMc];exact h1M.out);clear hPc hMc HCR HXP HMI HE4 HF4 HOL h1P h1M;simp only[List.length_nil]at hrM hcM HCR2;generalize xs.length=np at *
    obtain⟨nn,hnn⟩:∃nn:Nat,nn=2+np+0:=⟨_,rfl⟩
    obtain⟨p1,hp1⟩:∃p1:Nat,p1=1+np:=⟨_,rfl⟩
    have e0:(2+(np:Int))=(nn:Int):=by omega
    have e1:(1+(np:Int))=(p1:Int):=by omega
    skip
    have l1:1<nn:=by omega
    have l2:p1<nn:=by omega
    have l3:p1<nn:=by omega
    have l0':(0:Int)<(nn:Int):=by omega
    have l3':(p1:Int)<(nn:Int):=by omega
    have l3n:(0:Int)≤(p1:Int):=by omega
    have l4:np≤nn-1:=by omega
    have l5:0≤nn-p1:=by omega
    have l6:48*nn≤281474976710656:=by omega
    have l7:nn≤9223372036854775807:=by omega
    have HRW:=Lib.hid (fun W g=>HCR2.out W g nn hnn l7);have HN:=Lib.hid (show nn*6=6+np*6+0*6+6 by omega);have HP1:=Lib.hid (show p1*6=6+np*6 by omega);have HQ1:=Lib.hid (show p1*6=6+np*6+0*6 by omega);clear hnn hp1 HCR2;go_wp2_with (refine zmd rfl _ _ _ rfl za1 (N:=(nn:Int)) (n:=nn) rfl (by rfl) (by rfl) l6 l7 ?_;refine Hid.out ?_);refine Lib.hid ?_;intro cells w10 hcl bN tN hlN;rw[HN.out]at hcl;obtain⟨X0,X1,X2,X3,rfl,hx0,hx1,hx2,hx3⟩:=znr cells hcl;clear hcl k2;generalize wr.heap.size=y at *;have b10:=bw.keep tN id;have r10:=rw4.keep tN id;have hrP:=hrP.keep tN;have hrM:=hrM.keep tN;have T10:=tW5.trans tN;clear bw rw4 tW5 tN;have k1:=b10.at1;have k2:=b10.at2;go_wp2_with fail;refine(zdj 7 c2 c3 c4 c5 0 3 c2 c3 b10).mono ?_;rintro _ w11 ⟨rfl,t11⟩;have bN:=bN.keep t11 id;have b11:=b10.keep t11 id;have r11:=r10.keep t11 id;have hrP:=hrP.keep t11;have hrM:=hrM.keep t11;have T11:=T10.trans t11;clear b10 r10 T10 t11 k1 k2 hlN
    obtain⟨V0,hV0⟩:∃V0:List Value,V0=[iV 3,iV c2,iV c3,iV c4,iV c5,iV 0]:=⟨_,rfl⟩
    have hv0:V0.length=6:=by rw[hV0];rfl
    have HV0:=Lib.hid hV0;clear hV0;go_wp2_with (refine zdp rfl _ _ _ rfl y 0 [] X0 [iV 3,iV c2,iV c3,iV c4,iV c5,iV 0] (X1++(X2++X3)) rfl (by rfl) (by rfl) (by simp[Value.oneCell']) (by kernel_rfl) hx0 (by simpa only[List.nil_append]using bN) ?_;refine Hid.out ?_);refine Lib.hid ?_;intro w12 bN2 ts;have bN2:Blk w12 y 31 (V0++(X1++(X2++X3))).toArray:=by rw[HV0.out];exact bN2
    have b12:=b11.keep ts (by omega);have r12:=r11.keep ts (by omega);have hrP:=hrP.keepTo (P':=fun g=>g<y) ts (fun g _ h=>⟨fun e=>by have e:g=y:=e;have h:g<y:=h;omega,h⟩);have hrM:=hrM.keepTo (P':=fun g=>g<y) ts (fun g _ h=>⟨fun e=>by have e:g=y:=e;have h:g<y:=h;omega,h⟩);have T12:=T11.trans' ts (fun i hi=>.inr (by have hi:i=y:=hi;have:=HZW.out;omega));clear b11 r11 T11 ts bN hx0;go_wp2_with (refine zc9 rfl _ _ _ _ rfl 31 Tryz.underlying42 (by kernel_rfl) (some ⟨y,1*6,none⟩) (nn-1) (nn-1) OP np cop (by rfl) (by rfl) l4 hrP y V0 X1 (X2++X3) (fun _=>by rw[hv0]) (by simpa only[List.append_assoc]using bN2) (hx1.trans hcP.symm) h1P2.out ?_;refine Hid.out ?_);refine Lib.hid ?_;intro w13 bN3 ts;have b13:=b12.keep ts (by omega);have r13:=r12.keep ts (by omega);have hrM:=hrM.keepTo (P':=fun g=>g<y) ts (fun g _ h=>⟨fun e=>by have e:g=y:=e;have h:g<y:=h;omega,h⟩);have T13:=T12.trans' ts (fun i hi=>.inr (by have hi:i=y:=hi;have:=HZW.out;omega));clear b12 r12 T12 ts bN2 hx1 hrP;go_wp2_with (refine zc9 rfl _ _ _ _ rfl 31 Tryz.underlying42 (by kernel_rfl) (some ⟨y,p1*6,none⟩) (nn-p1) (nn-p1) (none) (0) (0) (by rfl) (by rfl) l5 hrM y (V0++Pc) X2 X3 (fun _=>by rw[List.length_append,hv0,hcP,HP1.out]) (by simpa only[List.append_assoc]using bN3) (hx2.trans hcM.symm) h1M2.out ?_;refine Hid.out ?_);refine Lib.hid ?_;intro w14 bN4 ts;have b14:=b13.keep ts (by omega);have r14:=r13.keep ts (by omega);have T14:=T13.trans' ts (fun i hi=>.inr (by have hi:i=y:=hi;have:=HZW.out;omega));clear b13 r13 T13 ts bN3 hx2 hrM;have k1:=b14.at1;have k2:=b14.at2;go_wp2_with fail;refine(zdj 7 c2 c3 c4 c5 0 6 c2 c3 b14).mono ?_;rintro _ w15 ⟨rfl,t15⟩;have bN5:=bN4.keep t15 id;have r15:=r14.keep t15 id;have T15:=T14.trans t15;clear b14 r14 T14 t15 bN4 k1 k2;go_wp2_with (refine zdp rfl _ _ _ rfl y (p1*6) (V0++Pc++Mc) X3 [iV 6,iV c2,iV c3,iV c4,iV c5,iV 0] [] (by rw[List.length_append,List.length_append,hv0,hcP,hcM,HQ1.out]) (by rfl) (by rfl) (by simp[Value.oneCell']) (by kernel_rfl) hx3 (by simpa only[List.append_assoc,List.append_nil]using bN5) ?_;refine Hid.out ?_);refine Lib.hid ?_;intro w16 bN6 ts
    have bN6:Blk w16 y 31 (za2 (3,c2,c3,c4,c5,0)++Pc++Mc++za2 (6,c2,c3,c4,c5,0)++[]).toArray:=by
     rw[HV0.out]at bN6;simpa[za2]using bN6
    have hr:=HRW.out w16 y bN6;rw[HFX.out]at hr;have hr:=Lib.hid hr;have r16:=r15.keep ts (by omega);have T16:=T15.trans' ts (fun i hi=>.inr (by have hi:i=y:=hi;have:=HZW.out;omega));clear r15 T15 ts bN5 bN6 hx3 HRW;go_wp2_with (refine stK (z+1) #[iV 0,iV 0,.slice (some ⟨y,0,none⟩) nn nn,.slice none 0 0,iV 0,iV 0,iV 0,iV 0,iV 0,iV 0,.bool false,iV 0,iV 0,.bool false] r16 ?_);intro w9 hF tF;have HBF:=Lib.hid hF;have HTF:=Lib.hid tF;have TT:=Lib.hid (T16.trans' (F':=fun g=>g=z+1) tF (fun i hi=>.inr (by have hi:i=z+1:=hi;have:=HZW.out;omega)));clear hF tF r16 T16;go_wp2;(try simp only[exS]);refine zbi HBF.out ?_;unfold zhd;rw[HLL.out];have HZY:=HZW.out;have hrf:=hr.out.keepTo (P':=fun _=>True) HTF.out (fun g _ h=>⟨fun e=>by have e:g=z+1:=e;have h:g=y:=h;omega,trivial⟩);exact⟨_,rfl,⟨_,_,rfl,hrf,Row.nil _ _ _⟩,TT.out⟩
