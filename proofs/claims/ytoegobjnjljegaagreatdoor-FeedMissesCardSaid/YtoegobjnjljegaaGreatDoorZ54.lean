/-
  What parents and others have: keys that may be, shares.
-/
import Derived.Test.YtoegobjnjljegaaGreatDoorZ59
set_option maxRecDepth 100000
set_option maxHeartbeats 12800000
namespace Go.Proofs.YtoegobjnjljegaaGreatDoor
open Go.RowKit Go.Gk
section
variable {w:World} {bv bi B t mr mp:Nat} {e a s r l n lv:Value} {fs:List Value} {b:Bks} {us:List (Ent×Value)}
theorem zqj (h:Vw w bv bi B t mr mp e a s r l n lv fs b us) (hn:(zag b.accs).length≤1000) (c:Rt6):
 Calls Tryz.prog 222 #[.pointer (some ⟨bv,0,none⟩),zcq c] w fun x w'=>x=.returned (iV (za7 b c 4 5))∧Tf w w':=by
 obtain⟨c1,c2,c3,c4,c5,c6⟩:=c;have tw:=tal w (.cells #[iV c1,iV c2,iV c3,iV c4,iV c5,iV c6] 31);have hb:=Blk.new w 31 #[iV c1,iV c2,iV c3,iV c4,iV c5,iV c6];have h1:=h.keep tw;have HM:=Lib.hid (ze3 h1 (c1,c2,c3,c4,c5,c6));have HL:=Lib.hid (fun w' (tc:Tf (w.alloc (.cells #[iV c1,iV c2,iV c3,iV c4,iV c5,iV c6] 31)) w')=>zdx (h1.keep tc) hn c3);rw[zb9]at HL
 obtain⟨m,hm⟩:∃m,za7 b (c1,c2,c3,c4,c5,c6) 4 5=m:=⟨_,rfl⟩
 rw[hm];unfold za7 at hm;simp only at hm;generalize za3 (c1,c2,c3,c4,c5,c6) b.ents.length b.accs.length=k at *;generalize zas b.accs c3=lf at *;have HMM:=Lib.hid hm;unfold zcq at HM⊢;simp only at HM⊢;clear hm h h1;go_enter Tryz.func222,Tryz.ntmps222;go_wp2_with fail;generalize w.alloc (.cells #[iV c1,iV c2,iV c3,iV c4,iV c5,iV c6] 31)=W at *;generalize w.heap.size=z at *;refine HM.out.mono ?_;rintro _ w1 ⟨rfl,t1⟩;clear HM;have tt:=tw.trans t1;by_cases hk:k=0
 rotate_left
 ·have hk':(k !=0)=true:=by simpa using hk
  obtain rfl:m=k:=by rw[←HMM.out,if_neg hk]
  clear HMM;go_wp2;go_ret;exact⟨rfl,tt⟩
 subst hk;have q0:=(hb.keep t1 id).at0;have q2:=(hb.keep t1 id).at2;by_cases hr:c1=4∨c1=5
 rotate_left
 ·obtain rfl:m=25:=by rw[←HMM.out,if_pos rfl,if_pos (by omega)]
  have h1:(c1 !=4)=true:=by simp;omega
  have h2:(c1 !=5)=true:=by simp;omega
  clear HMM hr;go_wp2;go_ret;exact⟨rfl,tt⟩
 have HMM:=Lib.hid (show(if lf=true then(0:Int)else 27)=m by
  have h9:=HMM.out;rw[if_pos rfl,if_neg (show¬(c1<4∨5<c1) by omega)]at h9
  exact h9)
 rcases hr with rfl|rfl
 all_goals
  go_wp2_with fail;refine(HL.out w1 t1).mono ?_;rintro _ w2 ⟨rfl,t2⟩;clear HL q0 q2
  cases lf
  ·obtain rfl:m=27:=by rw[←HMM.out];rfl
   go_wp2;go_ret;exact⟨rfl,tt.trans t2⟩
  ·obtain rfl:m=0:=by rw[←HMM.out];rfl
   go_wp2;go_ret;exact⟨rfl,tt.trans t2⟩
theorem zmz (h:Vw w bv bi B t mr mp e a s r l n lv fs b us) (h40:b.ents.length≤40) (c1 c2 c3 c4 c5 c6:Int) (hl:zas b.accs c3=true) (hp0:0≤c4) (hp1:c4≤23):
 Calls Tryz.prog 224 #[.pointer (some ⟨bv,0,none⟩),.agg #[iV c1,iV c2,iV c3,iV c4,iV c5,iV c6]] w fun x w'=>x=.returned (iV (zcg b (c1,c2,c3,c4,c5,c6)))∧Tf w w':=by
 have tw:=tal w (.cells #[iV c1,iV c2,iV c3,iV c4,iV c5,iV c6] 31);have hb:=Blk.new w 31 #[iV c1,iV c2,iV c3,iV c4,iV c5,iV c6];obtain⟨k,hk,hc3,hat⟩:=zd4 hl
 obtain⟨p,rfl⟩:∃p:Nat,c4=(p:Int):=⟨c4.toNat,by omega⟩
 have hp:p<24:=by omega
 obtain⟨g,hg,hF⟩:=h.forests p hp;have HACC:=Lib.hid (zdn (h.keep tw) hk c3 hc3);have HFO:=Lib.hid (fun w' (t:Tf w w')=>zid (h.keep t) hp hg);have HSH:=Lib.hid (fun w' (t:Tf w w')=>zu7 (hF.keep t id) h40 c2)
 obtain⟨R,hR⟩:∃R,zcg b (c1,c2,c3,(p:Int),c5,c6)=R:=⟨_,rfl⟩
 rw[hR];unfold zcg zfj at hR;simp only at hR;rw[hat]at hR;simp only[Option.map_some,Option.getD_some]at hR;have HR:=Lib.hid (show(if b.accs[k].2.2.1=true then(if 1≤c2∧c2≤b.ents.length then zbb b.stakes c2 p else 0)else 10000)=R from hR);generalize b.accs[k]=y at *;obtain⟨y1,y2,y3,y4⟩:=y;unfold zfq at HACC;simp only at HACC HR;generalize(if 1≤c2∧c2≤(b.ents.length:Int)then zbb b.stakes c2 p else 0)=S at *;clear h hR hat hc3 hk hF hg hl h40;go_enter Tryz.func224,Tryz.ntmps224;go_wp2_with fail;generalize w.alloc _=W at *;generalize w.heap.size=z at *;refine HACC.out.mono ?_;rintro _ w1 ⟨rfl,t1⟩;clear HACC;have tb:=tal w1 (.cells #[iV y1,iV y2,.bool y3,.bool y4] 91);have b1:=(hb.keep t1 id).keep tb id;have bA:=Blk.new w1 91 #[iV y1,iV y2,.bool y3,.bool y4];have tt:=(tw.trans t1).trans tb;clear hb tw tb
 cases y3
 ·obtain rfl:(10000:Int)=R:=HR.out;clear HR HFO HSH;go_wp2;go_ret;exact⟨rfl,tt⟩
 ·obtain rfl:S=R:=HR.out;clear HR;go_wp2_with fail;generalize w1.alloc _=W1 at *;generalize w1.heap.size=z1 at *;have y0:=wc0 b1.at3;have y1:=wc0 b1.at1;refine zai (fun _=>False) [] 6 [(3,.inl (.pointer (some ⟨g,0,none⟩)))] [] ?_ ?_
  ·exact trivial
  intro bef _;iterate 3 (refine zbt ?_;(try simp only[zaw]))
  refine zb3 (.pointer (some ⟨g,0,none⟩)) (by rfl) (by rfl) (fun w2 hr hf=>?_) ?_
  ·refine zaa (d:=20) rfl (by simp) (fun K hK=>?_);go_step;refine(HFO.out w2 (tt.trans ((Tch.drew _ W1).trans hr))).mono ?_;rintro _ _ ⟨rfl,rfl⟩;exact hK _ _ ⟨⟨rfl,Tch.refl _ _⟩,zaf⟩
  simp only[zaw];iterate 2 (refine zbt ?_;(try simp only[zaw]))
  refine za6 ?_;intro w2 hr hp1 hap;have t2:=tt.trans ((Tch.drew _ W1).trans hr);clear hap hp1 hr y0 y1 HFO b1 bA;go_wp2_with fail;refine(HSH.out w2 t2).mono ?_;rintro _ _ ⟨rfl,rfl⟩;go_wp2;go_ret;exact⟨rfl,t2⟩
end
theorem zeq (c1 c2 c3 c4 c5 c6 rl:Int) {w:World} {g:Nat} (hb:Blk w g 31 #[iV c1,iV c2,iV c3,iV c4,iV c5,iV c6]):
 Calls Tryz.prog 223 #[iV rl,.pointer (some ⟨g,0,none⟩)] w fun x w'=>x=.returned (.agg #[iV rl,iV c2,iV c3,iV c4,iV c5,iV c6])∧Tf w w':=by
 have ta:=tal w (.cells #[iV 0,iV 0,iV 0,iV 0,iV 0,iV 0] 31);have hb1:=hb.keep ta id;have q0:=hb1.cell 0;have q1:=hb1.cell 1;have q2:=hb1.cell 2;have q3:=hb1.cell 3;have q4:=hb1.cell 4;have q5:=hb1.cell 5;simp at q0 q1 q2 q3 q4 q5;clear hb1;go_enter Tryz.func223,Tryz.ntmps223;go_wp2;refine zfe ((Blk.new w 31 _).alloc _) ?_;exact⟨rfl,(Tch.alloc _ _ _).trans (Tch.alloc _ _ _)⟩
open Go.RowKit Go.Gk
section
variable {w:World} {bv bi B t mr mp:Nat} {e a s r l n lv:Value} {fs:List Value} {b:Bks} {us:List (Ent×Value)}
def zd2 (b:Bks) (c:Rt6) (w:World) (x:Ending) (w':World):Prop:=∃v,x=.returned (.tuple #[v,iV (zcc b c).2])∧RcpIs w' v (zcc b c).1∧Tf w w'
theorem zko (h:Vw w bv bi B t mr mp e a s r l n lv fs b us) (hn:(zag b.accs).length≤1000) (h40:b.ents.length≤40) (c1 c2 c3 c4 c5 c6:Int):
 Calls Tryz.prog 154 #[.pointer (some ⟨bv,0,none⟩),.agg #[iV c1,iV c2,iV c3,iV c4,iV c5,iV c6]] w (zd2 b (c1,c2,c3,c4,c5,c6) w):=by
 have ta:=tal w (.cells #[iV c1,iV c2,iV c3,iV c4,iV c5,iV c6] 31);have tb:=tal (w.alloc (.cells #[iV c1,iV c2,iV c3,iV c4,iV c5,iV c6] 31)) (.cells #[iV 0,iV 0,.slice none 0 0,.slice none 0 0,iV 0,iV 0,iV 0,iV 0,iV 0,iV 0,.bool false,iV 0,iV 0,.bool false] 48);have tw:=ta.trans tb;have hbC:=(Blk.new w 31 #[iV c1,iV c2,iV c3,iV c4,iV c5,iV c6]).keep tb id;have hbR:=Blk.new2 w (.cells #[iV c1,iV c2,iV c3,iV c4,iV c5,iV c6] 31) 48 #[iV 0,iV 0,.slice none 0 0,.slice none 0 0,iV 0,iV 0,iV 0,iV 0,iV 0,iV 0,.bool false,iV 0,iV 0,.bool false];have HM:=Lib.hid (zqj (h.keep tw) hn (c1,c2,c3,c4,c5,c6));have HH:=Lib.hid (h.keep tw);have hsz:((w.alloc (.cells #[iV c1,iV c2,iV c3,iV c4,iV c5,iV c6] 31)).alloc (.cells #[iV 0,iV 0,.slice none 0 0,.slice none 0 0,iV 0,iV 0,iV 0,iV 0,iV 0,iV 0,.bool false,iV 0,iV 0,.bool false] 48)).heap.size=w.heap.size+2:=by simp
 unfold zcq at HM;simp only at HM;have HL:Hid (zcc b (c1,c2,c3,c4,c5,c6)=if za7 b (c1,c2,c3,c4,c5,c6) 4 5=0 then(zc8 (c1,c2,c3,c4,c5,c6) (zcg b (c1,c2,c3,c4,c5,c6)),0)else(Rcp.none,za7 b (c1,c2,c3,c4,c5,c6) 4 5)):=Lib.hid rfl;have HFA:=Lib.hid (fun h=>zdo (b:=b) (c:=(c1,c2,c3,c4,c5,c6)) (lo:=4) (hi:=5) h);generalize za7 b (c1,c2,c3,c4,c5,c6) 4 5=m at *;clear ta tb h;go_enter Tryz.func154,Tryz.ntmps154;go_wp2_with fail;generalize(w.alloc (.cells #[iV c1,iV c2,iV c3,iV c4,iV c5,iV c6] 31)).alloc _=W at *;generalize hzw:w.heap.size=z at *;have HZW:=Lib.hid hzw;clear hzw;refine HM.out.mono ?_;rintro _ w1 ⟨rfl,t1⟩;clear HM;have b1:=hbC.keep t1 id;have r1:=hbR.keep t1 id;have h1:=HH.out.keep t1;have tW:=tw.trans t1;have hlow:z+2≤w1.heap.size:=by have:=t1.size;omega
 clear hbC hbR HH tw t1 hsz;by_cases hm:m=0
 rotate_left
 ·have hm':(m !=0)=true:=by simpa using hm
  have HLN:=Lib.hid (show zcc b (c1,c2,c3,c4,c5,c6)=(Rcp.none,m) by rw[HL.out,if_neg hm]);clear hm;go_wp2_with (refine stK (z+1) #[iV 0,iV 0,.slice none 0 0,.slice none 0 0,iV 0,iV 0,iV 0,iV 0,iV 0,iV 0,.bool false,iV 0,iV 0,.bool false] r1 ?_);intro w9 hF tF;have HBF:=Lib.hid hF;have HTF:=Lib.hid tF;have TT:=Lib.hid (tW.trans' (F':=fun g=>g=z+1) tF (fun i hi=>.inr (by have hi:i=z+1:=hi;have:=HZW.out;omega)));clear hF tF h1 r1 tW;go_wp2;(try simp only[exS]);refine zbi HBF.out ?_;unfold zd2;rw[HLN.out];exact⟨_,rfl,⟨_,_,rfl,Row.nil _ _ _,Row.nil _ _ _⟩,TT.out⟩
 subst hm;obtain⟨hr,⟨hp0,hp1⟩,_,hlf⟩:=HFA.out rfl;(try simp only at hr hp0 hp1 hlf);clear HFA;have tm:=tal w1 (.cells #[iV 0,iV 0,.slice none 0 0,.slice none 0 0,iV 0,iV 0,iV 0,iV 0,iV 0,iV 0,.bool false,iV 0,iV 0,.bool false] 48);have HS:=Lib.hid (zmz (h1.keep tm) h40 c1 c2 c3 c4 c5 c6 hlf hp0 hp1);generalize zcg b (c1,c2,c3,c4,c5,c6)=sp at *;have HLL:=Lib.hid (show zcc b (c1,c2,c3,c4,c5,c6)=(zc8 (c1,c2,c3,c4,c5,c6) sp,0) by rw[HL.out,if_pos rfl]);clear HL h1 hlf h40 hn;have bM:=Blk.new w1 48 #[iV 0,iV 0,.slice none 0 0,.slice none 0 0,iV 0,iV 0,iV 0,iV 0,iV 0,iV 0,.bool false,iV 0,iV 0,.bool false];have b2:=b1.keep tm id;have r2:=r1.keep tm id;have t2:=tW.trans tm;have hsz2:(w1.alloc (.cells #[iV 0,iV 0,.slice none 0 0,.slice none 0 0,iV 0,iV 0,iV 0,iV 0,iV 0,iV 0,.bool false,iV 0,iV 0,.bool false] 48)).heap.size=w1.heap.size+1:=by simp
 obtain⟨k0,k1,k2,k3,k4,k5⟩:=b2.f6;clear b1 r1 tW tm;go_wp2_with fail;generalize w1.alloc _=W1 at *;generalize hmm:w1.heap.size=m at *;clear hmm;refine HS.out.mono ?_;rintro _ w3 ⟨rfl,t3⟩;have b3:=b2.keep t3 id;have r3:=r2.keep t3 id;have n3:=bM.keep t3 id;have tt3:=t2.trans t3;have s3:m<w3.heap.size:=by have:=t3.size;omega
 clear HS b2 r2 bM t2 t3 k0 k1 k2 k3 k4 k5 hsz2;have q0:=b3.at0;have hr2:c1=4∨c1=5:=by omega
 clear hr;rcases hr2 with rfl|rfl;rotate_left
 ·have HL5:=Lib.hid (show zcc b (5,c2,c3,c4,c5,c6)=({Rcp.none with plus:=[(7,c2,c3,c4,c5,c6)],minus:=[(4,c2,c3,c4,c5,c6)]},0) by rw[HLL.out];rfl);clear HLL;have t3:=tt3;clear tt3;go_wp2_with fail;clear q0;refine(zeq 5 c2 c3 c4 c5 c6 4 b3).mono ?_;rintro _ x4 ⟨rfl,u4⟩;have a4:=tal x4 (.cells #[iV 4,iV c2,iV c3,iV c4,iV c5,iV c6] 31);have g4:=Blk.new x4 31 #[iV 4,iV c2,iV c3,iV c4,iV c5,iV c6];have bb4:=(b3.keep u4 id).keep a4 id;have nn4:=(n3.keep u4 id).keep a4 id;have rr4:=(r3.keep u4 id).keep a4 id;have tt4:=(t3.trans u4).trans a4
  have hs4:m<x4.heap.size∧x4.heap.size<(x4.alloc (.cells #[iV 4,iV c2,iV c3,iV c4,iV c5,iV c6] 31)).heap.size:=by
   have:=u4.size;simp;omega
  clear b3 n3 r3 t3 u4 a4;go_wp2_with (refine zab rfl _ _ _ rfl m 3 (.slice (some ⟨x4.heap.size,0,none⟩) 1 1) (by rfl) (by rfl) rfl (by rfl) nn4 (by simp) ?_;refine Hid.out ?_);refine Lib.hid ?_;intro y4 n4 ts4;generalize x4.heap.size=s4 at *;(try simp only[List.setIfInBounds_toArray,List.set_cons_succ,List.set_cons_zero]at n4);have g4:=g4.keep ts4 (by omega);have b4:=bb4.keep ts4 (by omega);have r4:=rr4.keep ts4 (by omega);have t4:=tt4.trans' ts4 (fun i hi=>.inr (by have hi:i=m:=hi;have:=HZW.out;omega));have S4:m<s4∧s4<y4.heap.size:=by have:=ts4.size;omega
  clear bb4 nn4 rr4 tt4 ts4 hs4;go_wp2_with fail;refine(zeq 5 c2 c3 c4 c5 c6 7 b4).mono ?_;rintro _ x5 ⟨rfl,u5⟩;have a5:=tal x5 (.cells #[iV 7,iV c2,iV c3,iV c4,iV c5,iV c6] 31);have g5:=Blk.new x5 31 #[iV 7,iV c2,iV c3,iV c4,iV c5,iV c6];have bb5:=(b4.keep u5 id).keep a5 id;have nn5:=(n4.keep u5 id).keep a5 id;have rr5:=(r4.keep u5 id).keep a5 id;have tt5:=(t4.trans u5).trans a5;have g4:=(g4.keep u5 id).keep a5 id
  have hs5:m<x5.heap.size∧x5.heap.size<(x5.alloc (.cells #[iV 7,iV c2,iV c3,iV c4,iV c5,iV c6] 31)).heap.size:=by
   have:=u5.size;simp;omega
  clear b4 n4 r4 t4 u5 a5;go_wp2_with (refine zab rfl _ _ _ rfl m 2 (.slice (some ⟨x5.heap.size,0,none⟩) 1 1) (by rfl) (by rfl) rfl (by rfl) nn5 (by simp) ?_;refine Hid.out ?_);refine Lib.hid ?_;intro y5 n5 ts5;generalize x5.heap.size=s5 at *;(try simp only[List.setIfInBounds_toArray,List.set_cons_succ,List.set_cons_zero]at n5);have g5:=g5.keep ts5 (by omega);have g4:=g4.keep ts5 (by omega);have b5:=bb5.keep ts5 (by omega);have r5:=rr5.keep ts5 (by omega);have t5:=tt5.trans' ts5 (fun i hi=>.inr (by have hi:i=m:=hi;have:=HZW.out;omega));have S5:m<s5∧s5<y5.heap.size:=by have:=ts5.size;omega
  clear bb5 nn5 rr5 tt5 ts5 hs5;go_wp2_with (refine wpList_load_row rfl _ _ rfl m (by rfl) 48 #[iV 0,iV 0,.slice (some ⟨s5,0,none⟩) 1 1,.slice (some ⟨s4,0,none⟩) 1 1,iV 0,iV 0,iV 0,iV 0,iV 0,iV 0,.bool false,iV 0,iV 0,.bool false] (0,0) _ n5 Tryz.underlying48 rfl (by kernel_rfl) ?_;refine Hid.out ?_);refine Lib.hid ?_;go_wp2_with (refine stK (z+1) #[iV 0,iV 0,.slice (some ⟨s5,0,none⟩) 1 1,.slice (some ⟨s4,0,none⟩) 1 1,iV 0,iV 0,iV 0,iV 0,iV 0,iV 0,.bool false,iV 0,iV 0,.bool false] r5 ?_);intro w9 hF tF;have HBF:=Lib.hid hF;have HTF:=Lib.hid tF;have TT:=Lib.hid (t5.trans' (F':=fun g=>g=z+1) tF (fun i hi=>.inr (by have hi:i=z+1:=hi;have:=HZW.out;omega)));clear hF tF n5 r5 t5;go_wp2;(try simp only[exS]);refine zbi HBF.out ?_;unfold zd2;rw[HL5.out];exact⟨_,rfl,⟨_,_,rfl,Row.blk (g5.keep HTF.out (by omega)) trivial rfl (by decide),Row.blk (g4.keep HTF.out (by omega)) trivial rfl (by decide)⟩,TT.out⟩
 have t3:=tt3;clear tt3;by_cases h1:sp=10000
 ·subst h1;have HL4:=Lib.hid (show zcc b (4,c2,c3,c4,c5,c6)=({Rcp.none with plus:=[(7,c2,c3,c4,c5,c6)]},0) by rw[HLL.out];rfl);clear HLL;go_wp2_with fail;clear q0;refine(zeq 4 c2 c3 c4 c5 c6 7 b3).mono ?_;rintro _ x5 ⟨rfl,u5⟩;have a5:=tal x5 (.cells #[iV 7,iV c2,iV c3,iV c4,iV c5,iV c6] 31);have g5:=Blk.new x5 31 #[iV 7,iV c2,iV c3,iV c4,iV c5,iV c6];have bb5:=(b3.keep u5 id).keep a5 id;have nn5:=(n3.keep u5 id).keep a5 id;have rr5:=(r3.keep u5 id).keep a5 id;have tt5:=(t3.trans u5).trans a5
  have hs5:m<x5.heap.size∧x5.heap.size<(x5.alloc (.cells #[iV 7,iV c2,iV c3,iV c4,iV c5,iV c6] 31)).heap.size:=by
   have:=u5.size;simp;omega
  clear b3 n3 r3 t3 u5 a5;go_wp2_with (refine zab rfl _ _ _ rfl m 2 (.slice (some ⟨x5.heap.size,0,none⟩) 1 1) (by rfl) (by rfl) rfl (by rfl) nn5 (by simp) ?_;refine Hid.out ?_);refine Lib.hid ?_;intro y5 n5 ts5;generalize x5.heap.size=s5 at *;(try simp only[List.setIfInBounds_toArray,List.set_cons_succ,List.set_cons_zero]at n5);have g5:=g5.keep ts5 (by omega);have b5:=bb5.keep ts5 (by omega);have r5:=rr5.keep ts5 (by omega);have t5:=tt5.trans' ts5 (fun i hi=>.inr (by have hi:i=m:=hi;have:=HZW.out;omega));have S5:m<s5∧s5<y5.heap.size:=by have:=ts5.size;omega
  clear bb5 nn5 rr5 tt5 ts5 hs5;go_wp2_with (refine wpList_load_row rfl _ _ rfl m (by rfl) 48 #[iV 0,iV 0,.slice (some ⟨s5,0,none⟩) 1 1,.slice none 0 0,iV 0,iV 0,iV 0,iV 0,iV 0,iV 0,.bool false,iV 0,iV 0,.bool false] (0,0) _ n5 Tryz.underlying48 rfl (by kernel_rfl) ?_;refine Hid.out ?_);refine Lib.hid ?_;go_wp2_with (refine stK (z+1) #[iV 0,iV 0,.slice (some ⟨s5,0,none⟩) 1 1,.slice none 0 0,iV 0,iV 0,iV 0,iV 0,iV 0,iV 0,.bool false,iV 0,iV 0,.bool false] r5 ?_);intro w9 hF tF;have HBF:=Lib.hid hF;have HTF:=Lib.hid tF;have TT:=Lib.hid (t5.trans' (F':=fun g=>g=z+1) tF (fun i hi=>.inr (by have hi:i=z+1:=hi;have:=HZW.out;omega)));clear hF tF n5 r5 t5;go_wp2;(try simp only[exS]);refine zbi HBF.out ?_;unfold zd2;rw[HL4.out];exact⟨_,rfl,⟨_,_,rfl,Row.blk (g5.keep HTF.out (by omega)) trivial rfl (by decide),Row.nil _ _ _⟩,TT.out⟩
 have h1':(sp==10000)=false:=by simpa using h1
 by_cases h2:0<sp
 ·have HL4:=Lib.hid (show zcc b (4,c2,c3,c4,c5,c6)=({Rcp.none with scaled:=(7,c2,c3,c4,c5,c6),rated:=true,ratio:=(sp,10000),has:=true},0) by
   rw[HLL.out];unfold zc8
   rw[if_neg (show¬(4:Int)=5 by decide),if_neg h1,if_pos h2])
  clear HLL h1;go_wp2_with fail;clear q0;refine(zeq 4 c2 c3 c4 c5 c6 7 b3).mono ?_;rintro _ x5 ⟨rfl,u5⟩;have nn5:=n3.keep u5 id;have r5x:=r3.keep u5 id;have t5x:=t3.trans u5;have hs5:m<x5.heap.size:=by have:=u5.size;omega
  clear b3 n3 r3 t3 u5;go_wp2_with (refine zax rfl _ _ _ rfl m [iV 0,iV 0,.slice none 0 0,.slice none 0 0] [iV 0,iV 0,iV 0,iV 0,iV 0,iV 0,.bool false,iV 0,iV 0,.bool false] [iV 7,iV c2,iV c3,iV c4,iV c5,iV c6,.bool true,iV sp,iV 10000,.bool true] [] (by rfl) (by rfl) (by simp[Value.oneCell']) (by kernel_rfl) rfl nn5 ?_;refine Hid.out ?_);refine Lib.hid ?_;intro y5 n5' ts5;have n5:Blk y5 m 48 #[iV 0,iV 0,.slice none 0 0,.slice none 0 0,iV 7,iV c2,iV c3,iV c4,iV c5,iV c6,.bool true,iV sp,iV 10000,.bool true]:=n5';have r5:=r5x.keep ts5 (by omega);have t5:=t5x.trans' ts5 (fun i hi=>.inr (by have hi:i=m:=hi;have:=HZW.out;omega));have s5:m<y5.heap.size:=by have:=ts5.size;omega
  clear nn5 r5x t5x hs5 ts5 n5' s3;go_wp2_with (refine wpList_load_row rfl _ _ rfl m (by rfl) 48 #[iV 0,iV 0,.slice none 0 0,.slice none 0 0,iV 7,iV c2,iV c3,iV c4,iV c5,iV c6,.bool true,iV sp,iV 10000,.bool true] (0,0) _ n5 Tryz.underlying48 rfl (by kernel_rfl) ?_;refine Hid.out ?_);refine Lib.hid ?_;go_wp2_with (refine stK (z+1) #[iV 0,iV 0,.slice none 0 0,.slice none 0 0,iV 7,iV c2,iV c3,iV c4,iV c5,iV c6,.bool true,iV sp,iV 10000,.bool true] r5 ?_);intro w9 hF tF;have HBF:=Lib.hid hF;have HTF:=Lib.hid tF;have TT:=Lib.hid (t5.trans' (F':=fun g=>g=z+1) tF (fun i hi=>.inr (by have hi:i=z+1:=hi;have:=HZW.out;omega)));clear hF tF n5 r5 t5;go_wp2;(try simp only[exS]);refine zbi HBF.out ?_;unfold zd2;rw[HL4.out];exact⟨_,rfl,⟨_,_,rfl,Row.nil _ _ _,Row.nil _ _ _⟩,TT.out⟩
 have HL4:=Lib.hid (show zcc b (4,c2,c3,c4,c5,c6)=(Rcp.none,0) by
  rw[HLL.out];unfold zc8
  rw[if_neg (show¬(4:Int)=5 by decide),if_neg h1,if_neg h2])
 clear HLL h1;go_wp2_with (refine wpList_load_row rfl _ _ rfl m (by rfl) 48 #[iV 0,iV 0,.slice none 0 0,.slice none 0 0,iV 0,iV 0,iV 0,iV 0,iV 0,iV 0,.bool false,iV 0,iV 0,.bool false] (0,0) _ n3 Tryz.underlying48 rfl (by kernel_rfl) ?_;refine Hid.out ?_);refine Lib.hid ?_;go_wp2_with (refine stK (z+1) #[iV 0,iV 0,.slice none 0 0,.slice none 0 0,iV 0,iV 0,iV 0,iV 0,iV 0,iV 0,.bool false,iV 0,iV 0,.bool false] r3 ?_);intro w9 hF tF;have HBF:=Lib.hid hF;have HTF:=Lib.hid tF;have TT:=Lib.hid (t3.trans' (F':=fun g=>g=z+1) tF (fun i hi=>.inr (by have hi:i=z+1:=hi;have:=HZW.out;omega)));clear hF tF n3 r3 t3;go_wp2;(try simp only[exS]);refine zbi HBF.out ?_;unfold zd2;rw[HL4.out];exact⟨_,rfl,⟨_,_,rfl,Row.nil _ _ _,Row.nil _ _ _⟩,TT.out⟩
