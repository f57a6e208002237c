/-
  The document's recipes of all cells.
-/
import Derived.Test.YtnjhfcopphpkpaaGreatDoorRt
import Derived.Test.YtnjhfcopphpkpaaGreatDoorZ63
import Derived.Test.YtnjhfcopphpkpaaGreatDoorZ77
set_option maxRecDepth 100000
set_option maxHeartbeats 6400000
namespace Go.Gk.V37
theorem kidsF_is (a:Int):∀(l:List Acc),zdt a 0 l=zhp l a:=by
 intro l
 have h:∀(r:List Acc) (i:Nat),i+r.length=l.length→(∀j (hj:j<r.length),l[i+j]?=some r[j])→zdt a i r=((List.range' i r.length).map fun(k:Nat)=>(k:Int)+1).filter fun x=>zgl l x==a:=by
  intro r;induction r with
  |nil=>intro i _ _;rfl
  |cons x r ih=>
   intro i hl hg;have h0:=hg 0 (by simp);simp only[Nat.add_zero,List.getElem_cons_zero]at h0
   have ih1:=ih (i+1) (by simp at hl;omega) (fun j hj=>by
    have:=hg (j+1) (by simp;omega);rw[show i+1+j=i+(j+1) by omega]
    simpa using this)
   unfold zdt;rw[ih1,List.length_cons,List.range'_succ,List.map_cons,List.filter_cons]
   have hu:zgl l ((i:Int)+1)=x.1:=by
    unfold zgl;rw[show(((i:Int)+1)-1).toNat=i by omega,h0];rfl
   rw[hu];by_cases hx:x.1=a
   ·simp[hx]
   ·have hb:(x.1==a)=false:=by simpa using hx
    simp[hx,hb]
 have:=h l 0 (by simp) (fun j hj=>by simp[List.getElem?_eq_getElem hj]);rw[this];unfold zhp zal;rw[List.range_eq_range']
end Go.Gk.V37
namespace Go.Proofs.YtnjhfcopphpkpaaGreatDoor
open Go.RowKit Go.Gk Go.Gk.V33 Go.Gk.V37
section
variable {w:World} {e a s r l n:Value} {b:Bks} {us:List (Ent×Value)}
structure RefFacts (b:Bks) (us:List (Ent×Value)):Prop where
 hn:b.accs.length≤1000
 hul:us.length≤60
 hll:∀p∈us,p.1.lines.length≤100
 hpo:(zay b.entries).length≤10000
 h64:∀p∈zay b.entries,I64 p.2.2.2.2
 hr:b.rates.length≤1000000
 hok:zba b=true
def zhz (b:Bks) (c:Rt6) (w:World) (x:Ending) (w':World):Prop:=∃v,x=.returned (.tuple #[v,.int .i64 (zcz b c).2])∧RcpIs w' v (zcz b c).1∧Tf w w'
theorem zsj (h:BksAt w e a s r l n b us) (F:RefFacts b us) (c1 c2 c3 c4 c5 c6:Int):
 Calls Tryz.prog 10 #[.agg #[e,a,s,r,l,n],.agg #[.int .i64 c1,.int .i64 c2,.int .i64 c3,.int .i64 c4,.int .i64 c5,.int .i64 c6]] w (zi0 b (c1,c2,c3,c4,c5,c6) w):=by
 have Z0:ze2= #[.int .i64 0,.int .i64 0,.slice none 0 0,.slice none 0 0,.int .i64 0,.int .i64 0,.int .i64 0,.int .i64 0,.int .i64 0,.int .i64 0,.bool false,.int .i64 0,.int .i64 0,.bool false]:=rfl;obtain⟨Ae,ce,rfl,_,_⟩:=h.ents.form;obtain⟨Aa,ca,rfl,_,_⟩:=h.accs.form;obtain⟨As,cs,rfl,_,_⟩:=h.stakes.form;obtain⟨Ar,cr,rfl,_,_⟩:=h.rates.form;obtain⟨Al,cl,rfl,_,_⟩:=h.locks.form;obtain⟨An,cn,rfl,_,_⟩:=h.ent.row.form;obtain⟨W,hW,tw,bB,bC,bO,bR⟩:=al4 w #[.slice Ae b.ents.length ce,.slice Aa b.accs.length ca,.slice As b.stakes.length cs,.slice Ar b.rates.length cr,.slice Al b.locks.length cl,.slice An us.length cn] #[.int .i64 c1,.int .i64 c2,.int .i64 c3,.int .i64 c4,.int .i64 c5,.int .i64 c6] ze2 ze2 29 31 50 50;rw[Z0]at hW bO bR;obtain⟨g0,g1,g2,g3,g4,g5⟩:=bB.f6;obtain⟨q0,q1,q2,q3,q4,q5⟩:=bC.f6;have HH:=Lib.hid (fun w' (t9:Tf w w')=>h.keep t9);have HM:=Lib.hid (zg8 (HH.out _ tw) (c1,c2,c3,c4,c5,c6));unfold zcq at HM;simp only at HM;have HRU:=Lib.hid (show zfg b (c1,c2,c3,c4,c5,c6)=if za3 (c1,c2,c3,c4,c5,c6) b.ents.length b.accs.length=0 then(if zas b.accs c3=true then zcz b (c1,c2,c3,c4,c5,c6)else(zkh b.accs (c1,c2,c3,c4,c5,c6),0))else(Rcp.none,za3 (c1,c2,c3,c4,c5,c6) b.ents.length b.accs.length)from rfl);have HCR:=Lib.hid (fun(h9:za3 (c1,c2,c3,c4,c5,c6) b.ents.length b.accs.length=0)=>zly (zlx h9).1);have HCA:=Lib.hid (fun(h9:za3 (c1,c2,c3,c4,c5,c6) b.ents.length b.accs.length=0)=>(zlx h9).2.2);have HTO:=Lib.hid (fun(h9:za3 (c1,c2,c3,c4,c5,c6) b.ents.length b.accs.length=0) hl=>zxc (c:=(c1,c2,c3,c4,c5,c6)) h9 hl);generalize za3 (c1,c2,c3,c4,c5,c6) b.ents.length b.accs.length=ci at *;have hok:=F.hok;have hso:=zec hok
 have H1:=Lib.hid (fun w' (t9:Tf w w') (hc:c1=1∨c1=2)=>show Calls Tryz.prog 42 _ w' (zhz b (c1,c2,c3,c4,c5,c6) w')from by
  have:=zvn (HH.out w' t9) (by have:=F.hn;omega) F.hul F.hll F.h64 c1 c2 c3 c4 c5 c6;unfold zhz zcz;rw[if_pos hc]
  exact this)
 have H3:=Lib.hid (fun w' (t9:Tf w w') (hc:c1=3)=>show Calls Tryz.prog 43 _ w' (zhz b (c1,c2,c3,c4,c5,c6) w')from by
  have:=zql (HH.out w' t9) (by have:=F.hn;omega) F.hr c1 c2 c3 c4 c5 c6;unfold zhz zcz;rw[if_neg (by show¬(c1=1∨c1=2);omega),if_pos hc]
  exact this)
 have H4:=Lib.hid (fun w' (t9:Tf w w') (hc:c1=4∨c1=5)=>show Calls Tryz.prog 44 _ w' (zhz b (c1,c2,c3,c4,c5,c6) w')from by
  have:=zqk (HH.out w' t9) (by have:=F.hn;omega) hso.1 hso.2.1 hso.2.2 c1 c2 c3 c4 c5 c6;unfold zhz zcz;rw[if_neg (by show¬(c1=1∨c1=2);omega),if_neg (by show¬c1=3;omega),if_pos hc]
  exact this)
 have H6:=Lib.hid (fun w' (t9:Tf w w') (hc:c1=6)=>show Calls Tryz.prog 45 _ w' (zhz b (c1,c2,c3,c4,c5,c6) w')from by
  have:=zoq (HH.out w' t9) (by have:=F.hul;omega) F.hll F.hn F.hpo hok c1 c2 c3 c4 c5 c6;unfold zhz zcz;rw[if_neg (by show¬(c1=1∨c1=2);omega),if_neg (by show¬c1=3;omega),if_neg (by show¬(c1=4∨c1=5);omega),if_pos hc]
  exact this)
 have H7:=Lib.hid (fun w' (t9:Tf w w') (hc:c1=7)=>show Calls Tryz.prog 46 _ w' (zhz b (c1,c2,c3,c4,c5,c6) w')from by
  have:=zsi (HH.out w' t9) F.hn hso.1 hso.2.1 hso.2.2 c1 c2 c3 c4 c5 c6;unfold zhz zcz;rw[if_neg (by show¬(c1=1∨c1=2);omega),if_neg (by show¬c1=3;omega),if_neg (by show¬(c1=4∨c1=5);omega),if_neg (by show¬c1=6;omega)]
  exact this)
 have HLF:=Lib.hid (fun w' (t9:Tf w w')=>zge (HH.out w' t9) (by have:=F.hn;omega) c3);have HKD:=Lib.hid (fun w' (t9:Tf w w')=>zl8 (HH.out w' t9).accs (by have:=F.hn;omega) c3);have HAC:=Lib.hid F.hn;clear Z0 h F hok hso HH;go_enter Tryz.func10,Tryz.ntmps10;go_wp2_with fail;generalize hzw:w.heap.size=z at *;have HZW:=Lib.hid hzw;clear hzw;refine HM.out.mono ?_;rintro _ w1 ⟨rfl,t1⟩;have bB1:=bB.keep t1 id;have bC1:=bC.keep t1 id;have bO1:=bO.keep t1 id;have bR1:=bR.keep t1 id;have T1:=tw.trans t1;clear HM hW tw t1 bB bC bO bR g0 g1 g2 g3 g4 g5 q0 q1 q2 q3 q4 q5;by_cases hci:ci=0
 rotate_left
 ·have hcb:(ci !=0)=true:=by simpa using hci
  have HE:=Lib.hid (show zfg b (c1,c2,c3,c4,c5,c6)=(Rcp.none,ci) by rw[HRU.out,if_neg hci]);obtain⟨r0,r1,r2,r3,r4,r5,r6,r7,r8,r9,r10,r11,r12,r13⟩:=bR1.f14;clear hci HRU HCR HCA HTO H1 H3 H4 H6 H7 HLF HKD HAC bB1 bC1 bR1;go_wp2_with (refine stH (z+2) #[.int .i64 0,.int .i64 0,.slice none 0 0,.slice none 0 0,.int .i64 0,.int .i64 0,.int .i64 0,.int .i64 0,.int .i64 0,.int .i64 0,.bool false,.int .i64 0,.int .i64 0,.bool false] bO1 ?_);intro w9 HF HTF;clear bO1 r0 r1 r2 r3 r4 r5 r6 r7 r8 r9 r10 r11 r12 r13;go_wp2;(try simp only[exS]);refine zbi HF.out ?_;unfold zi0;rw[HE.out];exact⟨_,rfl,⟨_,_,rfl,Row.nil _ _ _,Row.nil _ _ _⟩,T1.trans' (F':=fun g=>g=z+2) HTF.out (fun i hi=>.inr (by have hi:i=z+2:=hi;have:=HZW.out;omega))⟩
 subst hci;have HL1:=Lib.hid (HLF.out w1 T1);obtain⟨g0,g1,g2,g3,g4,g5⟩:=bB1.f6;have q2:=bC1.at2;clear HLF;go_wp2_with fail;refine HL1.out.mono ?_;rintro _ w2 ⟨rfl,t2⟩;have bB2:=bB1.keep t2 id;have bC2:=bC1.keep t2 id;have bO2:=bO1.keep t2 id;have bR2:=bR1.keep t2 id;have T2:=T1.trans t2;clear HL1 g0 g1 g2 g3 g4 g5 q2 bB1 bC1 bO1 bR1 T1 t2;by_cases hlf:zas b.accs c3=true
 rotate_left
 ·have hlf2:zas b.accs c3=false:=by simpa using hlf
  have HE:=Lib.hid (show zfg b (c1,c2,c3,c4,c5,c6)=(zkh b.accs (c1,c2,c3,c4,c5,c6),0) by rw[HRU.out,if_pos (by trivial),if_neg hlf])
  have hai:zdb b.accs c3=true:=by
   have h1:=HCA.out (by trivial);have h2:=(HCR.out (by trivial)).2;unfold zdb;simp only[Bool.and_eq_true,decide_eq_true_eq];omega
  have HK2:=Lib.hid (HKD.out w2 T2);rw[hai,if_pos rfl,kidsF_is]at HK2;have hLN:=Nat.le_trans (zi1 b.accs c3) HAC.out;have HRL:=Lib.hid (show(zkh b.accs (c1,c2,c3,c4,c5,c6)).plus=(zhp b.accs c3).map (zkg (c1,c2,c3,c4,c5,c6))from rfl);have HRR:=Lib.hid (show zkh b.accs (c1,c2,c3,c4,c5,c6)={Rcp.none with plus:=(zhp b.accs c3).map (zkg (c1,c2,c3,c4,c5,c6))}from rfl);rw[hlf2];generalize zhp b.accs c3=L at *;have g1:=bB2.at1;have q2:=bC2.at2;clear hlf hlf2 hai HRU HCR HCA HTO H1 H3 H4 H6 H7 HKD HAC bB2;go_wp2_with fail;refine HK2.out.mono ?_;rintro _ w3 ⟨u,rfl,hO⟩;have bC3:=bC2.keep hO.tch id;have bO3:=bO2.keep hO.tch id;have bR3:=bR2.keep hO.tch id;have T3:=T2.trans hO.tch;have hl:=hO.row;obtain⟨U,cu,rfl,hu1,hu2⟩:=hO.form;have hzz:z+4≤w3.heap.size:=by have:=bR3.lt;omega
  have hln:(L.length:Int)≤1000:=by omega
  have hzb:z+3<w2.heap.size:=bR2.lt;have HROW:=Lib.hid (fun wr (ht:Tch (fun g=>g=z+3) w3 wr)=>Row.keepTo (P':=fun _=>True) (Row.own hO.own (P:=fun g=>w2.heap.size≤g) (fun g hg=>(hO.own.lt g hg).1)) ht (fun g _ hg=>⟨fun e=>by have e:g=z+3:=e;omega,trivial⟩));clear HK2 g1 q2 bC2 bO2 bR2 T2 hO hl;go_wp2_with fail;go_loopw [9] (fun i wr=>∃(j:Nat) (xs:List Rt6) (O:Option Addr) (co:Nat),j≤L.length∧i=.int .i64 j∧(L.take j).map (zkg (c1,c2,c3,c4,c5,c6))=xs∧Blk wr (z+3) 50 #[.int .i64 0,.int .i64 0,.slice O xs.length co,.slice none 0 0,.int .i64 0,.int .i64 0,.int .i64 0,.int .i64 0,.int .i64 0,.int .i64 0,.bool false,.int .i64 0,.int .i64 0,.bool false]∧wr.ownsRow w3.heap.size 31 6 (.slice O xs.length co) xs.length (xs.flatMap za2)∧Tch (fun g=>g=z+3) w3 wr) (fun i _=>L.length-(intOf i).toNat)
  case atStart=>exact⟨0,[],none,0,Nat.zero_le _,rfl,rfl,bR3,World.ownsRow_nil _ _ _ _,Tch.refl _ _⟩
  case round=>
   obtain⟨j,xs,O,co,hj,rfl,hxs,hR,hown,ht⟩:=hrel;have HXS:=Lib.hid hxs
   have hxl:xs.length≤j:=by
    rw[←hxs];rw[List.length_map,List.length_take];omega
   clear hxs;by_cases hlt:j<L.length
   ·have hlt':(j:Int)<(L.length:Int):=by omega
    have hj0:=znn j;have hl9:=HROW.out wr ht;obtain⟨g,o9,rfl⟩:=hl9.head (by omega);have q0:=Row.one hl9 zap hlt rfl
    have HP2:=Lib.hid (show(L.take (j+1)).map (zkg (c1,c2,c3,c4,c5,c6))=xs++[(c1,c2,L[j],c4,c5,c6)] by
     rw[←HXS.out,List.take_succ_eq_append_getElem hlt,List.map_append]
     rfl)
    generalize L[j]=x at *;clear HXS hl9;have bCr:=bC3.keep ht (by omega);obtain⟨y0,y1,y2,y3,y4,y5⟩:=bCr.f6;have Q0:=(tal wr (.cells #[.int .i64 c1,.int .i64 c2,.int .i64 c3,.int .i64 c4,.int .i64 c5,.int .i64 c6] 31)).cell_some q0 id;have tD:=tal wr (.cells #[.int .i64 c1,.int .i64 c2,.int .i64 x,.int .i64 c4,.int .i64 c5,.int .i64 c6] 31);have bD:=Blk.new wr 31 #[.int .i64 c1,.int .i64 c2,.int .i64 x,.int .i64 c4,.int .i64 c5,.int .i64 c6];have tE:=tal (wr.alloc (.cells #[.int .i64 c1,.int .i64 c2,.int .i64 x,.int .i64 c4,.int .i64 c5,.int .i64 c6] 31)) (.cells #[.int .i64 c1,.int .i64 c2,.int .i64 x,.int .i64 c4,.int .i64 c5,.int .i64 c6] 31);have tDE:=tD.trans tE;have hR2:=hR.keep tDE id;have hown2:=tDE.own hown (fun _ _=>id);have HSZ:=ht.size;have HBE:=Lib.hid (fun m9=>(Blk.new2 wr (.cells #[.int .i64 c1,.int .i64 c2,.int .i64 x,.int .i64 c4,.int .i64 c5,.int .i64 c6] 31) 31 #[.int .i64 c1,.int .i64 c2,.int .i64 x,.int .i64 c4,.int .i64 c5,.int .i64 c6]).cell m9);have m2:=(hR.keep tD id).at2;obtain⟨d0,d1,d2,d3,d4,d5⟩:=bD.f6;have HLT:=Lib.hid (fun g hg=>hown.lt g hg);have hlen5:xs.length≤1000:=by omega
    clear hown hR bCr tD tE bD;go_wp2_with (at_builtin;refine Hid.out ?_);refine Lib.hid ?_;refine apd za1 hown2 (Go.Gk.Src.one (news:=za2 (c1,c2,x,c4,c5,c6)) rfl (fun m9 u9 hu9=>by rw[HBE.out m9];simpa[za2]using hu9)) (zjd _) ?_;intro v2 w4 ho2 hg2 hl2;obtain⟨O2,co2,rfl,_,_⟩:=zac ho2;have tg:Tch (fun g=>w3.heap.size≤g) _ w4:=Tch.grown hg2 fun k9 hk9=>.inl (HLT.out k9 hk9).1
    have hR3:=hR2.keep tg (by omega);have t2:=ht.trans (Exn.touch tDE);have t3:=t2.trans' tg (fun i hi=>.inr hi)
    have hob:∀g,(Value.slice O2 (xs.length+1) co2).ownBlock=some g→w3.heap.size≤g:=fun g hg=>by
     rcases hl2 g hg with h9|h9
     ·exact(HLT.out g h9).1
     ·have:=tDE.size;omega
    clear hR2 hown2 tDE tg hg2 hl2 ht t2 HBE;go_wp2_with (refine zab rfl _ _ _ rfl (z+3) 2 (.slice O2 (xs.length+1) co2) (by rfl) (by rfl) rfl (by rfl) hR3 (by simp) ?_;refine Hid.out ?_);refine Lib.hid ?_;intro w5 hR4 ts4;(try simp only[List.setIfInBounds_toArray,List.set_cons_succ,List.set_cons_zero]at hR4);have hown4:=ts4.own (zbk ho2 hob) (fun g hg he=>by have he:g=z+3:=he;have:=hob g hg;omega);have t4:=t3.trans ts4;clear hR3 ho2 hob ts4 t3 HLT;go_wp2;go_roundw
    case rel=>exact⟨j+1,xs++[(c1,c2,x,c4,c5,c6)],O2,co2,by omega,by go_num,HP2.out,by simpa using hR4,by simpa[za2]using hown4,t4⟩
    case measure=>simp[intOf]<;>omega
   ·obtain rfl:j=L.length:=by omega
    have hxs:=HXS.out;rw[List.take_length]at hxs;have hlt':¬(L.length:Int)<(L.length:Int):=by omega
    have bO4:=bO3.keep ht (by omega);obtain⟨r0,r1,r2,r3,r4,r5,r6,r7,r8,r9,r10,r11,r12,r13⟩:=hR.f14;have T4:=T3.trans' ht (fun i hi=>.inr (by have hi:i=z+3:=hi;have:=HZW.out;omega));have HROWS:=Lib.hid (fun w' (t9:Tch (fun g=>g=z+2) wr w')=>Row.keepTo (P':=fun _=>True) (Row.own hown (P:=fun g=>w3.heap.size≤g) (fun g hg=>(hown.lt g hg).1)) t9 (fun g _ hg=>⟨fun e=>by have e:g=z+2:=e;omega,trivial⟩));have HXL:=Lib.hid hxs;clear hxs HXS hR hown hlt ht HROW bC3 bO3 bR3 T3;go_wp2_with (refine stH (z+2) #[.int .i64 0,.int .i64 0,.slice O xs.length co,.slice none 0 0,.int .i64 0,.int .i64 0,.int .i64 0,.int .i64 0,.int .i64 0,.int .i64 0,.bool false,.int .i64 0,.int .i64 0,.bool false] bO4 ?_);intro w9 HBF HTF;clear bO4 r0 r1 r2 r3 r4 r5 r6 r7 r8 r9 r10 r11 r12 r13;go_wp2;(try simp only[exS]);refine zbi HBF.out ?_;unfold zi0;rw[HE.out,HRR.out,HXL.out];exact⟨_,rfl,⟨.slice O xs.length co,.slice none 0 0,rfl,HROWS.out w9 HTF.out,Row.nil _ _ _⟩,T4.trans' (F':=fun g=>g=z+2) HTF.out (fun i hi=>.inr (by have hi:i=z+2:=hi;have:=HZW.out;omega))⟩
 have HE:=Lib.hid (show zfg b (c1,c2,c3,c4,c5,c6)=((zcz b (c1,c2,c3,c4,c5,c6)).1,0) by
  rw[HRU.out,if_pos (by trivial),if_pos hlf]
  exact Prod.ext rfl (HTO.out (by trivial) hlf))
 have HT0:=Lib.hid (HTO.out (by trivial) hlf);have hc1:=(HCR.out (by trivial)).1;have HPO:=Lib.hid (zte (b:=b) (c:=(c1,c2,c3,c4,c5,c6)) (show c1≠0 by have h1:1≤c1:=hc1.1;omega));obtain⟨g0,g1,g2,g3,g4,g5⟩:=bB2.f6;obtain⟨q0,q1,q2,q3,q4,q5⟩:=bC2.f6;rw[hlf];clear hlf HRU HCR HCA HTO HKD HAC bB2 bC2 bR2;have hcs:c1=1∨c1=2∨c1=3∨c1=4∨c1=5∨c1=6∨c1=7:=by have h1:1≤c1∧c1≤7:=hc1;omega
 clear hc1;rcases hcs with rfl|rfl|rfl|rfl|rfl|rfl|rfl
 all_goals
  go_wp2_with fail
  first
   |refine(H1.out w2 T2 (by decide)).mono ?_
   |refine(H3.out w2 T2 (by decide)).mono ?_
   |refine(H4.out w2 T2 (by decide)).mono ?_
   |refine(H6.out w2 T2 (by decide)).mono ?_
   |refine(H7.out w2 T2 (by decide)).mono ?_
  clear H1 H3 H4 H6 H7;rintro _ w3 ⟨v,rfl,hv,t3⟩;rw[HT0.out];clear HT0;generalize(zcz b _).1=R at *;obtain⟨p,m,rfl,hp1,hm1⟩:=hv;have bO3:=bO2.keep t3 id;have T3:=T2.trans t3;obtain⟨Pp,cp,rfl,_,_⟩:=hp1.form;obtain⟨Mm,cm,rfl,_,_⟩:=hm1.form;have HP:=Lib.hid (fun w' t9=>zhi hp1 HPO.out.1 (w':=w') bO3 t9);have HMM:=Lib.hid (fun w' t9=>zhi hm1 HPO.out.2 (w':=w') bO3 t9);clear HPO;obtain⟨⟨b1,b2⟩,pl,mi,⟨s1,s2,s3,s4,s5,s6⟩,rd,⟨r1,r2⟩,hs⟩:=R;unfold rcpV;simp only at HP HMM⊢;clear hp1 hm1 bO2 T2 t3 g0 g1 g2 g3 g4 g5 q0 q1 q2 q3 q4 q5;go_wp2_with (refine stH (z+2) #[.int .i64 b1,.int .i64 b2,.slice Pp pl.length cp,.slice Mm mi.length cm,.int .i64 s1,.int .i64 s2,.int .i64 s3,.int .i64 s4,.int .i64 s5,.int .i64 s6,.bool rd,.int .i64 r1,.int .i64 r2,.bool hs] bO3 ?_);intro w9 HF HTF;clear bO3;go_wp2;(try simp only[exS]);refine zbi HF.out ?_;unfold zi0;rw[HE.out];exact⟨_,rfl,⟨_,_,rfl,HP.out w9 HTF.out,HMM.out w9 HTF.out⟩,T3.trans' (F':=fun g=>g=z+2) HTF.out (fun i hi=>.inr (by have hi:i=z+2:=hi;have:=HZW.out;omega))⟩
