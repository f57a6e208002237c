/-
  The document's numbers of a cell's own lines.
-/
import Derived.Test.YtnjhfcopphpkpaaGreatDoorYw
import Derived.Test.YtnjhfcopphpkpaaGreatDoorYd
set_option maxRecDepth 100000
set_option maxHeartbeats 12800000
namespace Go.Gk.V37
theorem zlo (e a p q:Int):∀(ys:List (Int×Pst)) (i:Nat),(((ys.zipIdx i).map fun y=>(((y.2:Int)+1,y.1):P7)).filter (zfk e a p q)).map (·.1)=((zbq (e,a,p) i (ys.map (·.2))).filter fun r=>q==0||r.2.1==q).map (·.1)
 |[],_=>rfl
 |y::r,i=>by
  have ih:=zlo e a p q r (i+1);obtain⟨n,pp,ee,aa,qq,m⟩:=y;rw[List.zipIdx_cons,List.map_cons,List.filter_cons];simp only[List.map_cons,zbq]
  have hk:zfk e a p q ((i:Int)+1,n,pp,ee,aa,qq,m)=(decide (zbd (pp,ee,aa,qq,m)=(e,a,p))&&(q==0||qq==q)):=by
   unfold zfk zbd;simp only;congr 1;rw[Bool.eq_iff_iff];simp only[Bool.and_eq_true,decide_eq_true_eq,Prod.mk.injEq];constructor
   ·rintro⟨⟨h1,h2⟩,h3⟩;exact⟨h1,h2,h3⟩
   ·rintro⟨h1,h2,h3⟩;exact⟨⟨h1,h2⟩,h3⟩
  rw[hk];by_cases hs:zbd (pp,ee,aa,qq,m)=(e,a,p)
  ·rw[if_pos hs,List.filter_cons,decide_eq_true hs,Bool.true_and];by_cases hq:(q==0||qq==q)=true
   ·rw[if_pos hq,if_pos hq,List.map_cons,List.map_cons,ih]
   ·rw[if_neg hq,if_neg hq,ih]
  ·rw[if_neg hs,decide_eq_false hs,Bool.false_and,if_neg (by decide),ih]
theorem zt9 (l:List Ent) (e a p q:Int):((zbn l).filter (zfk e a p q)).map (·.1)=((zbf (zay l) (e,a,p)).filter fun r=>q==0||r.2.1==q).map (·.1):=by
 have h:=zlo e a p q (zeh l) 0;have hp:(zeh l).map (·.2)=zay l:=zej l 0;rw[hp]at h;exact h
end Go.Gk.V37
namespace Go.Proofs.YtnjhfcopphpkpaaGreatDoor
open Go.RowKit Go.Gk Go.Gk.V37
theorem zpd {w:World} {v:Value} {us:List (Ent×Value)} (hu:EntsIs w v us) (hul:us.length≤1000) (hll:∀p∈us,p.1.lines.length≤1000) (e a p q:Int):
 Calls Tryz.prog 48 #[v,.int .i64 e,.int .i64 a,.int .i64 p,.int .i64 q] w fun x w'=>∃u,x=.returned u∧zet w w' u (((zbn (us.map (·.1))).filter (zfk e a p q)).map (·.1)):=by
 have HT:=Lib.hid (zkr hu hul hll e a p q);have hmx:=Nat.le_trans (List.length_filter_le (zfk e a p q) (zbn (us.map (·.1)))) (znu hul hll);generalize(zbn (us.map (·.1))).filter (zfk e a p q)=L at *;obtain⟨A,c,rfl,_,_⟩:=hu.row.form;clear hu hul hll;go_enter Tryz.func48,Tryz.ntmps48;go_wp2_with fail;refine HT.out.mono ?_;rintro _ w1 ⟨u,rfl,hO1⟩;obtain⟨U,cu,rfl,hu1,hu2⟩:=hO1.form;have HR:=Lib.hid (fun w' (t9:Tf w1 w')=>hO1.row.keep t9);have T1:=hO1.tch;clear HT hO1;go_wp2_with fail;go_loopw [12,13] (fun o i wr=>∃j:Nat,j≤L.length∧i=.int .i64 j∧zet w1 wr o ((L.take j).map (·.1))) (fun _ i _=>L.length-(intOf i).toNat)
 case atStart=>exact⟨0,Nat.zero_le _,rfl,by simpa using Outs.start _ _ _ (Tch.refl _ _)⟩
 case round=>
  obtain⟨j,hj,rfl,hO⟩:=hrel;have ht:=hO.tch;by_cases hlt:j<L.length
  ·have hlt':(j:Int)<(L.length:Int):=by omega
   have hj0:=znn j;have hl:=HR.out wr ht;obtain⟨g,o9,rfl⟩:=hl.head (by omega);obtain⟨q0,_⟩:=Row.seven hl zhf hlt rfl
   have HX:=Lib.hid (show(L.take (j+1)).map (·.1)=(L.take j).map (·.1)++[L[j].1] by
    rw[List.take_succ_eq_append_getElem hlt,List.map_append]
    rfl)
   have hln:((L.take j).map (·.1)).length≤1000000:=by rw[List.length_map,List.length_take];omega
   generalize(L.take j).map (·.1)=xs at *;generalize L[j].1=x at *;obtain⟨O,co,rfl,ho1,ho2⟩:=hO.form;clear hl;go_wp2_with (at_builtin;refine apd zaj (hO.own.alloc _) (Go.Gk.Src.one (news:=[.int .i64 (x)]) rfl (fun m9 u9 hu9=>by rw[(Blk.new (wr) 3 #[.int .i64 (x)]).cell m9];simpa using hu9)) (by simp;rfl) ?_;intro v2 w2 ho2 hg2 hl2;have hO2:=hO.step (x:=x) (Tch.alloc _ _ _) ho2 hg2 hl2;obtain⟨O2,co2,rfl,_,_⟩:=zac ho2);go_roundw
   case rel=>exact⟨j+1,by omega,by go_num,by rw[HX.out];exact hO2⟩
   case measure=>simp[intOf]<;>omega
  ·obtain rfl:j=L.length:=by omega
   rw[List.take_length]at hO;have hlt':¬(L.length:Int)<(L.length:Int):=by omega
   obtain⟨O,co,rfl,_,_⟩:=hO.form;rw[List.length_map]at hO⊢;go_wp2;go_ret;exact⟨_,rfl,hO.base T1⟩
section
variable {w:World} {e a s r l n:Value} {b:Bks} {us:List (Ent×Value)}
theorem zpe (h:BksAt w e a s r l n b us) (hn:b.accs.length≤1000) (hul:us.length≤1000) (hll:∀p∈us,p.1.lines.length≤1000) (c1 c2 c3 c4 c5 c6:Int):
 Calls Tryz.prog 15 #[.agg #[e,a,s,r,l,n],.agg #[.int .i64 c1,.int .i64 c2,.int .i64 c3,.int .i64 c4,.int .i64 c5,.int .i64 c6]] w fun x w'=>∃u,x=.returned u∧zet w w' u (zoh b (c1,c2,c3,c4,c5,c6)):=by
 have HI:=Lib.hid (fun w' (t9:Tf w w')=>zpd (h.keep t9).ent hul hll c2 c3 c4 c6);rw[h.map,zt9]at HI;obtain⟨Ae,ce,rfl,_,_⟩:=h.ents.form;obtain⟨Aa,ca,rfl,_,_⟩:=h.accs.form;obtain⟨As,cs,rfl,_,_⟩:=h.stakes.form;obtain⟨Ar,cr,rfl,_,_⟩:=h.rates.form;obtain⟨Al,cl,rfl,_,_⟩:=h.locks.form;obtain⟨An,cn,rfl,_,_⟩:=h.ent.row.form;obtain⟨W,hW,tw,bB,bC⟩:=al2 w #[.slice Ae b.ents.length ce,.slice Aa b.accs.length ca,.slice As b.stakes.length cs,.slice Ar b.rates.length cr,.slice Al b.locks.length cl,.slice An us.length cn] #[.int .i64 c1,.int .i64 c2,.int .i64 c3,.int .i64 c4,.int .i64 c5,.int .i64 c6] 29 31;obtain⟨g0,g1,g2,g3,g4,g5⟩:=bB.f6;obtain⟨q0,q1,q2,q3,q4,q5⟩:=bC.f6;have HM:=Lib.hid (zg8 (h.keep tw) (c1,c2,c3,c4,c5,c6));have HLF:=Lib.hid (fun w' (t9:Tf w w')=>zge (h.keep t9) (by omega) c3);unfold zcq at HM;simp only at HM;have HID:=Lib.hid (show zoh b (c1,c2,c3,c4,c5,c6)=if c1=1∧za3 (c1,c2,c3,c4,c5,c6) b.ents.length b.accs.length=0∧zas b.accs c3=true then((zbf (zay b.entries) (c2,c3,c4)).filter fun r=>c6==0||r.2.1==c6).map (·.1)else[]from rfl);generalize za3 (c1,c2,c3,c4,c5,c6) b.ents.length b.accs.length=ci at *;generalize zoh b (c1,c2,c3,c4,c5,c6)=R at *;generalize((zbf (zay b.entries) (c2,c3,c4)).filter fun r=>c6==0||r.2.1==c6).map (·.1)=S at *;clear h hll;go_enter Tryz.func15,Tryz.ntmps15;by_cases h1:c1=1
 rotate_left
 ·have h1b:(c1 !=1)=true:=by simpa using h1
  obtain rfl:R=[]:=by rw[HID.out,if_neg (fun h=>h1 h.1)]
  clear h1 HID HM HLF HI;go_wp2;go_ret;exact⟨_,rfl,Outs.start _ _ _ tw⟩
 subst h1;go_wp2_with fail;refine HM.out.mono ?_;rintro _ w1 ⟨rfl,t1⟩;have bB1:=bB.keep t1 id;have bC1:=bC.keep t1 id;have T1:=tw.trans t1;clear HM hW tw t1 bB bC g0 g1 g2 g3 g4 g5 q0 q1 q2 q3 q4 q5;by_cases hci:ci=0
 rotate_left
 ·have hcb:(ci !=0)=true:=by simpa using hci
  obtain rfl:R=[]:=by rw[HID.out,if_neg (fun h=>hci h.2.1)]
  clear hci HID HLF HI bB1 bC1;go_wp2;go_ret;exact⟨_,rfl,Outs.start _ _ _ T1⟩
 subst hci;have HL1:=Lib.hid (HLF.out w1 T1);obtain⟨g0,g1,g2,g3,g4,g5⟩:=bB1.f6;have q2:=bC1.at2;clear HLF;go_wp2_with fail;refine HL1.out.mono ?_;rintro _ w2 ⟨rfl,t2⟩;have bB2:=bB1.keep t2 id;have bC2:=bC1.keep t2 id;have T2:=T1.trans t2;clear HL1 g0 g1 g2 g3 g4 g5 q2 bB1 bC1 T1 t2;by_cases hlf:zas b.accs c3=true
 rotate_left
 ·have hlf2:zas b.accs c3=false:=by simpa using hlf
  obtain rfl:R=[]:=by rw[HID.out,if_neg (fun h=>hlf h.2.2)]
  rw[hlf2];clear hlf hlf2 HID HI bB2 bC2;go_wp2;go_ret;exact⟨_,rfl,Outs.start _ _ _ T2⟩
 obtain rfl:R=S:=by rw[HID.out,if_pos ⟨by trivial,by trivial,hlf⟩]
 rw[hlf];have HI2:=Lib.hid (HI.out w2 T2);have g5:=bB2.at5;have q1:=bC2.at1;have q2:=bC2.at2;have q3:=bC2.at3;have q5:=bC2.at5;clear hlf HID HI bB2 bC2;go_wp2_with fail;refine HI2.out.mono ?_;rintro _ w3 ⟨u,rfl,hO⟩;have hB:=hO.base T2;obtain⟨U,cu,rfl,_,_⟩:=hB.form;clear HI2 hO g5 q1 q2 q3 q5;go_wp2;go_ret;exact⟨_,rfl,hB⟩
end
open Go.RowKit Go.Gk Go.Gk.V33 Go.Gk.V37
theorem zua {b:Bks} (hf:BksFew b) (h64:Bks64 b) (hok:zba b=true):RuleFacts b:=
 ⟨zvc hf,zxs hf,ztj h64,by have:=hf.rates;omega,(zec hok).1,by have:=hf.accs;omega,hok⟩
theorem zn1 {w:World} {e a s r l n:Value} {b:Bks} {us:List (Ent×Value)} (h:BksAt w e a s r l n b us) (h64:Bks64 b) (hT:Tab64 3 w) (c1 c2 c3 c4 c5 c6:Int):
 Calls Tryz.prog 3 #[.agg #[e,a,s,r,l,n],.agg #[.int .i64 c1,.int .i64 c2,.int .i64 c3,.int .i64 c4,.int .i64 c5,.int .i64 c6]] w fun x w'=>x=.returned (.bool true)∧Tf w w':=by
 have HTA:=Lib.hid (fun w' (t9:Tf w w')=>zrj w' (hT.keep t9));have HTB:=Lib.hid (fun w' (t9:Tf w w')=>hT.keep t9);obtain⟨Ae,ce,rfl,_,_⟩:=h.ents.form;obtain⟨Aa,ca,rfl,_,_⟩:=h.accs.form;obtain⟨As,cs,rfl,_,_⟩:=h.stakes.form;obtain⟨Ar,cr,rfl,_,_⟩:=h.rates.form;obtain⟨Al,cl,rfl,_,_⟩:=h.locks.form;obtain⟨An,cn,rfl,_,_⟩:=h.ent.row.form;obtain⟨W,hW,tw,hbB,hbC⟩:=al2 w #[.slice Ae b.ents.length ce,.slice Aa b.accs.length ca,.slice As b.stakes.length cs,.slice Ar b.rates.length cr,.slice Al b.locks.length cl,.slice An us.length cn] #[.int .i64 c1,.int .i64 c2,.int .i64 c3,.int .i64 c4,.int .i64 c5,.int .i64 c6] 29 31;have HF:=Lib.hid (zwy (h.keep tw));have HH:=Lib.hid (fun w' (t9:Tf w w')=>h.keep t9);obtain⟨g0,g1,g2,g3,g4,g5⟩:=hbB.f6;clear hT h
 obtain⟨fw,hfw⟩:∃fw,zuj b=fw:=⟨_,rfl⟩
 rw[hfw]at HF;go_enter Tryz.func3,Tryz.ntmps3;go_wp2_with fail;generalize w.heap.size=z at *;refine HF.out.mono ?_;rintro _ w1 ⟨rfl,t1⟩;clear HF hW g0 g1 g2 g3 g4 g5;have tt1:=tw.trans t1
 cases fw
 ·clear hfw;go_wp2_with fail;refine(HTA.out w1 tt1).mono ?_;rintro _ w2 ⟨rfl,t2⟩;go_wp2;go_ret;exact⟨rfl,tt1.trans t2⟩
 have hfew:=zwv hfw;have hB1:=hbB.keep t1 id;have hC1:=hbC.keep t1 id;clear hbB hbC tw t1 hfw;obtain⟨g0,g1,g2,g3,g4,g5⟩:=hB1.f6;go_wp2_with fail;refine(zwu (HH.out w1 tt1) hfew h64).mono ?_;rintro _ w2 ⟨hsee,t2⟩;have tt2:=tt1.trans t2
 rcases hsee with⟨_,m,rfl,hm⟩|⟨hok,bv,bi,B,t,mr,mp,e',a',s',r',l',n',lv,fs,us',rfl,hV⟩
 ·have hm2:(m !=0)=true:=by simpa using hm
  clear g0 g1 g2 g3 g4 g5 hm hB1 hC1;go_wp2_with fail;refine(HTA.out w2 tt2).mono ?_;rintro _ w3 ⟨rfl,t3⟩;go_wp2;go_ret;exact⟨rfl,tt2.trans t3⟩
 have hB2:=hB1.keep t2 id;have hC2:=hC1.keep t2 id;clear g0 g1 g2 g3 g4 g5 hB1 hC1 tt1 t2;have hF:=zua hfew h64 hok;have hmap:=(HH.out w2 tt2).map
 have hul:us.length≤60:=by
  have h1:=hfew.entries;rw[←hmap,List.length_map]at h1;omega
 have hll:∀p∈us,p.1.lines.length≤100:=fun p hp=>by
  have:=hfew.lines p.1 (by rw[←hmap];exact List.mem_map_of_mem hp);omega
 have hRF:RefFacts b us:=⟨hF.hac,hul,hll,hF.hp,hF.h64,hF.hr,hok⟩
 have HR:=Lib.hid (fun w' (t9:Tf w w')=>zsj (HH.out w' t9) hRF c1 c2 c3 c4 c5 c6);have HI:=Lib.hid (fun w' (t9:Tf w2 w')=>zlw (hV.keep t9) hF.hn hF.hp c1 c2 c3 c4 c5 c6);have HJ:=Lib.hid (fun w' (t9:Tf w w')=>zpe (HH.out w' t9) hF.hac (by omega) (fun p hp=>Nat.le_trans (hll p hp) (by decide)) c1 c2 c3 c4 c5 c6);have HREC:=Lib.hid (zga hV hF (HTB.out w2 tt2) c1 c2 c3 c4 c5 c6);unfold zi0 at HR HREC;generalize zfg b (c1,c2,c3,c4,c5,c6)=lo at *;generalize zoh b (c1,c2,c3,c4,c5,c6)=IDS at *;obtain⟨q0,q1,q2,q3,q4,q5⟩:=hC2.f6;clear hfew h64 hok hV hF hmap hul hll hRF HH;go_wp2_with fail;refine HREC.out.mono ?_;rintro _ w3 ⟨v1,rfl,hr1,t3⟩;clear HREC;obtain⟨⟨⟨b1,b2⟩,pl,mi,⟨s1,s2,s3,s4,s5,s6⟩,rd,⟨r1,r2⟩,hs⟩,er⟩:=lo;simp only at hr1 HR⊢;have hR1:=hr1;obtain⟨p1,m1,rfl,hp1,hm1⟩:=hr1;obtain⟨P1,k1,rfl,_,_⟩:=hp1.form;obtain⟨M1,d1,rfl,_,_⟩:=hm1.form;unfold rcpV at hR1⊢;simp only at hR1⊢;have tc:=tal w3 (.cells #[.int .i64 b1,.int .i64 b2,.slice P1 pl.length k1,.slice M1 mi.length d1,.int .i64 s1,.int .i64 s2,.int .i64 s3,.int .i64 s4,.int .i64 s5,.int .i64 s6,.bool rd,.int .i64 r1,.int .i64 r2,.bool hs] 46);have x3:=Blk.new w3 46 #[.int .i64 b1,.int .i64 b2,.slice P1 pl.length k1,.slice M1 mi.length d1,.int .i64 s1,.int .i64 s2,.int .i64 s3,.int .i64 s4,.int .i64 s5,.int .i64 s6,.bool rd,.int .i64 r1,.int .i64 r2,.bool hs];have t4:=t3.trans tc;have hB3:=hB2.keep t4 id;have hC3:=hC2.keep t4 id;have tt3:=tt2.trans t4;have HR3:=Lib.hid (HR.out _ tt3);have HR1:=Lib.hid (fun w' (t9:Tf (w3.alloc (.cells #[.int .i64 b1,.int .i64 b2,.slice P1 pl.length k1,.slice M1 mi.length d1,.int .i64 s1,.int .i64 s2,.int .i64 s3,.int .i64 s4,.int .i64 s5,.int .i64 s6,.bool rd,.int .i64 r1,.int .i64 r2,.bool hs] 46)) w')=>hR1.keep (tc.trans t9));clear q0 q1 q2 q3 q4 q5 hB2 hC2 tt2 t3 tc hp1 hm1 hR1 HR;obtain⟨g0,g1,g2,g3,g4,g5⟩:=hB3.f6;obtain⟨q0,q1,q2,q3,q4,q5⟩:=hC3.f6;go_wp2_with fail;generalize w3.alloc _=W3 at *;generalize w3.heap.size=y1 at *;refine HR3.out.mono ?_;rintro _ w4 ⟨v2,rfl,hr2,t5⟩;have hR2:=hr2;obtain⟨p2,m2,rfl,hp2,hm2⟩:=hr2;obtain⟨P2,k2,rfl,_,_⟩:=hp2.form;obtain⟨M2,d2,rfl,_,_⟩:=hm2.form;unfold rcpV at hR2⊢;simp only at hR2⊢;have td:=tal w4 (.cells #[.int .i64 b1,.int .i64 b2,.slice P2 pl.length k2,.slice M2 mi.length d2,.int .i64 s1,.int .i64 s2,.int .i64 s3,.int .i64 s4,.int .i64 s5,.int .i64 s6,.bool rd,.int .i64 r1,.int .i64 r2,.bool hs] 50);have y4:=Blk.new w4 50 #[.int .i64 b1,.int .i64 b2,.slice P2 pl.length k2,.slice M2 mi.length d2,.int .i64 s1,.int .i64 s2,.int .i64 s3,.int .i64 s4,.int .i64 s5,.int .i64 s6,.bool rd,.int .i64 r1,.int .i64 r2,.bool hs];have t6:=t5.trans td;have x4:=x3.keep t6 id;have hB4:=hB3.keep t6 id;have hC4:=hC3.keep t6 id;have tt4:=Lib.hid (tt3.trans t6);have HI4:=Lib.hid (fun w' (t9:Tf (w4.alloc (.cells #[.int .i64 b1,.int .i64 b2,.slice P2 pl.length k2,.slice M2 mi.length d2,.int .i64 s1,.int .i64 s2,.int .i64 s3,.int .i64 s4,.int .i64 s5,.int .i64 s6,.bool rd,.int .i64 r1,.int .i64 r2,.bool hs] 50)) w')=>HI.out w' ((t4.trans t6).trans t9));have HB:=Lib.hid (fun w' (t9:Tf (w4.alloc (.cells #[.int .i64 b1,.int .i64 b2,.slice P2 pl.length k2,.slice M2 mi.length d2,.int .i64 s1,.int .i64 s2,.int .i64 s3,.int .i64 s4,.int .i64 s5,.int .i64 s6,.bool rd,.int .i64 r1,.int .i64 r2,.bool hs] 50)) w')=>back_any (r:=⟨(b1,b2),pl,mi,(s1,s2,s3,s4,s5,s6),rd,(r1,r2),hs⟩) (HR1.out w' (t6.trans t9)));have HS:=Lib.hid (fun w' (u:Value) (t9:Tf (w4.alloc (.cells #[.int .i64 b1,.int .i64 b2,.slice P2 pl.length k2,.slice M2 mi.length d2,.int .i64 s1,.int .i64 s2,.int .i64 s3,.int .i64 s4,.int .i64 s5,.int .i64 s6,.bool rd,.int .i64 r1,.int .i64 r2,.bool hs] 50)) w') (hu:RcpIs w' u ⟨(b1,b2),pl,mi,(s1,s2,s3,s4,s5,s6),rd,(r1,r2),hs⟩)=>zn7 hu (hR2.keep (td.trans t9)));clear HR3 HR1 hR2 hp2 hm2 x3 tt3 t5 td t6 t4 hB3 hC3 HI g0 g1 g2 g3 g4 g5 q0 q1 q2 q3 q4 q5;go_wp2_with fail;generalize w4.alloc _=W4 at *;generalize w4.heap.size=y2 at *;obtain⟨X0,X1,X2,X3,X4,X5,X6,X7,X8,X9,X10,X11,X12,X13⟩:=x4.w14;obtain⟨Y0,Y1,Y2,Y3,Y4,Y5,Y6,Y7,Y8,Y9,Y10,Y11,Y12,Y13⟩:=y4.w14;obtain⟨B0,B1,B2,B3,B4,B5⟩:=hB4.w6;obtain⟨C0,C1,C2,C3,C4,C5⟩:=hC4.w6;clear x4 y4 hB4 hC4;refine zai (fun _=>False) [] 15 [(1,.inr fun u w'=>RcpIs w' u ⟨(b1,b2),pl,mi,(s1,s2,s3,s4,s5,s6),rd,(r1,r2),hs⟩),(3,.inl (.bool true)),(12,.inr fun u w'=>zae zby 1 (fun _=>True) w' u IDS)] [] ⟨fun u a b hr h=>h.keep hr,fun u a b hr h=>h.keep hr,trivial⟩ ?_;intro bef hbef;have hb1:(bef.getD 3 0).testBit 1=true:=by rw[hbef];kernel_rfl
 clear hbef;(refine zbt ?_;(try simp only[zaw]));refine zaq (by rfl) (by rfl) (fun w5 hr hf=>?_) (fun d=>?_)
 ·refine zaa (d:=40) rfl (by simp) (fun K hK=>?_);go_step;refine(HB.out w5 ((Tch.drew _ W4).trans hr)).mono ?_;rintro _ w6 ⟨v',rfl,ho,t2⟩;exact hK _ _ ⟨⟨ho,t2⟩,zaf⟩
 simp only[zaw];(refine zbt ?_;(try simp only[zaw]));refine zb3 (.bool true) (by rfl) (by rfl) (fun w5 hr hf=>?_) ?_
 ·have hv:=hf (1,fun w'=>RcpIs w' d ⟨(b1,b2),pl,mi,(s1,s2,s3,s4,s5,s6),rd,(r1,r2),hs⟩) (List.mem_singleton.2 rfl) hb1;refine zaa (d:=42) rfl (by simp) (fun K hK=>?_);go_step;refine(HS.out w5 d ((Tch.drew _ W4).trans hr) hv).mono ?_;rintro _ w6 ⟨rfl,t2⟩;exact hK _ _ ⟨⟨rfl,t2⟩,zaf⟩
 simp only[zaw];iterate 8 (refine zbt ?_;(try simp only[zaw]))
 refine zaq (by rfl) (by rfl) (fun w5 hr hf=>?_) (fun d2=>?_)
 ·refine zaa (d:=51) rfl (by simp) (fun K hK=>?_);go_step;refine(HI4.out w5 ((Tch.drew _ W4).trans hr)).mono ?_;rintro _ w6 ⟨u,rfl,hO⟩;exact hK _ _ ⟨⟨hO.row,hO.tch⟩,zaf⟩
 simp only[zaw];iterate 2 (refine zbt ?_;(try simp only[zaw]))
 refine za6 ?_;intro w5 hr hp _;have hrow:=hp (12,fun w'=>zae zby 1 (fun _=>True) w' d2 IDS) (by simp);have tt5:=tt4.out.trans ((Tch.drew _ W4).trans hr);have HJ5:=Lib.hid (HJ.out w5 tt5);have HRW:=Lib.hid (fun w' (t9:Tf w5 w')=>hrow.keep t9);obtain⟨D2,e2,rfl,_,_⟩:=hrow.form;clear hp hr hb1 HB HS HI4 HJ tt4 hrow X0 Y0 X1 Y1 X2 Y2 X3 Y3 X4 Y4 X5 Y5 X6 Y6 X7 Y7 X8 Y8 X9 Y9 X10 Y10 X11 Y11 X12 Y12 X13 Y13 B0 B1 B2 B3 B4 B5 C0 C1 C2 C3 C4 C5;go_wp2_with fail;refine HJ5.out.mono ?_;rintro _ w6 ⟨u6,rfl,hO6⟩;have HSI:=Lib.hid (zkn (HRW.out w6 hO6.tch) hO6.row);have tt6:=tt5.trans hO6.tch;obtain⟨U6,k6,rfl,_,_⟩:=hO6.form;clear HJ5 hO6;go_wp2_with fail;refine HSI.out.mono ?_;rintro _ w7 ⟨rfl,t7⟩;have tt7:=tt6.trans t7;clear HSI;go_wp2_with fail;refine(HTA.out w7 tt7).mono ?_;rintro _ w8 ⟨rfl,t8⟩;go_wp2;go_ret;exact⟨rfl,tt7.trans t8⟩
theorem zn2 {w:World} {u v:Value} (hT:Tab64 3 w) (hu:∃b,BooksIs (fun _=>True) w u b∧Bks64 b) (hv:∃c:Rt6,v=zcq c∧(I64 c.1∧I64 c.2.1∧I64 c.2.2.1∧I64 c.2.2.2.1∧I64 c.2.2.2.2.1∧I64 c.2.2.2.2.2)):
 Calls Tryz.prog 3 #[u,v] w fun x w'=>x=.returned (.bool true)∧Tf w w':=by
 obtain⟨b,hb,h64⟩:=hu;obtain⟨⟨c1,c2,c3,c4,c5,c6⟩,rfl,_⟩:=hv;obtain⟨e,a,s,r,l,n,us,rfl,h⟩:=hb.at;exact zn1 h h64 hT c1 c2 c3 c4 c5 c6
