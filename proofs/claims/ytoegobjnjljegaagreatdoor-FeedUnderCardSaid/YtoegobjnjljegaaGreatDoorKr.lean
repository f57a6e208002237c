/-
  FeedUnder: whose the lines are that feed a cell. (Printed by gen_kr.py.)
-/
import Derived.Test.YtoegobjnjljegaaGreatDoorZ91
set_option maxRecDepth 100000
set_option maxHeartbeats 25600000
namespace Go.Gk.V39
open Go.RowKit Go.Gk Go.Gk.V33 Go.Gk.V37 Go.Gk.V38
theorem lines7_one {l:List Ent} {p q:P7} (hp:p∈zbn l) (hq:q∈zbn l) (h:p.1=q.1):p=q:=by
 unfold zbn zsw at hp hq;obtain⟨y,hy,rfl⟩:=List.mem_map.1 hp;obtain⟨x,hx,rfl⟩:=List.mem_map.1 hq;obtain⟨n,hn,e⟩:=List.getElem_of_mem hy;obtain⟨m,hm,e2⟩:=List.getElem_of_mem hx;rw[List.getElem_zipIdx]at e e2;subst e e2;simp only at h;obtain rfl:n=m:=by omega
 rfl
theorem feeds_under {b:Bks} (hok:zba b=true) {c:Rt6} (hc:za3 c b.ents.length b.accs.length=0) {x:Int} (h:Feeds b c x):∃p∈zbn b.entries,p.1=x∧p.2.2.1≤c.2.2.2.1∧(c.1≤3→p.2.2.2.1=c.2.1)∧(3<c.1→p.2.2.2.1∈(zal b.ents.length).filter (zbm b.stakes c.2.2.2.1 c.2.1))∧(c.2.2.2.2.2≠0→p.2.2.2.2.2.1=c.2.2.2.2.2):=by
 obtain⟨n,hn,h1,h2,h3,h4,h5⟩:=feeds_line hok hc h
 have h6:∃d:Rt6,za3 d b.ents.length b.accs.length=0∧(zay b.entries)[n].2.1=d.2.1:=by
  obtain⟨d,hd,hx⟩:=h;obtain⟨m,hm,k1,_,k3,_⟩:=ids_mem hx;obtain rfl:n=m:=by omega
  exact⟨d,z6d hok (fun y hy=>by rw[List.mem_singleton.1 hy];exact hc) hd,k3⟩
 obtain⟨⟨d1,d2,d3,d4,d5,d6⟩,hd,e⟩:=h6;have hb:=zyp.1 hd;obtain⟨p,hp,hp1⟩:=lines7_has hn;obtain⟨m,hm,k1,k2⟩:=lines7_at hp;obtain rfl:n=m:=by omega
 rw[←k2]at h2 h3 h4 h5 e;refine⟨p,hp,by omega,h2,h3,fun h9=>List.mem_filter.2 ⟨zgc.2 ?_,h4 h9⟩,h5⟩;rw[e];dsimp only
 omega
end Go.Gk.V39
namespace Go.Proofs.YtoegobjnjljegaaGreatDoor
open Go.RowKit Go.Gk Go.Gk.V32 Go.Gk.V33 Go.Gk.V37 Go.Gk.V38 Go.Gk.V39
theorem feedunder_any {w:World} {e a s r l n:Value} {b:Bks} {us:List (Ent×Value)} (h:BksAt w e a s r l n b us) (h64:Bks64 b) (hT:Tab64 0 w) (c1 c2 c3 c4 c5 c6:Int):
 Calls Tryz.prog 4 #[.agg #[e,a,s,r,l,n],.agg #[iV c1,iV c2,iV c3,iV c4,iV c5,iV c6]] w fun x w'=>x=.returned (.bool true)∧Tf w w':=by
 have HTA:=Lib.hid (fun w' (t9:Tf w w')=>hT.keep t9);clear hT;obtain⟨W,hW,tw,hbB,hbC⟩:=al2 w #[e,a,s,r,l,n] #[iV c1,iV c2,iV c3,iV c4,iV c5,iV c6] 29 31;have HF:=Lib.hid (z2e (h.keep tw) c1 c2 c3 c4 c5 c6);have HW:=Lib.hid (h.keep tw);obtain⟨Ae,ce,rfl,_,_⟩:=h.ents.form;obtain⟨Aa,ca,rfl,_,_⟩:=h.accs.form;obtain⟨As,cs,rfl,_,_⟩:=h.stakes.form;obtain⟨Ar,cr,rfl,_,_⟩:=h.rates.form;obtain⟨Al,cl,rfl,_,_⟩:=h.locks.form;obtain⟨An,cn,rfl,_,_⟩:=h.ent.row.form;clear h;obtain⟨g0,g1,g2,g3,g4,g5⟩:=hbB.f6;obtain⟨k0,k1,k2,k3,k4,k5⟩:=hbC.f6;go_enter Tryz.func4,Tryz.ntmps4;go_wp2_with fail;generalize w.heap.size=z at *;refine HF.out.mono ?_;rintro _ w1 ⟨fw,rfl,hfw,t1⟩;clear HF k0 k1 k2 k3 k4 k5 g0 g1 g2 g3 g4 g5 hW;have tt1:=tw.trans t1
 cases fw
 ·clear hfw;go_wp2_with fail;refine(awake39_any w1 (HTA.out _ tt1)).mono ?_;rintro _ wz ⟨rfl,tz⟩;go_wp2;(try rw[Exit.noGoto_ret]);go_ret;exact⟨rfl,tt1.trans tz⟩
 obtain⟨hf26,hE6,hA9,hP3⟩:=hfw rfl;have hfew:=zwv hf26;have hB1:=hbB.keep t1 id;have hC1:=hbC.keep t1 id;have h1:=HW.out.keep t1;clear hbB hbC HW tw t1 hfw hf26;obtain⟨g0,g1,g2,g3,g4,g5⟩:=hB1.f6;go_wp2_with fail;refine(zwu h1 hfew h64).mono ?_;rintro _ w2 ⟨hsee,t2⟩;have tt2:=tt1.trans t2
 rcases hsee with⟨_,m,rfl,hm⟩|⟨hok,bv,bi,B,t,mr,mp,e',a',s',r',l',n',lv,fs,us',rfl,hV⟩
 ·have hm2:(m !=0)=true:=by simpa using hm
  clear g0 g1 g2 g3 g4 g5 hm;go_wp2_with fail;refine(awake39_any w2 (HTA.out _ tt2)).mono ?_;rintro _ wz ⟨rfl,tz⟩;go_wp2;(try rw[Exit.noGoto_ret]);go_ret;exact⟨rfl,tt2.trans tz⟩
 have hC2:=hC1.keep t2 id;have hB2:=hB1.keep t2 id;have HBA:=Lib.hid (h1.keep t2);clear g0 g1 g2 g3 g4 g5 hB1 hC1 h1 tt1 t2;have hpl:=z34 hfew;have FACTS:=Lib.hid (show RuleFacts b from⟨zvc hfew,zxs hfew,ztj h64,by have:=hfew.rates;omega,(zec hok).1,by have:=hfew.accs;omega,hok⟩);have HFEW:=Lib.hid hfew;have HOK:=Lib.hid hok;have HV:=Lib.hid (fun w' (t9:Tf w2 w')=>hV.keep t9);have HTT:=Lib.hid (fun w' (t9:Tf w2 w')=>HTA.out _ (tt2.trans t9));have HLI:=Lib.hid (fun w' (t9:Tf w2 w') d1 d2 d3 d4 d5 d6 (hd:d4≤3)=>lines39_any (hV.keep t9) FACTS.out hpl hE6 hA9 (HTT.out _ t9) d1 d2 d3 d4 d5 d6 hd);have HP3:=Lib.hid hP3;have HE60:=Lib.hid (show us.length≤60∧∀p∈us,p.1.lines.length≤100 from⟨by have h1:=hfew.entries;rw[←HBA.out.map,List.length_map]at h1;omega,fun p hp=>Nat.le_trans (hfew.lines p.1 (by rw[←HBA.out.map];exact List.mem_map_of_mem hp)) (by omega)⟩);have HLN:=Lib.hid (fun wa (t9:Tf w2 wa) nr=>line24_any (HBA.out.ent.keep t9) HE60.out.1 HE60.out.2 nr);have HMAP:=Lib.hid HBA.out.map;obtain⟨k0,k1,k2,k3,k4,k5⟩:=hC2.f6;have hk5:=hB2.at5;clear hfew h64 hok hpl hE6 hA9 hP3 hV;go_wp2_with fail;refine(HLI.out w2 (Tch.refl _ _) c1 c2 c3 c4 c5 c6 HP3.out).mono ?_;rintro _ w3 ⟨l,u,er,rfl,hL,hA1⟩;have t3:=hL.tch;have tt3:=tt2.trans t3;have hLr:=hL.row;obtain⟨AL,kL,rfl,_,_⟩:=hLr.form;clear k0 k1 k2 k3 k4 k5 hk5;by_cases h0:er=0
 rotate_left
 ·have h9:=hA1.2.1 h0;subst h9;have hm2:(er !=0)=true:=by simpa using h0
  clear h0 hA1 hL hLr;simp only[List.length_nil];go_wp2_with fail;refine(awake39_any w3 (HTA.out _ tt3)).mono ?_;rintro _ wz ⟨rfl,tz⟩;go_wp2;(try rw[Exit.noGoto_ret]);go_ret;exact⟨rfl,tt3.trans tz⟩
 subst h0;have hc:=hA1.1.symm;have HMEM:=Lib.hid (fun x (hx:x∈l)=>feeds_under HOK.out hc (((hA1.2.2 rfl).2 x).1 hx));have hci:=zyp.1 hc
 obtain⟨p,rfl⟩:∃p:Nat,c4=(p:Int):=⟨c4.toNat,by omega⟩
 have hp24:p<24:=by omega
 have hc2:1≤c2∧c2≤b.ents.length:=by omega
 obtain⟨gf,hgf,hbf⟩:=(HV.out w3 t3).forests p hp24;have HFO:=Lib.hid (zid (HV.out w3 t3) hp24 hgf);have HUN:=Lib.hid (zvg hbf (zec HOK.out).1 (zec HOK.out).2.2 (Nat.le_trans HFEW.out.stakes (by omega)) hp24 hc2);have hC3:=hC2.keep t3 id;have hB3:=hB2.keep t3 id;obtain⟨k0,k1,k2,k3,k4,k5⟩:=hC3.f6;clear hc hci hA1 hL hgf hbf hC2 hB2 hc2 tt2;go_wp2_with fail;refine HFO.out.mono ?_;rintro _ _ ⟨rfl,rfl⟩;clear HFO;go_wp2_with fail;refine HUN.out.mono ?_;rintro _ w4 ⟨u2,rfl,hU⟩;have t4:=hU.tch;have tt4:=tt3.trans t4;have T24:=t3.trans t4;have hUr:=hU.row;have hLr4:=hLr.keep t4;have hC4:=hC3.keep t4 id;have hB4:=hB3.keep t4 id;obtain⟨AU,kU,rfl,_,_⟩:=hUr.form;generalize hun:(zal b.ents.length).filter (zbm b.stakes (p:Int) c2)=un at *;have HUNE:=Lib.hid hun;clear HUN k0 k1 k2 k3 k4 k5 hU hC3 hB3 t4 tt3 hLr hun t3;have HT4:=Lib.hid tt4;have HT24:=Lib.hid T24;clear tt4 T24;go_wp2_with fail;go_loopw [11] (fun i wr=>∃j:Nat,j≤l.length∧i=.int .i64 j∧Tf w4 wr) (fun i _=>l.length-(intOf i).toNat)
 case atStart=>exact⟨0,Nat.zero_le _,rfl,Tch.refl _ _⟩
 case round=>
  obtain⟨j,hj,rfl,ht⟩:=hrel;by_cases hlt:j<l.length
  ·have hlt':(j:Int)<(l.length:Int):=by omega
   have hj0:=znn j;obtain⟨gl,ol,rfl⟩:=hLr4.head (by omega);have q0:=Row.one (hLr4.keep ht) zap hlt rfl;obtain⟨P,hP,hP1,f1,f2,f3,f4⟩:=HMEM.out _ (List.getElem_mem hlt);generalize l[j]=x at *
   have HLF:Hid (∀wa,Tf wr wa→Calls Tryz.prog 23 #[.slice An us.length cn,iV x] wa fun e w'=>e=.returned (.tuple #[.agg (zq2 P).toArray,.bool true])∧Tf wa w'):=Lib.hid (by
    refine fun wa t9=>(HLN.out wa ((HT24.out.trans ht).trans t9) x).mono ?_
    rintro e w' ⟨p',ok,rfl,t',ho,hn⟩;rw[HMAP.out]at ho hn
    cases ok
    ·exact absurd hP1 (hn rfl P hP)
    ·obtain⟨h8,h9⟩:=ho rfl;rw[lines7_one h8 hP (h9.trans hP1.symm)]
     exact⟨rfl,t'⟩)
   obtain⟨x1,x2,x3,x4,x5,x6,x7⟩:=P;unfold zq2 at HLF;simp only at f1 f2 f3 f4 hP1 HLF;have hBr:=hB4.keep ht id;have hCr:=hC4.keep ht id;have hUr':=hUr.keep ht;have hb5:=wc0 hBr.at5;have q1:=wc0 q0;have HTR:=Lib.hid ht;clear hP hP1 hLr4 ht;go_wp2_with fail;refine zhu (fun _=>False) [9] 11 [(6,.inl (.tuple #[.agg #[iV x1,iV x2,iV x3,iV x4,iV x5,iV x6,iV x7],.bool true])),(10,.inr fun u w'=>∃g,u=.pointer (some ⟨g,0,none⟩)∧wr.heap.size≤g∧Blk w' g 62 #[iV 0,iV 0,iV 0,iV 0,iV 0,iV 0,iV 0])] [] (by kernel_rfl) rfl (by kernel_rfl) rfl (fun d _ _ _ _ h=>by cases d<;>exact h) ?_ ?_
   ·exact⟨fun _ _ _ hr ⟨g,h1,h2,h3⟩=>⟨g,h1,h2,h3.keep hr id⟩,trivial⟩
   intro bef ops hbef hops;clear hbef;subst hops;simp only[List.take_succ_cons,List.take_zero,List.drop_succ_cons,List.drop_zero];iterate 6 (refine zbt ?_;(try simp only[zaw]))
   refine zb3 (.tuple #[.agg #[iV x1,iV x2,iV x3,iV x4,iV x5,iV x6,iV x7],.bool true]) (by rfl) (by rfl) (fun wa hr hf=>?_) ?_
   ·have tq:=(Tch.drew (fun _=>False) wr).trans hr;refine zaa (d:=68) rfl (by simp) (fun K hK=>?_);go_step;refine(HLF.out wa tq).mono ?_;rintro _ wb ⟨rfl,tb⟩;exact hK _ _ ⟨⟨rfl,tb⟩,zaf⟩
   simp only[zaw];iterate 3 (refine zbt ?_;(try simp only[zaw]))
   refine zaq (by rfl) (by rfl) (fun wa hr hf=>?_) (fun d3=>?_)
   ·have hs9:=((Tch.drew (fun _=>False) wr).trans hr).size;refine zaa (d:=12) rfl (by simp) (fun K hK=>?_);go_step;exact hK _ _ ⟨⟨⟨_,rfl,hs9,Blk.new _ _ _⟩,Tch.alloc _ _ _⟩,zaf⟩
   simp only[zaw];refine za6 ?_;intro wc hr hp hap;obtain⟨gq,rfl,hgl,hgq⟩:=hp _ (List.Mem.head _);have tc:=(Tch.drew _ wr).trans hr;clear hap hp hr q0 q1 hb5 HLF;have T1:=Lib.hid (HTR.out.trans tc);go_wp2_with (refine stK gq #[iV x1,iV x2,iV x3,iV x4,iV x5,iV x6,iV x7] hgq ?_);refine Lib.hid ?_;intro wd hG tG;have hsw:=HTR.out.size;have hzB:=hBr.lt;have hzC:=hCr.lt;have tD:Tf wr wd:=tc.trans' tG (fun i hi=>.inr (by have hi:i=gq:=hi;omega));have T2:=HTR.out.trans tD;obtain⟨k0,k1,k2,k3,k4,k5⟩:=(hCr.keep tD id).f6;obtain⟨y0,y1,y2,y3,y4,y5,y6⟩:=hG.f7;have HUD:=Lib.hid (zhk (hUr'.keep tD) x4);have e1:¬((p:Int)<x3):=by omega
   clear hBr hCr hUr' hG hgq tG tc T1 tD hgl hsw hzB hzC f1
   rcases(show((3<c1)∧decide (x4∈un)=true)∨((x4 !=c2)=false∧c1≤3) by
    by_cases h3:c1≤3
    ·exact .inr ⟨by simpa using f2 h3,h3⟩
    ·exact .inl ⟨by omega,decide_eq_true (f3 (by omega))⟩)with⟨e2,e3⟩|⟨e2,e3⟩
   ·rw[e3]at HUD;have e4:¬c1≤3:=by omega
    rcases(show(c6 !=0)=false∨((c6 !=0)=true∧(x6 !=c6)=false) by
     by_cases h6:c6=0
     ·exact .inl (by simpa using h6)
     ·exact .inr ⟨by simpa using h6,by simpa using f4 h6⟩)with e6|⟨e6,e7⟩
    all_goals
     clear f2 f3 f4;go_wp2_with fail;refine HUD.out.mono ?_;rintro _ _ ⟨rfl,rfl⟩;clear HUD;go_wp2;go_roundw
     case rel=>exact⟨j+1,by omega,by go_num,T2⟩
     case measure=>simp[intOf];omega
   ·have e4:¬3<c1:=by omega
    rcases(show(c6 !=0)=false∨((c6 !=0)=true∧(x6 !=c6)=false) by
     by_cases h6:c6=0
     ·exact .inl (by simpa using h6)
     ·exact .inr ⟨by simpa using h6,by simpa using f4 h6⟩)with e6|⟨e6,e7⟩
    all_goals
     clear f2 f3 f4 HUD;go_wp2;go_roundw
     case rel=>exact⟨j+1,by omega,by go_num,T2⟩
     case measure=>simp[intOf];omega
  ·obtain rfl:j=l.length:=by omega
   have T1:=HT4.out.trans ht;clear hLr4 hUr hC4 hB4 ht;go_wp2_with fail;refine(awake39_any wr (HTA.out _ T1)).mono ?_;rintro _ wz ⟨rfl,tz⟩;go_wp2;(try rw[Exit.noGoto_ret]);go_ret;exact⟨rfl,T1.trans tz⟩
theorem feedunder_row {w:World} {u v:Value} (hT:Tab64 0 w) (hu:∃b,BooksIs (fun _=>True) w u b∧Bks64 b) (hv:∃c:Rt6,v=zcq c∧(I64 c.1∧I64 c.2.1∧I64 c.2.2.1∧I64 c.2.2.2.1∧I64 c.2.2.2.2.1∧I64 c.2.2.2.2.2)):
 Calls Tryz.prog 4 #[u,v] w fun x w'=>x=.returned (.bool true)∧Tf w w':=by
 obtain⟨b,hb,h64⟩:=hu;obtain⟨⟨c1,c2,c3,c4,c5,c6⟩,rfl,_⟩:=hv;obtain⟨e,a,s,r,l,n,us,rfl,h⟩:=hb.at;exact feedunder_any h h64 hT c1 c2 c3 c4 c5 c6
