/-
  FeedParts: what feeds a cell is what feeds the cells that it reads, and its own lines. (Printed by gen_kr.py.)
-/
import Derived.Test.YtoegobjnjljegaaGreatDoorZ91
set_option maxRecDepth 100000
set_option maxHeartbeats 25600000
namespace Go.Gk.V39
open Go.RowKit Go.Gk Go.Gk.V33 Go.Gk.V37 Go.Gk.V38
def Ats (b:Bks) (c:Rt6) (R:List Rt6) (xs:List Int):Prop:=xs.Pairwise (· < ·)∧∀x,x∈xs↔x∈zoh b c∨∃k∈R,Feeds b k x
theorem ats_zero (b:Bks) (c:Rt6):Ats b c [] ((zoh b c).foldl zdq []):=⟨fold_up .nil,fun x=>by rw[fold_mem];simp⟩
theorem ats_step {b:Bks} {c k:Rt6} {R:List Rt6} {xs m:List Int} (h:Ats b c R xs) (hm:LinesAns b k m 0):Ats b c (R++[k]) (m.foldl zdq xs):=⟨fold_up h.1,fun x=>by
 rw[fold_mem,h.2,(hm.2.2 rfl).2];constructor
 ·rintro((h1|⟨d,hd,h1⟩)|h1)
  ·exact .inl h1
  ·exact .inr ⟨d,List.mem_append_left _ hd,h1⟩
  ·exact .inr ⟨k,by simp,h1⟩
 ·rintro(h1|⟨d,hd,h1⟩)
  ·exact .inl (.inl h1)
  ·rcases List.mem_append.1 hd with hd|hd
   ·exact .inl (.inr ⟨d,hd,h1⟩)
   ·rw[List.mem_singleton.1 hd]at h1
    exact .inr h1⟩
theorem feeds_lim {b:Bks} {c:Rt6} {x:Int} (h:Feeds b c x):1≤x∧x≤(zay b.entries).length:=by
 obtain⟨d,_,hx⟩:=h;obtain⟨n,hn,h1,_⟩:=ids_mem hx;omega
theorem up_len {xs:List Int} (h:xs.Pairwise (· < ·)) {n:Nat} (hb:∀x∈xs,1≤x∧x≤n):xs.length≤n:=by
 have h1:=List.Nodup.length_le_of_subset (l₁:=xs) (l₂:=zal n) (h.imp fun h2=>by omega) fun x hx=>zgc.2 (hb x hx)
 rwa [za5]at h1
theorem ats_len {b:Bks} {c:Rt6} {R:List Rt6} {xs:List Int} (h:Ats b c R xs) (hp:(zay b.entries).length≤3000):xs.length≤3000:=
 Nat.le_trans (up_len h.1 fun x hx=>by
  rcases(h.2 x).1 hx with h1|⟨k,_,h1⟩
  ·exact feeds_lim (show Feeds b c x from⟨c,.base (by simp),h1⟩)
  ·exact feeds_lim h1) hp
theorem lines_few {b:Bks} {c:Rt6} {l:List Int} (h:LinesAns b c l 0) (hp:(zay b.entries).length≤3000):l.length≤3000:=
 Nat.le_trans (up_len (h.2.2 rfl).1 fun x hx=>feeds_lim (((h.2.2 rfl).2 x).1 hx)) hp
theorem reads_bad {b:Bks} {c:Rt6} (h:za3 c b.ents.length b.accs.length≠0):zyk (zfg b c).1=[]:=by
 unfold zfg;rw[if_neg h];rfl
theorem reads_in {b:Bks} (hok:zba b=true) {c k:Rt6} (hk:k∈zyk (zfg b c).1):za3 k b.ents.length b.accs.length=0∧k.2.2.2.1≤c.2.2.2.1:=by
 by_cases h:za3 c b.ents.length b.accs.length=0
 ·exact⟨(zz9 hok h (z0s hk)).1,rule_per _ (z0s hk)⟩
 ·rw[reads_bad h]at hk;cases hk
theorem ats_end {b:Bks} {c:Rt6} {l xs:List Int} {er:Int} (hA:LinesAns b c l er) (h:Ats b c (zyk (zfg b c).1) xs):l=xs:=by
 by_cases h0:er=0
 ·exact zp1 (hA.2.2 h0).1 h.1 fun x=>by rw[(hA.2.2 h0).2,h.2,feeds_split]
 ·have h1:za3 c b.ents.length b.accs.length≠0:=by rw[←hA.1];exact h0
  rw[reads_bad h1]at h;rw[hA.2.1 h0];refine(List.eq_nil_iff_forall_not_mem.2 fun x hx=>?_).symm
  rcases(h.2 x).1 hx with h2|⟨_,h2,_⟩
  ·unfold zoh at h2;rw[if_neg fun h3=>h1 h3.2.1]at h2
   cases h2
  ·cases h2
end Go.Gk.V39
namespace Go.Proofs.YtoegobjnjljegaaGreatDoor
open Go.RowKit Go.Gk Go.Gk.V32 Go.Gk.V33 Go.Gk.V37 Go.Gk.V38 Go.Gk.V39
theorem feedparts_any {w:World} {e a s r l n:Value} {b:Bks} {us:List (Ent×Value)} (h:BksAt w e a s r l n b us) (h64:Bks64 b) (hT:Tab64 0 w) (c1 c2 c3 c4 c5 c6:Int):
 Calls Tryz.prog 3 #[.agg #[e,a,s,r,l,n],.agg #[iV c1,iV c2,iV c3,iV c4,iV c5,iV c6]] w fun x w'=>x=.returned (.bool true)∧Tf w w':=by
 have HTA:=Lib.hid (fun w' (t9:Tf w w')=>hT.keep t9);clear hT;obtain⟨W,hW,tw,hbB,hbC⟩:=al2 w #[e,a,s,r,l,n] #[iV c1,iV c2,iV c3,iV c4,iV c5,iV c6] 29 31;have HF:=Lib.hid (z2e (h.keep tw) c1 c2 c3 c4 c5 c6);have HW:=Lib.hid (h.keep tw);obtain⟨Ae,ce,rfl,_,_⟩:=h.ents.form;obtain⟨Aa,ca,rfl,_,_⟩:=h.accs.form;obtain⟨As,cs,rfl,_,_⟩:=h.stakes.form;obtain⟨Ar,cr,rfl,_,_⟩:=h.rates.form;obtain⟨Al,cl,rfl,_,_⟩:=h.locks.form;obtain⟨An,cn,rfl,_,_⟩:=h.ent.row.form;clear h;obtain⟨g0,g1,g2,g3,g4,g5⟩:=hbB.f6;obtain⟨k0,k1,k2,k3,k4,k5⟩:=hbC.f6;go_enter Tryz.func3,Tryz.ntmps3;go_wp2_with fail;generalize w.heap.size=z at *;refine HF.out.mono ?_;rintro _ w1 ⟨fw,rfl,hfw,t1⟩;clear HF k0 k1 k2 k3 k4 k5 g0 g1 g2 g3 g4 g5 hW;have tt1:=tw.trans t1
 cases fw
 ·clear hfw;go_wp2_with fail;refine(awake39_any w1 (HTA.out _ tt1)).mono ?_;rintro _ wz ⟨rfl,tz⟩;go_wp2;(try rw[Exit.noGoto_ret]);go_ret;exact⟨rfl,tt1.trans tz⟩
 obtain⟨hf26,hE6,hA9,hP3⟩:=hfw rfl;have hfew:=zwv hf26;have hB1:=hbB.keep t1 id;have hC1:=hbC.keep t1 id;have h1:=HW.out.keep t1;clear hbB hbC HW tw t1 hfw hf26;obtain⟨g0,g1,g2,g3,g4,g5⟩:=hB1.f6;go_wp2_with fail;refine(zwu h1 hfew h64).mono ?_;rintro _ w2 ⟨hsee,t2⟩;have tt2:=tt1.trans t2
 rcases hsee with⟨_,m,rfl,hm⟩|⟨hok,bv,bi,B,t,mr,mp,e',a',s',r',l',n',lv,fs,us',rfl,hV⟩
 ·have hm2:(m !=0)=true:=by simpa using hm
  clear g0 g1 g2 g3 g4 g5 hm;go_wp2_with fail;refine(awake39_any w2 (HTA.out _ tt2)).mono ?_;rintro _ wz ⟨rfl,tz⟩;go_wp2;(try rw[Exit.noGoto_ret]);go_ret;exact⟨rfl,tt2.trans tz⟩
 have hC2:=hC1.keep t2 id;have hB2:=hB1.keep t2 id;have HBA:=Lib.hid (h1.keep t2);clear g0 g1 g2 g3 g4 g5 hB1 hC1 h1 tt1 t2;have hpl:=z34 hfew;have FACTS:=Lib.hid (show RuleFacts b from⟨zvc hfew,zxs hfew,ztj h64,by have:=hfew.rates;omega,(zec hok).1,by have:=hfew.accs;omega,hok⟩);have HFEW:=Lib.hid hfew;have HOK:=Lib.hid hok;have HV:=Lib.hid (fun w' (t9:Tf w2 w')=>hV.keep t9);have HTT:=Lib.hid (fun w' (t9:Tf w2 w')=>HTA.out _ (tt2.trans t9));have HLI:=Lib.hid (fun w' (t9:Tf w2 w') d1 d2 d3 d4 d5 d6 (hd:d4≤3)=>lines39_any (hV.keep t9) FACTS.out hpl hE6 hA9 (HTT.out _ t9) d1 d2 d3 d4 d5 d6 hd);have HP3:=Lib.hid hP3;have HPL:=Lib.hid hpl;have HREC:=Lib.hid (fun w' (t9:Tf w2 w')=>zga (HV.out w' t9) FACTS.out (HTT.out w' t9) c1 c2 c3 c4 c5 c6);have HIDS:=Lib.hid (fun w' (t9:Tf w2 w')=>zlw (HV.out w' t9) FACTS.out.hn FACTS.out.hp c1 c2 c3 c4 c5 c6);have T2:=Lib.hid tt2;obtain⟨k0,k1,k2,k3,k4,k5⟩:=hC2.f6;clear hfew h64 hok hpl hE6 hA9 hP3 hV hB2 tt2;go_wp2_with fail;refine(HLI.out w2 (Tch.refl _ _) c1 c2 c3 c4 c5 c6 HP3.out).mono ?_;rintro _ w3 ⟨l,u,er,rfl,hL,hA1⟩;have t3:=hL.tch;have hLr:=hL.row;obtain⟨AL,kL,rfl,_,_⟩:=hLr.form;have hC3:=hC2.keep t3 id;obtain⟨q0,q1,q2,q3,q4,q5⟩:=hC3.f6;have HA1:=Lib.hid hA1;clear k0 k1 k2 k3 k4 k5 hC2 hL hA1;go_wp2_with fail;refine(HREC.out w3 t3).mono ?_;rintro _ w4 ⟨v1,rfl,hr1,t4⟩;rw[(zz8 (b:=b) (c:=(c1,c2,c3,c4,c5,c6))).trans HA1.out.1.symm];have hrl:=z1l HOK.out HPL.out (c1,c2,c3,c4,c5,c6)
 obtain⟨R,hR⟩:∃R,(zfg b (c1,c2,c3,c4,c5,c6)).1=R:=⟨_,rfl⟩
 rw[hR]at hr1 hrl
 obtain⟨RD,hRD⟩:∃L,zyk R=L:=⟨_,rfl⟩
 have HRR:=Lib.hid (show zyk (zfg b (c1,c2,c3,c4,c5,c6)).1=RD by rw[hR];exact hRD);have HRDS:=Lib.hid (fun w' (t9:Tf w4 w')=>zz5 (hr1.keep t9) (Nat.le_trans hrl (by omega)));rw[hRD]at HRDS;clear hR hRD hrl;obtain⟨⟨b1,b2⟩,pl,mi,⟨s1,s2,s3,s4,s5,s6⟩,rd,⟨r1,r2⟩,hs⟩:=R;obtain⟨p1,m1,rfl,hp1,hm1⟩:=hr1;obtain⟨P1,kk1,rfl,_,_⟩:=hp1.form;obtain⟨M1,dd1,rfl,_,_⟩:=hm1.form;unfold z4g at HRDS⊢;simp only at HRDS⊢;have tR:=tal w4 (.cells #[iV b1,iV b2,.slice P1 pl.length kk1,.slice M1 mi.length dd1,iV s1,iV s2,iV s3,iV s4,iV s5,iV s6,.bool rd,iV r1,iV r2,.bool hs] 48);have bR:=Blk.new w4 48 #[iV b1,iV b2,.slice P1 pl.length kk1,.slice M1 mi.length dd1,iV s1,iV s2,iV s3,iV s4,iV s5,iV s6,.bool rd,iV r1,iV r2,.bool hs];have hC5:=(hC3.keep t4 id).keep tR id;have T5:=(t3.trans t4).trans tR;have hL5:=hLr.keep (t4.trans tR);obtain⟨f0,f1,f2,f3,f4,f5⟩:=hC5.f6;have hee:(er !=er)=false:=by simp
 clear q0 q1 q2 q3 q4 q5 hp1 hm1 hC3 hC5 t4 t3 hLr HREC;go_wp2_with fail;generalize w4.alloc _=W5 at *;generalize w4.heap.size=y at *;refine(HIDS.out W5 T5).mono ?_;rintro _ w6 ⟨u6,rfl,hI⟩;have t6:=hI.tch;have HRS:=Lib.hid (rising_any hI.row (Nat.le_trans (ids_len b _ HPL.out) (by omega)));obtain⟨A6,k6,rfl,_,_⟩:=hI.row.form;clear f0 f1 f2 f3 f4 f5 hI HIDS hee;go_wp2_with fail;refine HRS.out.mono ?_;rintro _ w7 ⟨u7,rfl,hO7,hn7⟩;have t67:=hO7.tch;have HAT:=Lib.hid (ats_zero b (c1,c2,c3,c4,c5,c6));generalize(zoh b (c1,c2,c3,c4,c5,c6)).foldl zdq []=xs0 at *;obtain⟨A7,k7,rfl,_,_⟩:=hO7.row.form;have t57:=t6.trans t67;have tR7:=tR.trans t57;have bR7:=bR.keep t57 id;obtain⟨f0,f1,f2,f3,f4,f5,f6,f7,f8,f9,f10,f11,f12,f13⟩:=bR7.f14;have T7:=T5.trans t57;have hL7:=hL5.keep t57;clear HRS hL5 T5 bR bR7 t6 t67 tR t57;go_wp2_with fail;refine(HRDS.out w7 tR7).mono ?_;rintro _ w8 ⟨u8,rfl,hR8,t8⟩;have hO8:=hO7.keep t8;have T8:=T7.trans t8;have HL8:=Lib.hid (hL7.keep t8);have hRD8:zae za2 6 (fun _=>True) w8 u8 RD:=Row.weak hR8 fun _ _=>trivial
 obtain⟨A8,k8,rfl,_,_⟩:=hRD8.form;clear f0 f1 f2 f3 f4 f5 f6 f7 f8 f9 f10 f11 f12 f13 hR8 HRDS T7 hL7 t8 tR7 hO7;have HT8:=Lib.hid T8;have HRD8:=Lib.hid hRD8;clear T8 hRD8;go_wp2_with fail;go_loopw [11,13] (fun v i wr=>∃(j:Nat) (xs:List Int),j≤RD.length∧i=.int .i64 j∧Ats b (c1,c2,c3,c4,c5,c6) (RD.take j) xs∧zet w6 wr v xs∧(xs=[]→v=.slice none 0 0)∧Tf w8 wr) (fun _ i _=>RD.length-(intOf i).toNat)
 case atStart=>exact⟨0,xs0,Nat.zero_le _,rfl,HAT.out,hO8,hn7,Tch.refl _ _⟩
 case round=>
  obtain⟨j,xs,hj,rfl,hat,hO,hnil,ht⟩:=hrel;have HN:=Lib.hid hnil;have HT:=Lib.hid hat;have hj0:=znn j;clear hat hnil hO8 hn7;by_cases hlt:j<RD.length
  ·have hlt':(j:Int)<(RD.length:Int):=by omega
   have hr9:=HRD8.out.keep ht;obtain⟨g,o,rfl⟩:=hr9.head (by omega);obtain⟨q0,q1,q2,q3,q4,q5⟩:=Row.six hr9 zd3 hlt rfl;have HK:=Lib.hid (reads_in HOK.out (show RD[j]∈zyk (zfg b (c1,c2,c3,c4,c5,c6)).1 by rw[HRR.out];exact List.getElem_mem hlt));have HTK:=Lib.hid (show RD.take (j+1)=RD.take j++[RD[j]]from List.take_succ_eq_append_getElem hlt);generalize RD[j]=k at *;obtain⟨e1,e2,e3,e4,e5,e6⟩:=k;simp only at q0 q1 q2 q3 q4 q5;have hp9:e4≤3:=Int.le_trans HK.out.2 HP3.out;have HLK:=Lib.hid (HLI.out wr (HT8.out.trans ht) e1 e2 e3 e4 e5 e6 hp9);clear hr9 hp9;go_wp2_with fail;refine HLK.out.mono ?_;rintro _ wm ⟨m,u,er2,rfl,hm,hmA⟩;obtain rfl:er2=0:=hmA.1.trans HK.out.1;have tm:=hm.tch;have hmr:=hm.row;have HMA:=Lib.hid hmA;have hOm:=hO.keep tm;have T9:=Lib.hid (ht.trans tm);have HXL:=Lib.hid (ats_len HT.out HPL.out);have HML:=Lib.hid (lines_few hmA HPL.out);obtain⟨Am,km,rfl,_,_⟩:=hmr.form;obtain⟨Ax,kx,rfl,_,_⟩:=hO.form;clear q0 q1 q2 q3 q4 q5 HLK hm hmA hO ht tm;go_wp2_with fail;go_loopw [11,16] (fun v i wy=>∃(n:Nat) (ys:List Int),n≤m.length∧i=.int .i64 n∧(m.take n).foldl zdq xs=ys∧ys.length≤xs.length+n∧zet w6 wy v ys∧(ys=[]→v=.slice none 0 0)∧Tf wm wy) (fun _ i _=>m.length-(intOf i).toNat)
   case atStart=>exact⟨0,xs,Nat.zero_le _,rfl,rfl,Nat.le_refl _,hOm,HN.out,Tch.refl _ _⟩
   case round=>
    obtain⟨n,ys,hn,rfl,hys,hyl,hOy,hny,hty⟩:=hrel;have HYS:=Lib.hid hys;have HYL:=Lib.hid hyl;have hn0:=znn n;clear hys hyl hOm;by_cases hln:n<m.length
    ·have hln':(n:Int)<(m.length:Int):=by omega
     have hm9:=hmr.keep hty;obtain⟨gm,om,rfl⟩:=hm9.head (by omega);have q0:=Row.one hm9 zap hln rfl;have HNX:=Lib.hid (show(m.take (n+1)).foldl zdq xs=zdq ys m[n] by rw[List.take_succ_eq_append_getElem hln,List.foldl_append,HYS.out];rfl);have HW:=Lib.hid (refwith_tf hOy hny (by have:=HYL.out;have:=HXL.out;have:=HML.out;omega) m[n]);have HWL:=Lib.hid (with_len ys m[n]);have HNE:=Lib.hid (withD_ne ys m[n]);obtain⟨Ay,ky,rfl,_,_⟩:=hOy.form;generalize m[n]=x at *;clear hm9 hOy hny;go_wp2_with fail;refine HW.out.mono ?_;rintro _ wn ⟨u,rfl,hO2,tn⟩;obtain⟨O2,co2,rfl,_,_⟩:=hO2.form;have HO2:=Lib.hid (⟨hO2,hty.trans tn⟩:_∧_);clear HW hO2 tn hty q0;go_wp2;go_roundw
     case rel=>exact⟨n+1,zdq ys x,by omega,by go_num,HNX.out,by have:=HWL.out;have:=HYL.out;omega,HO2.out.1,fun h9=>absurd h9 HNE.out,HO2.out.2⟩
     case measure=>simp[intOf];omega
    ·obtain rfl:n=m.length:=by omega
     rw[List.take_length]at HYS;have HAN:=Lib.hid (ats_step HT.out HMA.out);rw[HYS.out,←HTK.out]at HAN;have HO2:=Lib.hid (⟨hOy,hny,T9.out.trans hty⟩:_∧_∧_);obtain⟨Ay,ky,rfl,_,_⟩:=hOy.form;clear hOy hny hty;go_wp2;go_roundw
     case rel=>exact⟨j+1,ys,by omega,by go_num,HAN.out,HO2.out.1,HO2.out.2.1,HO2.out.2.2⟩
     case measure=>simp[intOf];omega
  ·obtain rfl:j=RD.length:=by omega
   rw[List.take_length,←HRR.out]at HT;have e9:=ats_end HA1.out HT.out;subst e9;have HSI:=Lib.hid (zkn (HL8.out.keep ht) hO.row);obtain⟨Ax,kx,rfl,_,_⟩:=hO.form;have T1:=(T2.out.trans HT8.out).trans ht;clear hO ht;go_wp2_with fail;refine HSI.out.mono ?_;rintro _ wq ⟨rfl,tq⟩;have T9:=T1.trans tq;go_wp2_with fail;refine(awake39_any wq (HTA.out _ T9)).mono ?_;rintro _ wz ⟨rfl,tz⟩;go_wp2;(try rw[Exit.noGoto_ret]);go_ret;exact⟨rfl,T9.trans tz⟩
theorem feedparts_row {w:World} {u v:Value} (hT:Tab64 0 w) (hu:∃b,BooksIs (fun _=>True) w u b∧Bks64 b) (hv:∃c:Rt6,v=zcq c∧(I64 c.1∧I64 c.2.1∧I64 c.2.2.1∧I64 c.2.2.2.1∧I64 c.2.2.2.2.1∧I64 c.2.2.2.2.2)):
 Calls Tryz.prog 3 #[u,v] w fun x w'=>x=.returned (.bool true)∧Tf w w':=by
 obtain⟨b,hb,h64⟩:=hu;obtain⟨⟨c1,c2,c3,c4,c5,c6⟩,rfl,_⟩:=hv;obtain⟨e,a,s,r,l,n,us,rfl,h⟩:=hb.at;exact feedparts_any h h64 hT c1 c2 c3 c4 c5 c6
