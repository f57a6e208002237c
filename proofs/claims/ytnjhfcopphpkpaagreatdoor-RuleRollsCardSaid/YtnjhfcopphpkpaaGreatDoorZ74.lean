/-
  The document's sum of values.
-/
import Derived.Test.YtnjhfcopphpkpaaGreatDoorZ37
import Derived.Test.YtnjhfcopphpkpaaGreatDoorYw
set_option maxRecDepth 100000
set_option maxHeartbeats 25600000
namespace Go.Proofs.YtnjhfcopphpkpaaGreatDoor
open Go.RowKit Go.Gk
theorem fault28_any {w:World} {v:Value} {l:List Vl} (hl:RowsOf val2 2 (fun _=>True) w v l) (hn:l.length≤100000):
 Calls Tryz.prog 59 #[v] w fun x w'=>x=.returned (.int .i64 (ferr 0 l))∧w'=w:=by
 obtain⟨A,c,rfl,hc1,hc2⟩:=hl.form;have HF:=Lib.hid (show ferr 0 l=ferr 0 l from rfl)
 obtain⟨R,hR⟩:∃R,ferr 0 l=R:=⟨_,rfl⟩
 rw[hR];have HR:=Lib.hid hR;clear hR HF;go_enter Tryz.func59,Tryz.ntmps59;go_wp2_with fail;go_loopw [3] (fun i wr=>∃j:Nat,j≤l.length∧i=.int .i64 j∧w=wr∧ferr 0 (l.take j)=0) (fun i _=>l.length-(intOf i).toNat)
 case atStart=>exact⟨0,Nat.zero_le _,rfl,rfl,rfl⟩
 case round=>
  obtain⟨j,hj,rfl,rfl,hx⟩:=hrel;have HX:=Lib.hid hx;clear hx;by_cases hlt:j<l.length
  ·have hlt':(j:Int)<(l.length:Int):=by omega
   have hj0:=znn j;obtain⟨g,o,rfl⟩:=hl.head (by omega);obtain⟨q0,q1⟩:=Row.two hl val2_len hlt rfl;have HS:=Lib.hid (show ferr 0 (l.take (j+1))=l[j].2 by rw[List.take_succ_eq_append_getElem hlt,ferr_snoc,HX.out,if_pos rfl]);have HD:=Lib.hid (show l=l.take (j+1)++l.drop (j+1)from(List.take_append_drop _ _).symm);clear hl;generalize l[j]=x at *;obtain⟨x1,x2⟩:=x;simp only at q0 q1 HS;by_cases h0:x2=0
   ·subst h0;go_wp2;go_roundw
    case rel=>exact⟨j+1,by omega,by go_num,by trivial,HS.out⟩
    case measure=>simp[intOf];omega
   ·have hb:(x2 !=0)=true:=by simpa using h0
    have HRR:=Lib.hid (show x2=R by
     have h9:=HR.out;rw[HD.out,ferr_app,HS.out,ferr_stay h0]at h9
     exact h9)
    clear HS HD HX h0 HR;go_wp2;(try simp only[Exit.inBlock,Exit.then]);(try rw[Exit.noGoto_ret]);go_ret;rw[HRR.out];exact⟨rfl,rfl⟩
  ·obtain rfl:j=l.length:=by omega
   have hx:=HX.out;rw[List.take_length]at hx;have HRR:=Lib.hid (show(0:Int)=R from hx.symm.trans HR.out);clear HX hx HR;go_wp2;go_ret;rw[HRR.out];exact⟨rfl,rfl⟩
theorem amounts28_any {w:World} {v:Value} {l:List Vl} (hl:RowsOf val2 2 (fun _=>True) w v l) (hn:l.length≤100000):
 Calls Tryz.prog 61 #[v] w fun x w'=>∃u,x=.returned u∧Outs int1 1 3 w w' u (l.map (·.1)):=by
 obtain⟨A,c,rfl,hc1,hc2⟩:=hl.form;go_enter Tryz.func61,Tryz.ntmps61;go_wp2_with fail;go_loopw [3,4] (fun out i wr=>∃(j:Nat) (xs:List Int),j≤l.length∧i=.int .i64 j∧(l.take j).map (·.1)=xs∧Outs int1 1 3 w wr out xs) (fun _ i _=>l.length-(intOf i).toNat)
 case atStart=>exact⟨0,[],Nat.zero_le _,rfl,rfl,Outs.start _ _ _ (Tch.refl _ _)⟩
 case round=>
  obtain⟨j,xs,hj,rfl,hx,hO⟩:=hrel;obtain⟨O,co,rfl,ho1,ho2⟩:=hO.form;have HX:=Lib.hid hx;have hxl:xs.length≤j:=by rw[←hx,List.length_map,List.length_take];omega
  clear hx;by_cases hlt:j<l.length
  ·have hlt':(j:Int)<(l.length:Int):=by omega
   have hj0:=znn j;have hl9:=hl.keep hO.tch;obtain⟨g,o,rfl⟩:=hl9.head (by omega);obtain⟨q0,q1⟩:=Row.two hl9 val2_len hlt rfl;have HS:=Lib.hid (show(l.take (j+1)).map (·.1)=xs++[l[j].1] by rw[←HX.out,List.take_succ_eq_append_getElem hlt,List.map_append];rfl);clear hl hl9 HX q1;generalize l[j]=x at *;obtain⟨x1,x2⟩:=x;simp only at q0 HS;go_wp2_with (at_builtin;refine apd rowInts (hO.own.alloc _) (Go.Gk.Src.one (news:=[.int .i64 (x1)]) rfl (fun m9 u9 hu9=>by rw[(Blk.new (wr) 3 #[.int .i64 (x1)]).cell m9];simpa using hu9)) (by simp;rfl) ?_;intro v2 w2 ho2 hg2 hl2;have hO2:=hO.step (x:=x1) (Tch.alloc _ _ _) ho2 hg2 hl2;obtain⟨O2,co2,rfl,_,_⟩:=own_form ho2);go_roundw
   case rel=>exact⟨j+1,xs++[x1],by omega,by go_num,HS.out,by simpa using hO2⟩
   case measure=>simp[intOf];omega
  ·obtain rfl:j=l.length:=by omega
   have hx:=HX.out;rw[List.take_length]at hx;have HXX:=Lib.hid hx;clear hx HX;go_wp2;go_ret;rw[HXX.out];exact⟨_,rfl,hO⟩
theorem told28_any (n e:Int) (w:World):
 Calls Tryz.prog 62 #[.int .i64 n,.int .i64 e] w fun x w'=>x=.returned (vlV (if e≠0 then(0,e)else(n,0)))∧Tf w w':=by
 unfold vlV;by_cases he:e=0
 ·subst he;rw[if_neg (by decide)];go_enter Tryz.func62,Tryz.ntmps62;go_wp2;refine retR (Blk.new w 39 _) ?_;exact⟨rfl,Tch.alloc _ _ _⟩
 ·have he':(e !=0)=true:=by simpa using he
  rw[if_pos he];clear he;go_enter Tryz.func62,Tryz.ntmps62;go_wp2;(try simp only[Exit.inBlock,Exit.then]);(try rw[Exit.noGoto_ret]);refine retR (Blk.new w 39 _) ?_;exact⟨rfl,Tch.alloc _ _ _⟩
open Go.RowKit Go.Gk
theorem told28_t2 (x:Int) (w:World):Calls Tryz.prog 62 #[.int .i64 (told2 x).1,.int .i64 (told2 x).2] w fun y w'=>y=.returned (vlV (told2 x))∧Tf w w':=by
 have h:=told28_any (told2 x).1 (told2 x).2 w;rw[told2_norm]at h;exact h
theorem net28_any {w:World} {u v:Value} {p m:List Vl} (hp:RowsOf val2 2 (fun _=>True) w u p) (hm:RowsOf val2 2 (fun _=>True) w v m) (p64:∀x∈p,Vl64 x) (m64:∀x∈m,Vl64 x) (np:p.length≤5000) (nm:m.length≤5000):
 Calls Tryz.prog 21 #[u,v] w fun x w'=>x=.returned (vlV (netOf p m))∧Tf w w':=by
 have ta:=tal w (.cells #[.int .i64 0,.int .i64 0] 39);have tb:=tal (w.alloc (.cells #[.int .i64 0,.int .i64 0] 39)) (.cells #[] 39);have hv:=Blk.new w 39 #[.int .i64 0,.int .i64 0]
 have h0:Outs val2 2 39 (w.alloc (.cells #[.int .i64 0,.int .i64 0] 39)) ((w.alloc (.cells #[.int .i64 0,.int .i64 0] 39)).alloc (.cells #[] 39)) (.slice (some ⟨w.heap.size+1,0,none⟩) 0 0) []:=
  ⟨by simpa using own_blk (size:=2) (n:=0) (base:=w.heap.size+1) (Blk.new2 w (.cells #[.int .i64 0,.int .i64 0] 39) 39 #[]) (Nat.le_refl _) (by rfl) (by decide),tb⟩
 have HPK:=Lib.hid (fun w' (t9:Tf w w')=>hp.keep t9);have HMK:=Lib.hid (fun w' (t9:Tf w w')=>hm.keep t9);obtain⟨A,c,rfl,_,_⟩:=hp.form;obtain⟨A',c',rfl,_,_⟩:=hm.form;have hp0:=HPK.out _ (ta.trans tb);have P64:=Lib.hid (show I64s (p.map (·.1))from fun x hx=>by obtain⟨y,hy,rfl⟩:=List.mem_map.1 hx;exact p64 y hy);have M64:=Lib.hid (show I64s (m.map (·.1))from fun x hx=>by obtain⟨y,hy,rfl⟩:=List.mem_map.1 hx;exact m64 y hy);have hN0:ferr 0 (p++m)=0→netOf p m=told2 ((p.map (·.1)).sum-(m.map (·.1)).sum):=fun h=>by unfold netOf;rw[if_pos h]
 have hN1:ferr 0 (p++m)≠0→netOf p m=(0,ferr 0 (p++m)):=fun h=>by unfold netOf;rw[if_neg h]
 obtain⟨S,hS⟩:∃S,S=(p.map (·.1)).sum-(m.map (·.1)).sum:=⟨_,rfl⟩
 have HSS:=Lib.hid hS;rw[←hS]at hN0;clear hS;generalize netOf p m=NV at *;have HN0:=Lib.hid hN0;have HN1:=Lib.hid hN1;have hsz:(w.alloc (.cells #[.int .i64 0,.int .i64 0] 39)).heap.size=w.heap.size+1:=by simp
 clear hp hm p64 m64 hN0 hN1;go_enter Tryz.func21,Tryz.ntmps21;go_wp2_with (at_builtin;refine Hid.out ?_);refine Lib.hid ?_;generalize(w.alloc (.cells #[.int .i64 0,.int .i64 0] 39)).alloc (.cells #[] 39)=W at *;generalize w.alloc (.cells #[.int .i64 0,.int .i64 0] 39)=W1 at *;generalize hzw:w.heap.size=z at *;have HZW:=Lib.hid hzw;clear hzw;refine wpList_append _ rfl _ _ 59 rfl rowVals (own_base h0.own) (by rfl) hp0.src (by rfl) (one_val2 p) (by simp only[List.length_nil];unfold maxLen;omega) (by simp only[List.length_nil];omega) ?_;intro v1 w1 ho1 hg1 hl1;have h1:=h0.more (Tch.refl _ _) ho1 hg1 hl1;rw[List.nil_append]at h1;obtain⟨V1,k1,rfl,_,_⟩:=h1.form;have hm1:=HMK.out _ (ta.trans h1.tch);clear h0 ho1 hg1 hl1 hp0;go_wp2_with (at_builtin;refine Hid.out ?_);refine Lib.hid ?_;refine apd rowVals h1.own hm1.src (one_val2 m) ?_;intro v2 w2 ho2 hg2 hl2;have h2:=h1.more (Tch.refl _ _) ho2 hg2 hl2;obtain⟨V2,k2,rfl,_,_⟩:=h2.form;have T2:=ta.trans h2.tch;have hv2:=hv.keep h2.tch id;have HFA:=Lib.hid (fault28_any h2.row (by rw[List.length_append];omega));rw[List.length_append]at HFA;have ha1:=Lib.hid (fun w' (t9:Tf w w')=>amounts28_any (HPK.out w' t9) (by omega));have ha2:=Lib.hid (fun w' (t9:Tf w w')=>amounts28_any (HMK.out w' t9) (by omega));generalize ferr 0 (p++m)=fe at *;clear h1 h2 ho2 hg2 hl2 hm1 hv tb ta hsz;go_wp2_with fail;refine HFA.out.mono ?_;rintro _ w3 ⟨rfl,rfl⟩;clear HFA;by_cases h0:fe=0
 ·have HR:=Lib.hid (HN0.out h0);have hT:=Lib.hid (fun w'=>told28_t2 S w');subst h0;have HA1:=Lib.hid (ha1.out _ T2);clear HN0 HN1 ha1;go_wp2_with fail;refine HA1.out.mono ?_;rintro _ w4 ⟨u1,rfl,hO1⟩;have r1:=hO1.row;have T4:=T2.trans hO1.tch;have hv4:=hv2.keep hO1.tch id;obtain⟨U1,k3,hu1,_,_⟩:=hO1.form;rw[List.length_map]at hu1;subst hu1;have HA2:=Lib.hid (ha2.out _ T4);clear HA1 ha2 hv2 T2 hO1;go_wp2_with fail;refine HA2.out.mono ?_;rintro _ w5 ⟨u2,rfl,hO2⟩;have r2:=hO2.row;have r1:=r1.keep hO2.tch;have T5:=T4.trans hO2.tch;have hv5:=hv4.keep hO2.tch id;obtain⟨U2,k4,hu2,_,_⟩:=hO2.form;rw[List.length_map]at hu2;subst hu2;have hN:=Lib.hid (net_any r1 r2 P64.out M64.out (by rw[List.length_map];omega) (by rw[List.length_map];omega));rw[←HSS.out,told_told2]at hN;generalize told2 S=R at *;obtain⟨R1,R2⟩:=R;simp only at hN;clear HA2 r1 r2 hv4 T4 hO2;go_wp2_with fail;refine hN.out.mono ?_;rintro _ w6 ⟨rfl,t6⟩;have hv6:=hv5.keep t6 id;have T6:=T5.trans t6;clear hN hv5 T5;go_wp2_with fail;refine(hT.out w6).mono ?_;rintro _ w7 ⟨rfl,t7⟩;have hv7:=hv6.keep t7 id;have T7:=Lib.hid (T6.trans t7);unfold vlV;simp only;clear hT hv6 t6 t7 T6;go_wp2_with (refine stH z #[.int .i64 R1,.int .i64 R2] hv7 ?_);intro w9 HBF HTF;clear hv7;go_wp2;(try simp only[exS]);refine retR HBF.out ?_;rw[HR.out];exact⟨rfl,T7.out.trans' (F':=fun g=>g=z) HTF.out (fun i hi=>.inr (by have hi:i=z:=hi;have:=HZW.out;omega))⟩
 ·have HR:=Lib.hid (HN1.out h0);have h0':(fe !=0)=true:=by simpa using h0
  have T3:=Lib.hid T2;clear HN0 HN1 h0 ha1 ha2 T2;go_wp2_with (refine stH z #[.int .i64 0,.int .i64 fe] hv2 ?_);intro w9 HBF HTF;clear hv2;go_wp2;(try simp only[exS]);refine retR HBF.out ?_;rw[HR.out];exact⟨rfl,T3.out.trans' (F':=fun g=>g=z) HTF.out (fun i hi=>.inr (by have hi:i=z:=hi;have:=HZW.out;omega))⟩
open Go.RowKit Go.Gk Go.Gk.V33 Go.Gk.V37
theorem rule_facts {b:Bks} (hf:BksFew b) (h64:Bks64 b) (hok:booksOK b=true):RuleFacts b:=
 ⟨leaves_few hf,posts_few hf,posts_64 h64,by have:=hf.rates;omega,(ok_stakes hok).1,by have:=hf.accs;omega,hok⟩
theorem rulerolls_any {w:World} {e a s r l n v:Value} {b:Bks} {us:List (Ent×Value)} {ins:List Vl} (h:BksAt w e a s r l n b us) (h64:Bks64 b) (hT:Tab64 3 w) (hi:RowsOf val2 2 (fun _=>True) w v ins) (i64:∀x∈ins,Vl64 x) (c1 c2 c3 c4 c5 c6:Int):
 Calls Tryz.prog 4 #[.agg #[e,a,s,r,l,n],.agg #[.int .i64 c1,.int .i64 c2,.int .i64 c3,.int .i64 c4,.int .i64 c5,.int .i64 c6],v] w fun x w'=>x=.returned (.bool true)∧Tf w w':=by
 have HTA:=Lib.hid (fun w' (t9:Tf w w')=>awake37_any w' (hT.keep t9));have HTB:=Lib.hid (fun w' (t9:Tf w w')=>hT.keep t9);have HIN:=Lib.hid (fun w' (t9:Tf w w')=>hi.keep t9);have HI64:=Lib.hid i64;clear hT i64;have ta:=tal w (.cells #[e,a,s,r,l,n] 29);have tb:=tal (w.alloc (.cells #[e,a,s,r,l,n] 29)) (.cells #[.int .i64 c1,.int .i64 c2,.int .i64 c3,.int .i64 c4,.int .i64 c5,.int .i64 c6] 31);have tw:=ta.trans tb;have hbB:=(Blk.new w 29 #[e,a,s,r,l,n]).keep tb id;have hbC:=Blk.new2 w (.cells #[e,a,s,r,l,n] 29) 31 #[.int .i64 c1,.int .i64 c2,.int .i64 c3,.int .i64 c4,.int .i64 c5,.int .i64 c6];have HF:=Lib.hid (few26_any (h.keep tw));have HW:=Lib.hid (h.keep tw);obtain⟨Ae,ce,rfl,_,_⟩:=h.ents.form;obtain⟨Aa,ca,rfl,_,_⟩:=h.accs.form;obtain⟨As,cs,rfl,_,_⟩:=h.stakes.form;obtain⟨Ar,cr,rfl,_,_⟩:=h.rates.form;obtain⟨Al,cl,rfl,_,_⟩:=h.locks.form;obtain⟨An,cn,rfl,_,_⟩:=h.ent.row.form;obtain⟨Ai,ci,rfl,_,_⟩:=hi.form;have g0:=hbB.f6;clear ta tb h hi
 obtain⟨fw,hfw⟩:∃fw,few26 b=fw:=⟨_,rfl⟩
 rw[hfw]at HF;obtain⟨g0,g1,g2,g3,g4,g5⟩:=g0;go_enter Tryz.func4,Tryz.ntmps4;go_wp2_with fail;generalize(w.alloc (.cells #[.slice Ae b.ents.length ce,.slice Aa b.accs.length ca,.slice As b.stakes.length cs,.slice Ar b.rates.length cr,.slice Al b.locks.length cl,.slice An us.length cn] 29)).alloc (.cells #[.int .i64 c1,.int .i64 c2,.int .i64 c3,.int .i64 c4,.int .i64 c5,.int .i64 c6] 31)=W at *;generalize w.heap.size=z at *;refine HF.out.mono ?_;rintro _ w1 ⟨rfl,t1⟩;clear HF g0 g1 g2 g3 g4 g5;have tt1:=tw.trans t1
 cases fw
 ·clear hfw;go_wp2_with fail;refine(HTA.out w1 tt1).mono ?_;rintro _ w2 ⟨rfl,t2⟩;go_wp2;go_ret;exact⟨rfl,tt1.trans t2⟩
 have hfew:=few26_few hfw;have hB1:=hbB.keep t1 id;have hC1:=hbC.keep t1 id;have h1:=HW.out.keep t1;clear hbB hbC HW tw t1 hfw;by_cases hlen:60<ins.length
 ·have hlen':(60:Int)<(ins.length:Int):=by omega
  clear hlen hB1 hC1 h1;go_wp2_with fail;refine(HTA.out w1 tt1).mono ?_;rintro _ w2 ⟨rfl,t2⟩;go_wp2;go_ret;exact⟨rfl,tt1.trans t2⟩
 have hlen':¬(60:Int)<(ins.length:Int):=by omega
 obtain⟨g0,g1,g2,g3,g4,g5⟩:=hB1.f6;go_wp2_with fail;refine(see_any h1 hfew h64).mono ?_;rintro _ w2 ⟨hsee,t2⟩;have tt2:=tt1.trans t2
 rcases hsee with⟨_,m,rfl,hm⟩|⟨hok,bv,bi,B,t,mr,mp,e',a',s',r',l',n',lv,fs,us',rfl,hV⟩
 ·have hm2:(m !=0)=true:=by simpa using hm
  clear g0 g1 g2 g3 g4 g5 hm hB1 hC1 h1 hlen';go_wp2_with fail;refine(HTA.out w2 tt2).mono ?_;rintro _ w3 ⟨rfl,t3⟩;go_wp2;go_ret;exact⟨rfl,tt2.trans t3⟩
 have hC2:=hC1.keep t2 id;clear g0 g1 g2 g3 g4 g5 hB1 hC1 h1 tt1 t2;have hF:=rule_facts hfew h64 hok;have h60:=(V32.accs_60 hok).1;clear hfew h64 hok hlen';obtain⟨q0,q1,q2,q3,q4,q5⟩:=hC2.f6;have HRU:=Lib.hid (show ruleOf b (c1,c2,c3,c4,c5,c6)=if cellIn (c1,c2,c3,c4,c5,c6) b.ents.length b.accs.length=0 then(if accLeaf b.accs c3=true then tellOf b (c1,c2,c3,c4,c5,c6)else(rollOf b.accs (c1,c2,c3,c4,c5,c6),0))else(Rcp.none,cellIn (c1,c2,c3,c4,c5,c6) b.ents.length b.accs.length)from rfl);have HTO:=Lib.hid (fun(h9:cellIn (c1,c2,c3,c4,c5,c6) b.ents.length b.accs.length=0) hl=>tell_ok (c:=(c1,c2,c3,c4,c5,c6)) h9 hl);have HLO:=Lib.hid (fun(h9:cellIn (c1,c2,c3,c4,c5,c6) b.ents.length b.accs.length=0)=>leaf_or (c:=(c1,c2,c3,c4,c5,c6)) h9)
 have HAI:=Lib.hid (fun(h9:cellIn (c1,c2,c3,c4,c5,c6) b.ents.length b.accs.length=0)=>show accIs b.accs c3=true from by
  have h1:¬(b.accs.length:Int)<c3:=(cell_ok h9).2.2;have h2:1≤c3∧c3≤60:=(cell_rule (cell_ok h9).1).2;unfold accIs;simp only[Bool.and_eq_true,decide_eq_true_eq]
  omega)
 have HCH:=Lib.hid (fun(h9:cellIn (c1,c2,c3,c4,c5,c6) b.ents.length b.accs.length=0) x hx=>child_in (c:=(c1,c2,c3,c4,c5,c6)) h9 h60 (x:=x) hx);have HMY:=Lib.hid (fun w' (t9:Tf w2 w') (x:Int)=>vwmay_any (hV.keep t9) (c1,c2,x,c4,c5,c6));unfold cellV at HMY;simp only at HMY;have HLF:=Lib.hid (fun w' (t9:Tf w2 w')=>vwleaf_any (hV.keep t9) hF.hn c3);have HKD:=Lib.hid (fun w' (t9:Tf w2 w')=>vwkids_any (hV.keep t9) (by have:=hF.hac;omega) c3);have HKL:=Lib.hid (kids_len b.accs c3);have HAC:=Lib.hid hF.hac;have HREC:=Lib.hid (rulerec_any hV hF (HTB.out w2 tt2) c1 c2 c3 c4 c5 c6);clear hV hF h60;go_wp2_with fail;refine HREC.out.mono ?_;rintro _ w3 ⟨v1,rfl,hr1,t3⟩;clear HREC;have tt3:=tt2.trans t3;by_cases hci:cellIn (c1,c2,c3,c4,c5,c6) b.ents.length b.accs.length=0
 rotate_left
 ·have hE:ruleOf b (c1,c2,c3,c4,c5,c6)=(Rcp.none,cellIn (c1,c2,c3,c4,c5,c6) b.ents.length b.accs.length):=by rw[HRU.out,if_neg hci]
  rw[hE]at hr1⊢;obtain⟨p1,m1,rfl,hp1,hm1⟩:=hr1;obtain⟨P1,k1,rfl,_,_⟩:=hp1.form;obtain⟨M1,d1,rfl,_,_⟩:=hm1.form;have HRD:=Lib.hid (fun w' (t9:Tf w3 w')=>reads_any (r:=Rcp.none) ⟨_,_,rfl,hp1.keep t9,hm1.keep t9⟩ (by decide));rw[show readsOf Rcp.none=[]from by decide]at HRD;have HM3:=Lib.hid (fun w' (t9:Tf w2 w')=>HMY.out w' t9 c3);unfold rcpV Rcp.none at HRD⊢;simp only[List.length_nil]at HRD⊢;generalize cellIn (c1,c2,c3,c4,c5,c6) b.ents.length b.accs.length=er at *;have hne:(er !=0)=true:=by simpa using hci
  have ta:=tal w3 (.cells #[.int .i64 0,.int .i64 0,.slice P1 0 k1,.slice M1 0 d1,.int .i64 0,.int .i64 0,.int .i64 0,.int .i64 0,.int .i64 0,.int .i64 0,.bool false,.int .i64 0,.int .i64 0,.bool false] 46);have hC3:=(hC2.keep t3 id).keep ta id;have t3a:=t3.trans ta;have x3:=Blk.new w3 46 #[.int .i64 0,.int .i64 0,.slice P1 0 k1,.slice M1 0 d1,.int .i64 0,.int .i64 0,.int .i64 0,.int .i64 0,.int .i64 0,.int .i64 0,.bool false,.int .i64 0,.int .i64 0,.bool false];obtain⟨y0,y1,y2,y3,y4,y5⟩:=hC3.f6;clear q0 q1 q2 q3 q4 q5 hE hci HRU HTO HLO HAI HCH HMY HLF HKD HKL HAC hp1 hm1 hC2;go_wp2_with fail;generalize w3.alloc _=W3 at *;generalize w3.heap.size=x at *;refine(HM3.out W3 t3a).mono ?_;rintro _ w4 ⟨rfl,t4⟩;have t5:=ta.trans t4;have x4:=x3.keep t4 id;obtain⟨z0,z1,z2,z3,z4,z5,z6,z7,z8,z9,z10,z11,z12,z13⟩:=x4.f14;have TT:=Lib.hid (tt3.trans t5);have HR4:=Lib.hid (HRD.out w4 t5);clear y0 y1 y2 y3 y4 y5 hC3 x3 x4 HM3 HRD ta t3 t3a t4 t5;go_wp2_with fail;refine HR4.out.mono ?_;rintro _ w5 ⟨u5,rfl,hr5,t5⟩;obtain⟨U5,k5,rfl,_,_⟩:=hr5.form;have tt5:=TT.out.trans t5;(try simp only[List.length_nil]);clear z0 z1 z2 z3 z4 z5 z6 z7 z8 z9 z10 z11 z12 z13 hr5 HR4;go_wp2_with fail;refine(HTA.out w5 tt5).mono ?_;rintro _ w6 ⟨rfl,t6⟩;go_wp2;go_ret;exact⟨rfl,tt5.trans t6⟩
 have HE0:=Lib.hid (show(ruleOf b (c1,c2,c3,c4,c5,c6)).2=0 from by
  rw[HRU.out,if_pos hci];split
  ·exact HTO.out hci (by assumption)
  ·rfl)
 have HE1:=Lib.hid (fun(hl:accLeaf b.accs c3≠true)=>show(ruleOf b (c1,c2,c3,c4,c5,c6)).1=rollOf b.accs (c1,c2,c3,c4,c5,c6)from by rw[HRU.out,if_pos hci,if_neg hl]);have HL:=Lib.hid (HLO.out hci);have hai:=HAI.out hci;have HCI:=Lib.hid (fun x hx=>HCH.out hci x hx);rw[HE0.out];rw[hai,if_pos rfl]at HKD;have hRC:=Lib.hid hr1;generalize ruleOf b (c1,c2,c3,c4,c5,c6)=RR at *;obtain⟨⟨⟨b1,b2⟩,pl,mi,⟨s1,s2,s3,s4,s5,s6⟩,rd,⟨r1,r2⟩,hs⟩,er⟩:=RR;simp only at hr1 hRC HE1;obtain⟨p1,m1,rfl,hp1,hm1⟩:=hr1;obtain⟨P1,k1,rfl,_,_⟩:=hp1.form;obtain⟨M1,d1,rfl,_,_⟩:=hm1.form;unfold rcpV at hRC⊢;simp only at hRC⊢;have ta:=tal w3 (.cells #[.int .i64 b1,.int .i64 b2,.slice P1 pl.length k1,.slice M1 mi.length d1,.int .i64 s1,.int .i64 s2,.int .i64 s3,.int .i64 s4,.int .i64 s5,.int .i64 s6,.bool rd,.int .i64 r1,.int .i64 r2,.bool hs] 46);have hC3:=(hC2.keep t3 id).keep ta id;have t3a:=t3.trans ta;have tt4:=tt3.trans ta;have x3:=Blk.new w3 46 #[.int .i64 b1,.int .i64 b2,.slice P1 pl.length k1,.slice M1 mi.length d1,.int .i64 s1,.int .i64 s2,.int .i64 s3,.int .i64 s4,.int .i64 s5,.int .i64 s6,.bool rd,.int .i64 r1,.int .i64 r2,.bool hs];have HRK:=Lib.hid (fun w' (t9:Tf (w3.alloc (.cells #[.int .i64 b1,.int .i64 b2,.slice P1 pl.length k1,.slice M1 mi.length d1,.int .i64 s1,.int .i64 s2,.int .i64 s3,.int .i64 s4,.int .i64 s5,.int .i64 s6,.bool rd,.int .i64 r1,.int .i64 r2,.bool hs] 46)) w')=>hRC.out.keep (ta.trans t9));obtain⟨y0,y1,y2,y3,y4,y5⟩:=hC3.f6;clear q0 q1 q2 q3 q4 q5 hci hai HRU HTO HLO HAI HCH HE0 hp1 hm1 hC2 hRC ta t3 tt3;go_wp2_with fail;generalize w3.alloc _=W3 at *;generalize w3.heap.size=x at *;refine(HKD.out W3 t3a).mono ?_;rintro _ w4 ⟨u4,rfl,hO4⟩;have t4:=hO4.tch;have hK4:=hO4.row;obtain⟨U4,k4,rfl,_,_⟩:=hO4.form;have x4:=x3.keep t4 id;have hC4:=hC3.keep t4 id;have t4a:=t3a.trans t4;have tt5:=tt4.trans t4;have HK4:=Lib.hid (fun w' (t9:Tf w4 w')=>hK4.keep t9);have HR4:=Lib.hid (fun w' (t9:Tf w4 w')=>HRK.out w' (t4.trans t9));clear y0 y1 y2 y3 y4 y5 hC3 x3 hO4 hK4 HKD HRK t3a tt4 t4;by_cases hk0:(kidsA b.accs c3).length=0
 ·have hk:=List.length_eq_zero_iff.1 hk0;have hlf:=HL.out.2 hk;have y2:=hC4.at2;have HLV:=Lib.hid (HLF.out w4 t4a);rw[leaf_contains,hlf]at HLV;have hk1:((kidsA b.accs c3).length:Int)=0:=by omega
  generalize(kidsA b.accs c3).length=kl at *;clear hk hk0 hlf HL HE1 HCI HLF HMY HKL HK4 HR4;go_wp2_with fail;refine HLV.out.mono ?_;rintro _ w5 ⟨rfl,t5⟩;have tt6:=tt5.trans t5;clear HLV y2 hC4 x4;go_wp2_with fail;refine(HTA.out w5 tt6).mono ?_;rintro _ w6 ⟨rfl,t6⟩;go_wp2;go_ret;exact⟨rfl,tt6.trans t6⟩
 have hk1:¬((kidsA b.accs c3).length:Int)=0:=by omega
 have hnl:accLeaf b.accs c3≠true:=fun hl=>hk0 (by rw[HL.out.1 hl];rfl)
 have HRO:=Lib.hid (HE1.out hnl)
 have HRD:=Lib.hid (reads_any (HR4.out w4 (Tch.refl _ _)) (by
  show(pl.length+mi.length)≤50000;have h1:=congrArg (fun r:Rcp=>r.plus.length+r.minus.length) HRO.out;have h2:=HKL.out;have h3:=HAC.out;simp only[rollOf,Rcp.none,List.length_map,List.length_nil]at h1
  omega))
 rw[HRO.out,roll_reads]at HRD;simp only at HRD;obtain⟨z0,z1,z2,z3,z4,z5,z6,z7,z8,z9,z10,z11,z12,z13⟩:=x4.f14
 have HEV:=Lib.hid (fun w' (t9:Tf w4 w') (hl:ins.length=(kidsA b.accs c3).length)=>show Calls Tryz.prog _ _ w' _ from eval_any (HR4.out w' t9) (HIN.out w' (tt5.trans t9)) HI64.out (by rw[HRO.out];exact⟨show(-9223372036854775808:Int)≤0 by decide,show(0:Int)≤9223372036854775807 by decide⟩) (by
  rw[HRO.out];have h2:=HKL.out;have h3:=HAC.out;simp only[rollOf,Rcp.none,List.length_map,List.length_nil]
  omega) (by
  have h2:=HKL.out;have h3:=HAC.out
  omega) (fun h=>by rw[HRO.out]at h;cases h))
 have HEE:=Lib.hid (fun(hl:ins.length=(kidsA b.accs c3).length)=>show evalOf ⟨(b1,b2),pl,mi,(s1,s2,s3,s4,s5,s6),rd,(r1,r2),hs⟩ ins=netOf ins []from by rw[HRO.out];exact roll_eval hl);clear hnl hk0 HL HE1 HRO HR4
 obtain⟨L2,hL2⟩:∃L2,L2=(kidsA b.accs c3).map (childC (c1,c2,c3,c4,c5,c6)):=⟨_,rfl⟩
 rw[←hL2]at HRD;have hll:L2.length=(kidsA b.accs c3).length:=by rw[hL2,List.length_map]
 have HL2:=Lib.hid hL2;clear hL2
 obtain⟨K,hKK⟩:∃K,K=kidsA b.accs c3:=⟨_,rfl⟩
 rw[←hKK]at hk1 hll HEV HEE HL2 HCI HK4 HKL⊢;have hkn:K.length≤1000:=Nat.le_trans HKL.out HAC.out;clear hKK HKL;go_wp2_with fail;refine HRD.out.mono ?_;rintro _ w5 ⟨u5,rfl,hrl,t5⟩;have hr5:=hrl.weak (fun _ _=>trivial);obtain⟨U5,k5,rfl,_,_⟩:=hr5.form;have x5:=x4.keep t5 id;have hC5:=hC4.keep t5 id;have tt6:=tt5.trans t5;have HR5:=Lib.hid (fun w' (t9:Tf w5 w')=>hr5.keep t9);have HK5:=Lib.hid (fun w' (t9:Tf w5 w')=>HK4.out w' (t5.trans t9));have HM5:=Lib.hid (fun w' (t9:Tf w5 w')=>HMY.out w' ((t4a.trans t5).trans t9));have HEV5:=Lib.hid (fun w' (t9:Tf w5 w')=>HEV.out w' (t5.trans t9));have HLL:=Lib.hid hll;rw[hll];have hkl:K.length≤1000:=hkn;clear z0 z1 z2 z3 z4 z5 z6 z7 z8 z9 z10 z11 z12 z13 hrl hr5 HRD x4 hC4 t4a t5 tt5 HK4 HMY HLF HEV hll hkn HAC;go_wp2_with fail;go_loopw [13] (fun i wr=>∃j:Nat,j≤K.length∧i=.int .i64 j∧Tf w5 wr) (fun i _=>K.length-(intOf i).toNat)
 case atStart=>exact⟨0,Nat.zero_le _,rfl,Tch.refl _ _⟩
 case round=>
  obtain⟨j,hj,rfl,ht⟩:=hrel;by_cases hlt:j<K.length
  ·have hlt':(j:Int)<(K.length:Int):=by omega
   have hj0:=znn j;have hl9:=HK5.out wr ht;have hr9:=HR5.out wr ht;have hj2:j<L2.length:=by rw[HLL.out];exact hlt
   obtain⟨gk,ok,rfl⟩:=hl9.head (by omega);obtain⟨gl,ol,rfl⟩:=hr9.head (by omega);have q0:=Row.one hl9 int1_len hlt rfl
   have he:L2[j]=childC (c1,c2,c3,c4,c5,c6) K[j]:=by
    have h1:=HL2.out;subst h1;exact List.getElem_map _
   obtain⟨p0,p1,p2,p3,p4,p5⟩:=Row.six (a:=.int .i64 c1) (b:=.int .i64 c2) (d:=.int .i64 K[j]) (e:=.int .i64 c4) (p:=.int .i64 c5) (q:=.int .i64 c6) hr9 int6_len hj2 (by rw[he];rfl);have hmem:=HCI.out K[j] (List.getElem_mem hlt);have HMJ:=Lib.hid (fun w' (t9:Tf w5 w')=>HM5.out w' t9 K[j]);generalize K[j]=xk at *;rw[show cellIn (c1,c2,xk,c4,c5,c6) b.ents.length b.accs.length=0 from hmem]at HMJ;have tD:=tal wr (.cells #[.int .i64 c1,.int .i64 c2,.int .i64 xk,.int .i64 c4,.int .i64 c5,.int .i64 c6] 31);have bD:=Blk.new wr 31 #[.int .i64 c1,.int .i64 c2,.int .i64 xk,.int .i64 c4,.int .i64 c5,.int .i64 c6];have hCr:=hC5.keep ht id;obtain⟨y0,y1,y2,y3,y4,y5⟩:=hCr.f6;have tW:=ht.trans tD;have Q0:=(tal wr (.cells #[.int .i64 c1,.int .i64 c2,.int .i64 c3,.int .i64 c4,.int .i64 c5,.int .i64 c6] 31)).cell_some q0 id;have P0:=tD.cell_some p0 id;have P1':=tD.cell_some p1 id;have P2:=tD.cell_some p2 id;have P3:=tD.cell_some p3 id;have P4:=tD.cell_some p4 id;have P5:=tD.cell_some p5 id;have hcmp:∀w':World,(binOp .neq 31 (.agg #[.int .i64 c1,.int .i64 c2,.int .i64 xk,.int .i64 c4,.int .i64 c5,.int .i64 c6]) (.agg #[.int .i64 c1,.int .i64 c2,.int .i64 xk,.int .i64 c4,.int .i64 c5,.int .i64 c6])).run Tryz.prog w'=.ok (.bool false) w':=fun w'=>by rw[run_ne_Cell];simp
   clear hl9 hr9 he hmem HM5 tD hCr p0 p1 p2 p3 p4 p5 HEV5 HEE HCI HR5 HK5 HIN HTA HTB hC5 x5;go_wp2_with fail;generalize wr.alloc _=W9 at *;generalize wr.heap.size=y at *;have X0:=within_cell (F:=fun _=>False) P0 id;have X1:=within_cell (F:=fun _=>False) P1' id;have X2:=within_cell (F:=fun _=>False) P2 id;have X3:=within_cell (F:=fun _=>False) P3 id;have X4:=within_cell (F:=fun _=>False) P4 id;have X5:=within_cell (F:=fun _=>False) P5 id;have Y0:=within_cell (F:=fun _=>False) bD.at0 id;have Y1:=within_cell (F:=fun _=>False) bD.at1 id;have Y2:=within_cell (F:=fun _=>False) bD.at2 id;have Y3:=within_cell (F:=fun _=>False) bD.at3 id;have Y4:=within_cell (F:=fun _=>False) bD.at4 id;have Y5:=within_cell (F:=fun _=>False) bD.at5 id;clear P0 P1' P2 P3 P4 P5 bD;refine wp_touch (fun _=>False) [] 9 [] [] trivial ?_;intro bef _;iterate 9 (refine t_dq ?_;(try simp only[putS]))
   refine t_nil ?_;intro w7 hr _ _;have T7:=Lib.hid (tW.trans ((Tch.drew (fun _=>False) W9).trans hr));have HMK:=Lib.hid (HMJ.out w7 T7.out);clear X0 X1 X2 X3 X4 X5 Y0 Y1 Y2 Y3 Y4 Y5 hcmp hr tW HMJ q0 Q0 y0 y1 y2 y3 y4 y5;go_wp2_with fail;refine HMK.out.mono ?_;rintro _ w8 ⟨rfl,t8⟩;have T8:=T7.out.trans t8;clear HMK;go_wp2;go_roundw
   case rel=>exact⟨j+1,by omega,by go_num,T8⟩
   case measure=>simp[intOf]<;>omega
  ·obtain rfl:j=K.length:=by omega
   have hlt':¬(K.length:Int)<(K.length:Int):=by omega
   have tt7:=tt6.trans ht;by_cases hq:ins.length=K.length
   rotate_left
   ·have hq1:((ins.length:Int) !=(K.length:Int))=true:=by simp only[bne_iff_ne,ne_eq];omega
    clear hq HEV5 HEE HCI HR5 HK5 HIN HTB hC5 x5 HM5;go_wp2_with fail;refine(HTA.out wr tt7).mono ?_;rintro _ w9 ⟨rfl,t9⟩;go_wp2;go_ret;exact⟨rfl,tt7.trans t9⟩
   have hq1:((ins.length:Int) !=(K.length:Int))=false:=by rw[hq];simp
   have HE9:=Lib.hid (HEV5.out wr ht hq);have HN9:=Lib.hid (fun w' (t9:Tf w w')=>net28_any (HIN.out w' t9) (Row.nil (fun _=>True) w' 2) HI64.out (fun _ h=>(List.not_mem_nil h).elim) (by omega) (Nat.zero_le _));rw[HEE.out hq]at HE9;generalize netOf ins []=nv at *;obtain⟨n1,n2⟩:=nv;unfold vlV at HE9 HN9;simp only at HE9 HN9;have x9:=x5.keep ht id;obtain⟨z0,z1,z2,z3,z4,z5,z6,z7,z8,z9,z10,z11,z12,z13⟩:=x9.f14;have hcmp:∀w':World,(binOp .eql 39 (.agg #[.int .i64 n1,.int .i64 n2]) (.agg #[.int .i64 n1,.int .i64 n2])).run Tryz.prog w'=.ok (.bool true) w':=fun w'=>by rw[run_eq_Val];simp
   clear hq HEV5 HEE HCI HR5 HK5 HIN HTB hC5 x5 HM5 x9;go_wp2_with fail;refine HE9.out.mono ?_;rintro _ w9 ⟨rfl,t9⟩;have tt8:=tt7.trans t9;clear HE9 z0 z1 z2 z3 z4 z5 z6 z7 z8 z9 z10 z11 z12 z13;go_wp2_with fail;refine(HN9.out w9 tt8).mono ?_;rintro _ w10 ⟨rfl,t10⟩;have tt9:=tt8.trans t10;clear HN9;go_wp2_with fail;refine(HTA.out w10 tt9).mono ?_;rintro _ w11 ⟨rfl,t11⟩;go_wp2;go_ret;exact⟨rfl,tt9.trans t11⟩
theorem rulerolls_row {w:World} {u v x:Value} (hT:Tab64 3 w) (hu:∃b,BooksIs (fun _=>True) w u b∧Bks64 b) (hv:∃c:Rt6,v=cellV c∧(I64 c.1∧I64 c.2.1∧I64 c.2.2.1∧I64 c.2.2.2.1∧I64 c.2.2.2.2.1∧I64 c.2.2.2.2.2)) (hx:∃ins:List Vl,RowsOf val2 2 (fun _=>True) w x ins∧∀y∈ins,Vl64 y):
 Calls Tryz.prog 4 #[u,v,x] w fun x w'=>x=.returned (.bool true)∧Tf w w':=by
 obtain⟨b,hb,h64⟩:=hu;obtain⟨⟨c1,c2,c3,c4,c5,c6⟩,rfl,_⟩:=hv;obtain⟨ins,hi,i64⟩:=hx;obtain⟨e,a,s,r,l,n,us,rfl,h⟩:=hb.at;exact rulerolls_any h h64 hT hi i64 c1 c2 c3 c4 c5 c6
