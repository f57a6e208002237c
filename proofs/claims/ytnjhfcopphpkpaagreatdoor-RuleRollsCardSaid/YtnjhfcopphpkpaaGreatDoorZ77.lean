/-
  The recipes of all cells.
-/
import Derived.Test.YtnjhfcopphpkpaaGreatDoorZ72
import Derived.Test.YtnjhfcopphpkpaaGreatDoorZ73
import Derived.Test.YtnjhfcopphpkpaaGreatDoorTr
import Derived.Test.YtnjhfcopphpkpaaGreatDoorQh
import Derived.Test.YtnjhfcopphpkpaaGreatDoorZ32
set_option maxRecDepth 100000
set_option maxHeartbeats 6400000
namespace Go.Proofs.YtnjhfcopphpkpaaGreatDoor
open Go.RowKit Go.Gk Go.Gk.V33 Go.Gk.V37
def RuleOk (b:Bks) (c:Rt6) (w:World) (x:Ending) (w':World):Prop:=∃v,x=.returned (.tuple #[v,.int .i64 (ruleOf b c).2])∧RcpIs w' v (ruleOf b c).1∧Tf w w'
section
variable {w:World} {bv bi B t mr mp:Nat} {e a s r l n lv:Value} {fs:List Value} {b:Bks} {us:List (Ent×Value)}
structure RuleFacts (b:Bks):Prop where
 hn:(accLeaves b.accs).length≤1000
 hp:(posts b.entries).length≤10000
 h64:∀p∈posts b.entries,I64 p.2.2.2.2
 hr:b.rates.length≤1000000
 h40:b.ents.length≤40
 hac:b.accs.length≤1000
 hok:booksOK b=true
theorem tell_calls (h:Vw w bv bi B t mr mp e a s r l n lv fs b us) (F:RuleFacts b) (hT:Tab64 3 w) (c1 c2 c3 c4 c5 c6:Int) (hc:1≤c1∧c1≤7):
 ∃f,tellF c1=.func (.func f) #[] #[]∧(∀args w,(callFunc f args).run Tryz.prog w=.ok (.enter f args) w)∧Calls Tryz.prog f #[.pointer (some ⟨bv,0,none⟩),.agg #[.int .i64 c1,.int .i64 c2,.int .i64 c3,.int .i64 c4,.int .i64 c5,.int .i64 c6]] w fun x w'=>∃v,x=.returned (.tuple #[v,.int .i64 (tellOf b (c1,c2,c3,c4,c5,c6)).2])∧RcpIs w' v (tellOf b (c1,c2,c3,c4,c5,c6)).1∧Tf w w':=by
 have:c1=1∨c1=2∨c1=3∨c1=4∨c1=5∨c1=6∨c1=7:=by omega
 rcases this with rfl|rfl|rfl|rfl|rfl|rfl|rfl
 ·exact⟨_,rfl,enters_of Tryz.func100 (by kernel_rfl) rfl,localrec_any h F.hn F.hp F.h64 1 c2 c3 c4 c5 c6⟩
 ·exact⟨_,rfl,enters_of Tryz.func100 (by kernel_rfl) rfl,localrec_any h F.hn F.hp F.h64 2 c2 c3 c4 c5 c6⟩
 ·exact⟨_,rfl,enters_of Tryz.func101 (by kernel_rfl) rfl,transrec_any h F.hn F.hr hT 3 c2 c3 c4 c5 c6⟩
 ·exact⟨_,rfl,enters_of Tryz.func102 (by kernel_rfl) rfl,splitrec_any h F.hn F.h40 4 c2 c3 c4 c5 c6⟩
 ·exact⟨_,rfl,enters_of Tryz.func102 (by kernel_rfl) rfl,splitrec_any h F.hn F.h40 5 c2 c3 c4 c5 c6⟩
 ·exact⟨_,rfl,enters_of Tryz.func103 (by kernel_rfl) rfl,elimrec_x h F.hn F.hp F.hok 6 c2 c3 c4 c5 c6⟩
 ·exact⟨_,rfl,enters_of Tryz.func104 (by kernel_rfl) rfl,consrec_any h F.hn F.h40 F.hac 7 c2 c3 c4 c5 c6⟩
theorem rulerec_any (h:Vw w bv bi B t mr mp e a s r l n lv fs b us) (F:RuleFacts b) (hT:Tab64 3 w) (c1 c2 c3 c4 c5 c6:Int):
 Calls Tryz.prog 9 #[.pointer (some ⟨bv,0,none⟩),.agg #[.int .i64 c1,.int .i64 c2,.int .i64 c3,.int .i64 c4,.int .i64 c5,.int .i64 c6]] w (RuleOk b (c1,c2,c3,c4,c5,c6) w):=by
 have HV:=Lib.hid (fun w' (t9:Tf w w')=>h.keep t9);have HTB:=Lib.hid (fun w' (t9:Tf w w')=>hT.keep t9);have ta:=tal w (.cells #[.int .i64 c1,.int .i64 c2,.int .i64 c3,.int .i64 c4,.int .i64 c5,.int .i64 c6] 31);have tb:=tal (w.alloc (.cells #[.int .i64 c1,.int .i64 c2,.int .i64 c3,.int .i64 c4,.int .i64 c5,.int .i64 c6] 31)) (.cells #[.int .i64 0,.int .i64 0,.slice none 0 0,.slice none 0 0,.int .i64 0,.int .i64 0,.int .i64 0,.int .i64 0,.int .i64 0,.int .i64 0,.bool false,.int .i64 0,.int .i64 0,.bool false] 46);have tw:=ta.trans tb;have bC:=(Blk.new w 31 #[.int .i64 c1,.int .i64 c2,.int .i64 c3,.int .i64 c4,.int .i64 c5,.int .i64 c6]).keep tb id;have bO:=Blk.new2 w (.cells #[.int .i64 c1,.int .i64 c2,.int .i64 c3,.int .i64 c4,.int .i64 c5,.int .i64 c6] 31) 46 #[.int .i64 0,.int .i64 0,.slice none 0 0,.slice none 0 0,.int .i64 0,.int .i64 0,.int .i64 0,.int .i64 0,.int .i64 0,.int .i64 0,.bool false,.int .i64 0,.int .i64 0,.bool false];have HM:=Lib.hid (vwmay_any (HV.out _ tw) (c1,c2,c3,c4,c5,c6));unfold cellV at HM;simp only at HM;have HRU:=Lib.hid (show ruleOf b (c1,c2,c3,c4,c5,c6)=if cellIn (c1,c2,c3,c4,c5,c6) b.ents.length b.accs.length=0 then(if accLeaf b.accs c3=true then tellOf b (c1,c2,c3,c4,c5,c6)else(rollOf b.accs (c1,c2,c3,c4,c5,c6),0))else(Rcp.none,cellIn (c1,c2,c3,c4,c5,c6) b.ents.length b.accs.length)from rfl);have HCR:=Lib.hid (fun(h9:cellIn (c1,c2,c3,c4,c5,c6) b.ents.length b.accs.length=0)=>cell_rule (cell_ok h9).1);have HCA:=Lib.hid (fun(h9:cellIn (c1,c2,c3,c4,c5,c6) b.ents.length b.accs.length=0)=>(cell_ok h9).2.2);have HTO:=Lib.hid (fun(h9:cellIn (c1,c2,c3,c4,c5,c6) b.ents.length b.accs.length=0) hl=>tell_ok (c:=(c1,c2,c3,c4,c5,c6)) h9 hl);generalize cellIn (c1,c2,c3,c4,c5,c6) b.ents.length b.accs.length=ci at *;clear ta tb h hT;obtain⟨g0,g1,g2,g3,g4,g5⟩:=bC.f6;go_enter Tryz.func9,Tryz.ntmps9;go_wp2_with fail;generalize(w.alloc (.cells #[.int .i64 c1,.int .i64 c2,.int .i64 c3,.int .i64 c4,.int .i64 c5,.int .i64 c6] 31)).alloc _=W at *;generalize hzw:w.heap.size=z at *;have HZW:=Lib.hid hzw;clear hzw;refine HM.out.mono ?_;rintro _ w1 ⟨rfl,t1⟩;have bC1:=bC.keep t1 id;have bO1:=bO.keep t1 id;have T1:=tw.trans t1;clear HM bC bO tw t1 g0 g1 g2 g3 g4 g5;by_cases hci:ci=0
 rotate_left
 ·have hcb:(ci !=0)=true:=by simpa using hci
  have HE:=Lib.hid (show ruleOf b (c1,c2,c3,c4,c5,c6)=(Rcp.none,ci) by rw[HRU.out,if_neg hci]);clear hci HRU HCR HCA HTO bC1;go_wp2_with (refine stH (z+1) #[.int .i64 0,.int .i64 0,.slice none 0 0,.slice none 0 0,.int .i64 0,.int .i64 0,.int .i64 0,.int .i64 0,.int .i64 0,.int .i64 0,.bool false,.int .i64 0,.int .i64 0,.bool false] bO1 ?_);intro w9 HF HTF;clear bO1;go_wp2;(try simp only[exS]);refine retT HF.out ?_;unfold RuleOk;rw[HE.out];exact⟨_,rfl,⟨_,_,rfl,Row.nil _ _ _,Row.nil _ _ _⟩,T1.trans' (F':=fun g=>g=z+1) HTF.out (fun i hi=>.inr (by have hi:i=z+1:=hi;have:=HZW.out;omega))⟩
 subst hci;have HLF:=Lib.hid (vwleaf_any (HV.out w1 T1) F.hn c3);rw[leaf_contains]at HLF;have k2:=bC1.at2;go_wp2_with fail;refine HLF.out.mono ?_;rintro _ w2 ⟨rfl,t2⟩;have bC2:=bC1.keep t2 id;have bO2:=bO1.keep t2 id;have T2:=T1.trans t2;clear HLF k2 bC1 bO1 T1 t2;obtain⟨k0,k1,k2,k3,k4,k5⟩:=bC2.f6;by_cases hlf:accLeaf b.accs c3=true
 rotate_left
 ·have hlf2:accLeaf b.accs c3=false:=by simpa using hlf
  have HE:=Lib.hid (show ruleOf b (c1,c2,c3,c4,c5,c6)=(rollOf b.accs (c1,c2,c3,c4,c5,c6),0) by rw[HRU.out,if_pos (by trivial),if_neg hlf])
  have hai:accIs b.accs c3=true:=by
   have h1:=HCA.out (by trivial);have h2:=(HCR.out (by trivial)).2;unfold accIs;simp only[Bool.and_eq_true,decide_eq_true_eq];omega
  have HRO:=Lib.hid (rolled_any (HV.out w2 T2) F.hac c1 c2 c3 c4 c5 c6);rw[if_pos hai]at HRO;rw[hlf2];clear hlf hlf2 hai HRU HCR HCA HTO bC2;go_wp2_with fail;refine HRO.out.mono ?_;rintro _ w3 ⟨xs,O,co,hxs,rfl,hrow,t3⟩;have bO3:=bO2.keep t3 id;have T3:=T2.trans t3;have HRW:=Lib.hid (fun w' (t9:Tch (fun g=>g=z+1) w3 w')=>Row.keepTo (P':=fun _=>True) hrow t9 (fun g _ hg=>⟨fun e=>by have e:g=z+1:=e;have h5:=bO2.lt;have hg:w2.heap.size≤g:=hg;omega,trivial⟩));have HXS:=Lib.hid (show(rollOf b.accs (c1,c2,c3,c4,c5,c6)).plus=xs from hxs.symm);clear HRO hxs hrow t3 bO2 T2 k0 k1 k2 k3 k4 k5;go_wp2_with (refine stH (z+1) #[.int .i64 0,.int .i64 0,.slice O xs.length co,.slice none 0 0,.int .i64 0,.int .i64 0,.int .i64 0,.int .i64 0,.int .i64 0,.int .i64 0,.bool false,.int .i64 0,.int .i64 0,.bool false] bO3 ?_);intro w9 HF HTF;clear bO3;go_wp2;(try simp only[exS]);refine retT HF.out ?_;unfold RuleOk;rw[HE.out];refine⟨_,rfl,⟨.slice O xs.length co,.slice none 0 0,rfl,?_,Row.nil _ _ _⟩,T3.trans' (F':=fun g=>g=z+1) HTF.out (fun i hi=>.inr (by have hi:i=z+1:=hi;have:=HZW.out;omega))⟩;rw[HXS.out];exact HRW.out w9 HTF.out
 have HE:=Lib.hid (show ruleOf b (c1,c2,c3,c4,c5,c6)=((tellOf b (c1,c2,c3,c4,c5,c6)).1,0) by
  rw[HRU.out,if_pos (by trivial),if_pos hlf]
  exact Prod.ext rfl (HTO.out (by trivial) hlf))
 have HT0:=Lib.hid (HTO.out (by trivial) hlf);have HC1:=Lib.hid (HCR.out (by trivial)).1;have HFI:=Lib.hid (tell_find (c:=c1) (HCR.out (by trivial)).1);rw[hlf];have X0:=within_cell (F:=fun _=>False) k0 id;have X1:=within_cell (F:=fun _=>False) k1 id;have X2:=within_cell (F:=fun _=>False) k2 id;have X3:=within_cell (F:=fun _=>False) k3 id;have X4:=within_cell (F:=fun _=>False) k4 id;have X5:=within_cell (F:=fun _=>False) k5 id;have HCL:=Lib.hid (fun w' (t9:Tf w w')=>tell_calls (HV.out w' t9) F (HTB.out w' t9) c1 c2 c3 c4 c5 c6 HC1.out);obtain⟨f,hf,hfe,_⟩:=HCL.out w (Tch.refl _ _)
 have HCF:=Lib.hid (fun w' (t9:Tf w w')=>show Calls Tryz.prog f #[.pointer (some ⟨bv,0,none⟩),.agg #[.int .i64 c1,.int .i64 c2,.int .i64 c3,.int .i64 c4,.int .i64 c5,.int .i64 c6]] w' fun x w9=>∃v,x=.returned (.tuple #[v,.int .i64 0])∧RcpIs w9 v (tellOf b (c1,c2,c3,c4,c5,c6)).1∧Tf w' w9 by
  obtain⟨f',hf',_,hcl⟩:=HCL.out w' t9;rw[hf]at hf';simp only[Value.func.injEq,Fn.func.injEq,and_true]at hf';subst hf';have h0:=HT0.out;rw[h0]at hcl
  exact hcl)
 have HFE:=Lib.hid hfe;rw[hf]at HFI;clear HCL HT0 hf hfe HRU HCR HCA HTO hlf k0 k1 k2 k3 k4 k5;have HPO:=Lib.hid (tell_pos (b:=b) (c:=(c1,c2,c3,c4,c5,c6)) (show c1≠0 by have:=HC1.out;omega));clear HC1;generalize(tellOf b (c1,c2,c3,c4,c5,c6)).1=R at *;go_wp2_with fail;refine wp_touch (fun _=>False) [] 9 [(0,.inr fun u w'=>∃g,u=.map (some g)∧MapIs intK w' g tellMap),(3,.inl (.func (.func f) #[] #[])),(6,.inr fun u w'=>∃v,u=.tuple #[v,.int .i64 0]∧RcpIs w' v R),(7,.inr fun u w'=>RcpIs w' u R),(8,.inl (.int .i64 0))] [] ?_ ?_
 ·exact⟨fun _ _ _ hr ⟨g,h1,h2⟩=>⟨g,h1,h2.keep hr id⟩,fun _ _ _ hr ⟨v,h1,h2⟩=>⟨v,h1,h2.keep hr⟩,fun _ _ _ hr h=>h.keep hr,trivial⟩
 intro bef hbef;have hb3:(bef.getD 3 0).testBit 0=true:=by rw[hbef];kernel_rfl
 have hb7:(bef.getD 7 0).testBit 6=true:=by rw[hbef];kernel_rfl
 have hb8:(bef.getD 8 0).testBit 6=true:=by rw[hbef];kernel_rfl
 clear hbef;refine t_loose (by rfl) (by rfl) (fun wa hr hf=>?_) (fun d0=>?_)
 ·refine yields_of_wp (d:=26) rfl (by simp) (fun K hK=>?_);go_step;refine(tellers_any wa).mono ?_;rintro _ wb ⟨g,rfl,hm,tb⟩;exact hK _ _ ⟨⟨⟨g,rfl,hm⟩,tb⟩,newAt_no⟩
 simp only[putS];iterate 2 (refine t_dq ?_;(try simp only[putS]))
 refine t_fix (.func (.func f) #[] #[]) (by rfl) (by rfl) (fun wa hr hf=>?_) ?_
 ·obtain⟨g,rfl,hm⟩:=hf (0,fun w'=>∃g,d0=.map (some g)∧MapIs intK w' g tellMap) (List.mem_cons_self ..) hb3;refine yields_look_int _ _ _ rfl Tryz.underlying102 Tryz.underlying3 (k:=c1) (by rfl) (by rfl) hm HFI.out ?_;exact⟨⟨rfl,Tch.refl _ _⟩,newAt_no⟩
 simp only[putS];iterate 2 (refine t_dq ?_;(try simp only[putS]))
 refine t_loose (by rfl) (by rfl) (fun wa hr hf=>?_) (fun d6=>?_)
 ·refine yields_of_wp (d:=32) rfl (by simp) (fun K hK=>?_);have hfe:=HFE.out;go_step;refine(HCF.out wa ((T2.trans (Tch.drew _ w2)).trans hr)).mono ?_;rintro _ wb ⟨v,rfl,hv,tb⟩;exact hK _ _ ⟨⟨⟨v,rfl,hv⟩,tb⟩,newAt_no⟩
 simp only[putS];refine t_loose (by rfl) (by rfl) (fun wa hr hf=>?_) (fun d7=>?_)
 ·obtain⟨v,rfl,hv⟩:=hf (6,fun w'=>∃v,d6=.tuple #[v,.int .i64 0]∧RcpIs w' v R) (by simp) hb7;refine yields_of_wp (d:=33) rfl (by simp) (fun K hK=>?_);go_step;exact hK _ _ ⟨⟨hv,Tch.refl _ _⟩,newAt_no⟩
 simp only[putS];refine t_fix (.int .i64 0) (by rfl) (by rfl) (fun wa hr hf=>?_) ?_
 ·obtain⟨v,rfl,hv⟩:=hf (6,fun w'=>∃v,d6=.tuple #[v,.int .i64 0]∧RcpIs w' v R) (by simp) hb8;refine yields_of_wp (d:=34) rfl (by simp) (fun K hK=>?_);go_step;exact hK _ _ ⟨⟨rfl,Tch.refl _ _⟩,newAt_no⟩
 simp only[putS];refine t_nil ?_;intro w3 hr hp hap;obtain⟨p,m,rfl,hp1,hm1⟩:=hp (7,fun w'=>RcpIs w' d7 R) (by simp);have t3:=(Tch.drew (fun _=>False) w2).trans hr;have bO3:=bO2.keep t3 id;have T3:=T2.trans t3;obtain⟨Pp,cp,rfl,_,_⟩:=hp1.form;obtain⟨Mm,cm,rfl,_,_⟩:=hm1.form;have HP:=Lib.hid (fun w' t9=>row_beside hp1 HPO.out.1 (w':=w') bO3 t9);have HMM:=Lib.hid (fun w' t9=>row_beside hm1 HPO.out.2 (w':=w') bO3 t9);clear HPO;obtain⟨⟨b1,b2⟩,pl,mi,⟨s1,s2,s3,s4,s5,s6⟩,rd,⟨q1,q2⟩,hs⟩:=R;unfold rcpV;simp only at HP HMM⊢;clear hp hap hr t3 hp1 hm1 hb3 hb7 hb8 X0 X1 X2 X3 X4 X5 HCF HFI HFE bC2 bO2 T2;go_wp2_with (refine stH (z+1) #[.int .i64 b1,.int .i64 b2,.slice Pp pl.length cp,.slice Mm mi.length cm,.int .i64 s1,.int .i64 s2,.int .i64 s3,.int .i64 s4,.int .i64 s5,.int .i64 s6,.bool rd,.int .i64 q1,.int .i64 q2,.bool hs] bO3 ?_);intro w9 HF HTF;clear bO3;go_wp2;(try simp only[exS]);refine retT HF.out ?_;unfold RuleOk;rw[HE.out];exact⟨_,rfl,⟨_,_,rfl,HP.out w9 HTF.out,HMM.out w9 HTF.out⟩,T3.trans' (F':=fun g=>g=z+1) HTF.out (fun i hi=>.inr (by have hi:i=z+1:=hi;have:=HZW.out;omega))⟩
end
end Go.Proofs.YtnjhfcopphpkpaaGreatDoor
namespace Go.Gk.V37
open Go.RowKit Go.Gk
def idsOf (b:Bks) (c:Rt6):List Int:=
 if c.1=1∧cellIn c b.ents.length b.accs.length=0∧accLeaf b.accs c.2.2.1=true then((rowsAt (posts b.entries) (c.2.1,c.2.2.1,c.2.2.2.1)).filter fun r=>c.2.2.2.2.2==0||r.2.1==c.2.2.2.2.2).map (·.1)else[]
end Go.Gk.V37
namespace Go.Proofs.YtnjhfcopphpkpaaGreatDoor
open Go.RowKit Go.Gk Go.Gk.V37
section
variable {w:World} {bv bi B t mr mp:Nat} {e a s r l n lv:Value} {fs:List Value} {b:Bks} {us:List (Ent×Value)}
theorem ruleids_any (h:Vw w bv bi B t mr mp e a s r l n lv fs b us) (hn:(accLeaves b.accs).length≤1000) (hp:(posts b.entries).length≤10000) (c1 c2 c3 c4 c5 c6:Int):
 Calls Tryz.prog 14 #[.pointer (some ⟨bv,0,none⟩),.agg #[.int .i64 c1,.int .i64 c2,.int .i64 c3,.int .i64 c4,.int .i64 c5,.int .i64 c6]] w fun x w'=>∃u,x=.returned u∧Outs int1 1 3 w w' u (idsOf b (c1,c2,c3,c4,c5,c6)):=by
 have HV:=Lib.hid (fun w' (t9:Tf w w')=>h.keep t9);have ta:=tal w (.cells #[.int .i64 c1,.int .i64 c2,.int .i64 c3,.int .i64 c4,.int .i64 c5,.int .i64 c6] 31);have bC:=Blk.new w 31 #[.int .i64 c1,.int .i64 c2,.int .i64 c3,.int .i64 c4,.int .i64 c5,.int .i64 c6];have HM:=Lib.hid (vwmay_any (HV.out _ ta) (c1,c2,c3,c4,c5,c6));unfold cellV at HM;simp only at HM;have HID:=Lib.hid (show idsOf b (c1,c2,c3,c4,c5,c6)=if c1=1∧cellIn (c1,c2,c3,c4,c5,c6) b.ents.length b.accs.length=0∧accLeaf b.accs c3=true then((rowsAt (posts b.entries) (c2,c3,c4)).filter fun r=>c6==0||r.2.1==c6).map (·.1)else[]from rfl);generalize cellIn (c1,c2,c3,c4,c5,c6) b.ents.length b.accs.length=ci at *;generalize idsOf b (c1,c2,c3,c4,c5,c6)=R at *;obtain⟨k0,k1,k2,k3,k4,k5⟩:=bC.f6;clear h;by_cases h1:c1=1
 rotate_left
 ·have hb:(c1 !=1)=true:=by simpa using h1
  obtain rfl:[]=R:=by rw[HID.out,if_neg (fun h=>h1 h.1)]
  have HTA:=Lib.hid ta;clear h1 HID HM HV bC ta;go_enter Tryz.func14,Tryz.ntmps14;go_wp2;go_ret;exact⟨_,rfl,Outs.start _ _ _ HTA.out⟩
 subst h1;go_enter Tryz.func14,Tryz.ntmps14;go_wp2_with fail;generalize w.alloc _=W at *;generalize w.heap.size=z at *;refine HM.out.mono ?_;rintro _ w1 ⟨rfl,t1⟩;have bC1:=bC.keep t1 id;have T1:=ta.trans t1;clear HM bC ta t1 k0 k1 k2 k3 k4 k5;by_cases hci:ci=0
 rotate_left
 ·have hcb:(ci !=0)=true:=by simpa using hci
  obtain rfl:[]=R:=by rw[HID.out,if_neg (fun h=>hci h.2.1)]
  have HTA:=Lib.hid T1;clear hci HID HV bC1 T1;go_wp2;go_ret;exact⟨_,rfl,Outs.start _ _ _ HTA.out⟩
 subst hci;have HLF:=Lib.hid (vwleaf_any (HV.out w1 T1) hn c3);rw[leaf_contains]at HLF;have k2:=bC1.at2;go_wp2_with fail;refine HLF.out.mono ?_;rintro _ w2 ⟨rfl,t2⟩;have bC2:=bC1.keep t2 id;have T2:=T1.trans t2;clear HLF k2 bC1 T1 t2;by_cases hlf:accLeaf b.accs c3=true
 rotate_left
 ·have hlf2:accLeaf b.accs c3=false:=by simpa using hlf
  obtain rfl:[]=R:=by rw[HID.out,if_neg (fun h=>hlf h.2.2)]
  have HTA:=Lib.hid T2;rw[hlf2];clear hlf hlf2 HID HV bC2 T2;go_wp2;go_ret;exact⟨_,rfl,Outs.start _ _ _ HTA.out⟩
 have HR:=Lib.hid (show R=((rowsAt (posts b.entries) (c2,c3,c4)).filter fun r=>c6==0||r.2.1==c6).map (·.1) by rw[HID.out,if_pos (by simpa using hlf)]);rw[hlf];have HI:=Lib.hid (vwids_any (HV.out w2 T2) hp c2 c3 c4 c6);have k1:=bC2.at1;have k2:=bC2.at2;have k3:=bC2.at3;have k5:=bC2.at5;rw[←HR.out]at HI;clear hlf HID HV bC2 HR;go_wp2_with fail;refine HI.out.mono ?_;rintro _ w3 ⟨u,rfl,hO⟩;obtain⟨O,co,rfl,ho1,ho2⟩:=hO.form;clear HI k1 k2 k3 k5;go_wp2;go_ret;exact⟨_,rfl,hO.base T2⟩
