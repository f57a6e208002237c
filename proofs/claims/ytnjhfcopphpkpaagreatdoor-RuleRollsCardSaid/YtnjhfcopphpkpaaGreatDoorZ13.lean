/-
  Entries: the opposite one.
-/
import Derived.Test.YtnjhfcopphpkpaaGreatDoorZ12
set_option maxRecDepth 100000
set_option maxHeartbeats 6400000
namespace Go.Gk
def turnedTo (l:List Ln4) (j:Nat):List Ln4:=(l.take j).map opp++l.drop j
theorem turnedTo_len (l:List Ln4) (j:Nat):(turnedTo l j).length=l.length:=by unfold turnedTo;simp;omega
theorem turnedTo_at {l:List Ln4} {j:Nat} (h:j<l.length):(turnedTo l j)[j]'(by rw[turnedTo_len];exact h)=l[j]:=by
 unfold turnedTo;rw[List.getElem_append_right (by simp;omega)];simp[Nat.min_eq_left (Nat.le_of_lt h)]
theorem turnedTo_step {l:List Ln4} {j:Nat} (h:j<l.length):(turnedTo l j).set j (opp l[j])=turnedTo l (j+1):=by
 unfold turnedTo;rw[List.set_append_right _ _ (by simp;omega),List.length_map,List.length_take,Nat.min_eq_left (Nat.le_of_lt h),Nat.sub_self,List.take_succ_eq_append_getElem h,List.map_append,List.drop_eq_getElem_cons h,List.set_cons_zero,List.append_assoc];rfl
theorem turnedTo_cells {l:List Ln4} {j:Nat} (h:j<l.length):((turnedTo l j).flatMap int4).set (j*4+3) (.int .i64 (-l[j].2.2.2))=(turnedTo l (j+1)).flatMap int4:=by
 rw[←turnedTo_step h];exact flat_set int4_len _ j 3 _ _ (by rw[turnedTo_len];exact h) (by decide) (by rw[turnedTo_at h];rfl)
def OppRet (l:List Ln4) (w:World) (e:Ending) (w':World):Prop:=∃(a b:Int) (A:Option Addr) (n c:Nat) (q:Int),e=.returned (.tuple #[.agg #[.int .i64 a,.int .i64 b,.slice A n c],.int .i64 q])∧((l.any fun x=>x.2.2.2== -9223372036854775808)=true→(q==0)=false)∧((l.any fun x=>x.2.2.2== -9223372036854775808)=false→q=0∧n=l.length∧RowsOf int4 4 (fun _=>True) w' (.slice A n c) (l.map opp))∧Tf w w'
end Go.Gk
namespace Go.Proofs.YtnjhfcopphpkpaaGreatDoor
open Go.RowKit Go.Gk
theorem sub0_any (a:Int) (h1: -9223372036854775808<a) (h2:a≤9223372036854775807) (w:World):
 Calls Tryz.prog 306 #[.int .i64 0,.int .i64 a] w fun e w'=>e=.returned (.tuple #[.int .i64 (-a),.int .i64 0])∧w=w':=by
 by_cases h3:a=0
 ·subst h3;go_enter Tryz.func306,Tryz.ntmps306;go_wp2;go_ret2
  exact⟨rfl,rfl⟩
 have h3':(a==0)=false:=by simpa using h3
 have h3'':(a !=0)=true:=by simpa using h3
 by_cases h4:0<a
 ·go_enter Tryz.func306,Tryz.ntmps306;go_wp2;all_goals(go_ret2;exact⟨by first|(simp;done)|(congr 2;congr 1;first|omega|(congr 1;go_num;done)),rfl⟩)
 ·have h5:a<0:=by omega
  go_enter Tryz.func306,Tryz.ntmps306;go_wp2;all_goals(go_ret2;exact⟨by first|(simp;done)|(congr 2;congr 1;first|omega|(congr 1;go_num;done)),rfl⟩)
theorem subMin_any (w:World):
 Calls Tryz.prog 306 #[.int .i64 0,.int .i64 (-9223372036854775808)] w fun e w'=>e=.returned (.tuple #[.int .i64 0,.int .i64 10])∧w=w':=by
 have hw:wrap64 9223372036854775808= -9223372036854775808:=by decide+kernel
 go_enter Tryz.func306,Tryz.ntmps306;go_wp2
 all_goals first
  |(exfalso;omega)
  |(go_ret2;exact⟨rfl,rfl⟩)
theorem neg_any (a:Int) (h1: -9223372036854775808≤a) (h2:a≤9223372036854775807) (w:World):
 Calls Tryz.prog 274 #[.int .i64 a] w fun e w'=>(∃n q:Int,e=.returned (.tuple #[.int .i64 n,.int .i64 q])∧(a= -9223372036854775808→q=10)∧(a≠ -9223372036854775808→n= -a∧q=0))∧w=w':=by
 by_cases h:a= -9223372036854775808
 ·subst h;go_enter Tryz.func274,Tryz.ntmps274;go_wp2_with fail;refine(subMin_any w).mono ?_;rintro _ w1 ⟨rfl,rfl⟩;go_wp2;go_ret2
  exact⟨⟨_,_,rfl,fun _=>rfl,fun h=>absurd rfl h⟩,rfl⟩
 ·go_enter Tryz.func274,Tryz.ntmps274;go_wp2_with fail;refine(sub0_any a (by omega) h2 w).mono ?_;rintro _ w1 ⟨rfl,rfl⟩;go_wp2;go_ret2
  exact⟨⟨_,_,rfl,fun e=>absurd e h,fun _=>⟨rfl,rfl⟩⟩,rfl⟩
theorem opposite_any (p r:Int) {w:World} {v:Value} {l:List Ln4} (hl:RowsOf int4 4 (fun _=>True) w v l) (h64:∀x∈l,I64 x.2.2.2) (hn:l.length≤1000):
 Calls Tryz.prog 231 #[.agg #[.int .i64 p,.int .i64 r,v]] w (OppRet l w):=by
 obtain⟨A,c,rfl,hc1,hc2⟩:=hl.form
 obtain⟨W,hW⟩:∃W,((w.alloc (.cells #[.int .i64 p,.int .i64 r,.slice A l.length c] 146)).alloc (.cells #[.int .i64 0,.int .i64 0,.slice none 0 0] 146)).alloc (.cells #[.int .i64 p,.int .i64 r,.slice A l.length c] 146)=W:=⟨_,rfl⟩
 have tw:Tf w W:=hW▸((Tch.alloc _ _ _).trans (Tch.alloc _ _ _)).trans (Tch.alloc _ _ _);have b0:Blk W w.heap.size 146 #[.int .i64 p,.int .i64 r,.slice A l.length c]:=hW▸((Blk.new w 146 _).alloc _).alloc _;have b1:Blk W (w.heap.size+1) 146 #[.int .i64 0,.int .i64 0,.slice none 0 0]:=hW▸(Blk.new2 w _ 146 _).alloc _
 have b2:Blk W (w.heap.size+2) 146 #[.int .i64 p,.int .i64 r,.slice A l.length c]:=by
  have:=Blk.new ((w.alloc (.cells #[.int .i64 p,.int .i64 r,.slice A l.length c] 146)).alloc (.cells #[.int .i64 0,.int .i64 0,.slice none 0 0] 146)) 146 #[.int .i64 p,.int .i64 r,.slice A l.length c];rw[hW]at this;simpa using this
 have hz:w.heap.size+3=W.heap.size:=by rw[←hW];simp
 have hl1:=hl.keep tw;have HC:=Lib.hid (clonelines_any hl1 (by omega));have HW:=Lib.hid hW;have HZ:=Lib.hid hz;have B0:=Lib.hid b0;have B1:=Lib.hid b1;have B2:=Lib.hid b2;have p2:=b0.at2;have HL:=Lib.hid hl;clear hW hz b0 b1 b2 hl hl1;go_enter Tryz.func231,Tryz.ntmps231;go_wp2_with fail;rw[HW.out];refine HC.out.mono ?_;rintro _ w1 ⟨u,rfl,hO⟩;clear HC p2;obtain⟨O,co,rfl,ho1,ho2⟩:=hO.form;have c2:=(B2.out.keep hO.tch id).at2;have f2:=(B2.out.keep hO.tch id).frozen 2;have p2:=(B0.out.keep hO.tch id).at2;have HO:=Lib.hid hO;clear hO;go_wp2_with fail;have hzz:=HZ.out;have tS:Tch (fun g=>g=w.heap.size+2) w1 (w1.setCell ⟨w.heap.size+2,2,none⟩ (.slice O l.length co)):=Tch.setCell (F:=fun g=>g=w.heap.size+2) w1 (p:=⟨w.heap.size+2,2,none⟩) (.inl rfl) _;have e0:=(B0.out.keep HO.out.tch id).keep tS (by show¬w.heap.size=w.heap.size+2;omega);have e1:=(B1.out.keep HO.out.tch id).keep tS (by show¬w.heap.size+1=w.heap.size+2;omega);have e2:Blk (w1.setCell ⟨w.heap.size+2,2,none⟩ (.slice O l.length co)) (w.heap.size+2) 146 #[.int .i64 p,.int .i64 r,.slice O l.length co]:=(B2.out.keep HO.out.tch id).set_ 2 _;have ow:(w1.setCell ⟨w.heap.size+2,2,none⟩ (.slice O l.length co)).ownsRow W.heap.size 150 4 (.slice O l.length co) l.length ((turnedTo l 0).flatMap int4):=tS.own (by have:=HO.out.own;simpa[turnedTo]using this) (fun g hg hF=>by have:=(HO.out.own.lt g hg).1;have hF:g=w.heap.size+2:=hF;omega);have tW:Tf w (w1.setCell ⟨w.heap.size+2,2,none⟩ (.slice O l.length co)):=(tw.trans HO.out.tch).trans' tS (fun i hi=>.inr (by have hi:i=w.heap.size+2:=hi;omega));clear c2 f2 p2;generalize w1.setCell ⟨w.heap.size+2,2,none⟩ (.slice O l.length co)=W1 at *;have E0:=Lib.hid e0;have E1:=Lib.hid e1;have E2:=Lib.hid e2;have HOW:=Lib.hid ow;have HTW:=Lib.hid tW;have p2:=e0.at2;clear e0 e1 e2 ow tW tS B0 B1 B2 HO HZ HW;generalize hzw:w.heap.size=z at *;have HZW:=Lib.hid hzw;clear hzw;go_wp2_with fail;clear p2;go_loopw [17] (fun i wr=>∃j:Nat,j≤l.length∧i=.int .i64 j∧(l.take j).any (fun x=>x.2.2.2== -9223372036854775808)=false∧wr.ownsRow W.heap.size 150 4 (.slice O l.length co) l.length ((turnedTo l j).flatMap int4)∧Tch (fun g=>W.heap.size≤g) W1 wr) (fun i _=>l.length-(intOf i).toNat)
 case atStart=>exact⟨0,by omega,rfl,rfl,HOW.out,Tch.refl _ _⟩
 case round=>
  obtain⟨j,hj,rfl,hall,hown,ht⟩:=hrel;have HA:=Lib.hid hall;have e0:=E0.out.keep ht (by show¬W.heap.size≤z;omega);have e1:=E1.out.keep ht (by show¬W.heap.size≤z+1;omega);have e2:=E2.out.keep ht (by show¬W.heap.size≤z+2;omega);have tr:=HTW.out.trans' ht (fun i hi=>.inr (Nat.le_trans tw.size hi));have hl2:=HL.out.keep tr;clear hall;by_cases hlt:j<l.length
  ·have hlt':(j:Int)<(l.length:Int):=by omega
   have hj0:=znn j;obtain⟨g,o,rfl⟩:=HL.out.head (by omega);obtain⟨g2,rfl⟩:=own_head hown (by omega);have hg2:=hown.lt g2 rfl;obtain⟨q0,q1,q2,q3⟩:=Row.four hl2 int4_len hlt rfl;have HY:=Lib.hid (fun h=>any_yes (p:=fun x:Ln4=>x.2.2.2== -9223372036854775808) hlt h);have HS:=Lib.hid (any_take_succ (p:=fun x:Ln4=>x.2.2.2== -9223372036854775808) hlt);have HT:=Lib.hid (turnedTo_cells hlt)
   have h4:wr.cell? ⟨g2,j*4+3,none⟩=some (.int .i64 l[j].2.2.2):=own_cell hown (g:=g2) rfl (by
    have:=flat_at int4_len (turnedTo l j) j (by rw[turnedTo_len];exact hlt) 3 (by decide);rw[turnedTo_at hlt]at this
    exact this)
   have h4f:=own_frozen hown (j*4+3);have hm:=h64 l[j] (List.getElem_mem _);generalize l[j]=s at *;obtain⟨x,b,d,m⟩:=s;simp only at q0 q1 q2 q3 HY HS HT h4 hm;have tl:=tal wr (.cells #[.int .i64 x,.int .i64 b,.int .i64 d,.int .i64 m] 150);have HN:=Lib.hid (neg_any m hm.1 hm.2 (wr.alloc (.cells #[.int .i64 x,.int .i64 b,.int .i64 d,.int .i64 m] 150)));have hown1:=tl.own hown (fun _ _=>id);have h5:=tl.cell_some h4 id;have h5f:=own_frozen hown1 (j*4+3);have e0':=e0.keep tl id;have e1':=e1.keep tl id;have e2':=e2.keep tl id;have tr':=tr.trans tl;have ht':=ht.trans (Exn.touch tl);go_wp2_with fail;clear h4 h4f hown hl2 e0 e1 e2 q0 q1 q2 q3 tr ht;generalize wr.alloc (.cells #[.int .i64 x,.int .i64 b,.int .i64 d,.int .i64 m] 150)=W2 at *;refine HN.out.mono ?_;rintro _ w3 ⟨⟨n,q,rfl,hq1,hq2⟩,rfl⟩;clear HN;by_cases hmin:m= -9223372036854775808
   ·obtain rfl:=hq1 hmin;have hany:=HY.out (by simp[hmin]);have k0:=e1'.cell 0;have k1:=e1'.cell 1;have k2:=e1'.cell 2;have k3:=e1'.frozen 0;have k4:=e1'.frozen 1;have k5:=e1'.frozen 2;simp at k0 k1 k2;clear hq1 hq2;go_wp2;have hbF:=((e1'.set_ 0 (.int .i64 0)).set_ 1 (.int .i64 0)).set_ 2 (.slice none 0 0);simp only[List.setIfInBounds_toArray,List.set_cons_succ,List.set_cons_zero]at hbF;(try simp only[exS]);refine retT hbF ?_;exact⟨_,_,_,_,_,_,rfl,fun _=>rfl,(fun h=>by rw[hany]at h;cases h),tr'.trans' (Tch.sets3 W2 (z+1) _ _ _) (fun i hi=>.inr (by have hi:i=z+1:=hi;have:=HZW.out;omega))⟩
   ·obtain⟨rfl,rfl⟩:=hq2 hmin;have HS:=Lib.hid (show(l.take (j+1)).any (fun x=>x.2.2.2== -9223372036854775808)=false by rw[HS.out,HA.out];simpa using hmin);have p2:=e2'.at2;clear hq1 hq2;go_wp2;go_roundw
    case rel=>
     refine⟨j+1,by omega,by go_num,HS.out,?_,ht'.trans (Tch.setCell (F:=fun g=>W.heap.size≤g) W2 (p:=⟨g2,j*4+3,none⟩) (.inl hg2.1) _)⟩;have:=own_set hown1 (j*4+3) (.int .i64 (-m));rwa [HT.out]at this
    case measure=>simp[intOf];omega
  ·obtain rfl:l.length=j:=by omega
   rw[List.take_length]at HA;have hT:turnedTo l l.length=l.map opp:=by unfold turnedTo;simp
   rw[hT]at hown;have k0:=e1.cell 0;have k1:=e1.cell 1;have k2:=e1.cell 2;have k3:=e1.frozen 0;have k4:=e1.frozen 1;have k5:=e1.frozen 2;obtain⟨p0,p1,p2⟩:=e2.f3;go_wp2;have hbF:=((e1.set_ 0 (.int .i64 p)).set_ 1 (.int .i64 r)).set_ 2 (.slice O l.length co);simp only[List.setIfInBounds_toArray,List.set_cons_succ,List.set_cons_zero]at hbF;refine retT hbF ?_;have tS:=Tch.sets3 wr (z+1) (.int .i64 p) (.int .i64 r) (.slice O l.length co);refine⟨_,_,_,_,_,_,rfl,(fun h=>by rw[HA.out]at h;cases h),fun _=>⟨rfl,rfl,?_⟩,tr.trans' tS (fun i hi=>.inr (by have hi:i=z+1:=hi;have:=HZW.out;omega))⟩;have ow:=tS.own hown (fun g hg hF=>by have:=(hown.lt g hg).1;have hF:g=z+1:=hF;omega);have:=Row.own (P:=fun _=>True) ow (fun _ _=>trivial);show Row (fun _=>True) _ _ (l.map opp).length 4 _;rwa [List.length_map]
end Go.Proofs.YtnjhfcopphpkpaaGreatDoor
namespace Go.Gk
open Go.RowKit
structure EntsIs (w:World) (v:Value) (us:List (Ent×Value)):Prop where
 row:RowsOf entC 3 (fun _=>True) w v us
 lines:∀p∈us,RowsOf int4 4 (fun _=>True) w p.2 p.1.lines
theorem EntsIs.keep {w w':World} {v:Value} {us:List (Ent×Value)} (h:EntsIs w v us) (t:Tf w w'):EntsIs w' v us:=⟨h.row.keep t,fun p hp=>(h.lines p hp).keep t⟩
structure EntsFew (us:List (Ent×Value)):Prop where
 n:us.length≤1000
 lines:∀p∈us,p.1.lines.length≤1000
 i64:∀p∈us,∀x∈p.1.lines,I64 x.2.2.2
end Go.Gk
namespace Go.Proofs.YtnjhfcopphpkpaaGreatDoor
open Go.RowKit Go.Gk
theorem idxent_any {w:World} {v:Value} {us:List (Ent×Value)} (hu:EntsIs w v us) (hn:us.length≤100000) (p:Ent×Value→Bool) (g:Nat) (lb:Array Value) (eg:∀args w,(callFunc g args).run Tryz.prog w=.ok (.enter g args) w)
 (hp:∀(x:Ent×Value) w',Tf w w'→Calls Tryz.prog g (#[.agg #[.int .i64 x.1.period,.int .i64 x.1.reverses,x.2]]++lb) w' (RetB (p x) w')):
 Calls Tryz.prog 272 #[v,.func (.func g) #[] lb] w (RetIdx (us.any p) w):=by
 obtain⟨A,c,rfl,hc1,hc2⟩:=hu.row.form;have hl:=hu.row;have hx:=hu.lines;clear hu;have HP:=Lib.hid hp;clear hp;go_enter Tryz.func272,Tryz.ntmps272;go_wp2_with fail;go_loopw [8] (fun i wr=>∃j:Nat,j≤us.length∧i=.int .i64 j∧(us.take j).any p=false∧Tf w wr) (fun i _=>us.length-(intOf i).toNat)
 case atStart=>exact⟨0,Nat.zero_le _,rfl,rfl,Tch.refl _ _⟩
 case round=>
  obtain⟨j,hj,rfl,h2,ht⟩:=hrel;have H2:=Lib.hid h2;clear h2;by_cases hlt:j<us.length
  ·obtain⟨g',o,rfl⟩:=hl.head (by omega);obtain⟨q0,q1,q2⟩:=Row.three (hl.keep ht) entC_len hlt rfl;have hs:=any_take_succ (p:=p) hlt;have hy:=fun h=>any_yes (p:=p) hlt h
   obtain⟨A',c',hf,_,_⟩:=(hx us[j] (List.getElem_mem _)).form;have HC:=Lib.hid (HP.out us[j] wr ht);have HS:=Lib.hid hs;have HY:=Lib.hid hy;clear hs hy;generalize us[j]=x at *;obtain⟨⟨yp,yr,yl⟩,yv⟩:=x;simp only at hf q0 q1 q2 HC;subst hf;have hlt':(j:Int)<(us.length:Int):=by omega
   have hj0:=znn j;go_wp2_with fail;refine HC.out.mono ?_;rintro _ w2 ⟨rfl,t2⟩;clear HC
   cases hb:p (⟨yp,yr,yl⟩,.slice A' yl.length c')
   ·rw[hb]at HS;clear hb HY;go_wp2;go_roundw
    case rel=>exact⟨j+1,by omega,by go_num,by rw[HS.out,H2.out];rfl,ht.trans t2⟩
    case measure=>simp[intOf];omega
   ·have hy:=HY.out hb;clear hb HY;go_wp2;go_ret;exact⟨j,rfl,by omega,by omega,by rw[hy];simp,ht.trans t2⟩
  ·obtain rfl:us.length=j:=by omega
   rw[List.take_length]at H2;go_wp2;go_ret;exact⟨-1,rfl,by omega,by omega,by rw[H2.out];rfl,ht⟩
theorem rev1_any (p r n:Int) (v:Value) {w:World} {g:Nat} (hg:w.cell? ⟨g,0,none⟩=some (.int .i64 n)):
 Calls Tryz.prog 273 #[.agg #[.int .i64 p,.int .i64 r,v],.pointer (some ⟨g,0,none⟩)] w (RetB (r==n) w):=by
 have tw:=tal w (.cells #[.int .i64 p,.int .i64 r,v] 146);have hg1:=tw.cell_some hg id;go_enter Tryz.func273,Tryz.ntmps273;go_wp2;go_ret;exact⟨rfl,tw⟩
theorem reversed_any {w:World} {v:Value} {us:List (Ent×Value)} (hu:EntsIs w v us) (hn:us.length≤1000) (n:Int) (h1:1≤n) (h2:n≤us.length):
 Calls Tryz.prog 230 #[v,.int .i64 n] w fun e w'=>∃i:Int,e=.returned (.int .i64 i)∧(i !=0)=(us.any fun p=>p.1.reverses==n)∧Tf w w':=by
 have hb:=Blk.new w 3 #[.int .i64 n];have tw:=tal w (.cells #[.int .i64 n] 3);have HI:=Lib.hid (idxent_any (hu.keep tw) (by omega) (fun p=>p.1.reverses==n) 273 #[.pointer (some ⟨w.heap.size,0,none⟩)] (enters_of Tryz.func273 (by kernel_rfl) rfl) (fun x w' t=>rev1_any _ _ n _ ((hb.keep t id).cell 0)));obtain⟨A,c,rfl,hc1,hc2⟩:=hu.row.form;generalize(us.any fun p=>p.1.reverses==n)=b at *;clear hu hb;go_enter Tryz.func230,Tryz.ntmps230;go_wp2_with fail;refine HI.out.mono ?_;rintro _ w1 ⟨i,rfl,g1,g2,g3,t1⟩;have HB:=Lib.hid (show((i+1:Int) !=0)=b by rw[←g3];by_cases h:0≤i<;>simp[h]<;>omega);clear g3 HI;go_wp2;go_ret;exact⟨i+1,by first|rfl|(congr 2;go_num),HB.out,tw.trans t1⟩
theorem turned_any (p r:Int) {w:World} {u v:Value} {us:List (Ent×Value)} {l:List Ln4} (hu:EntsIs w v us) (hf:EntsFew us) (hl:RowsOf int4 4 (fun _=>True) w u l) (hn:l.length≤1000):
 Calls Tryz.prog 164 #[v,.agg #[.int .i64 p,.int .i64 r,u]] w (RetOk (turnedOK (us.map (·.1)) ⟨p,r,l⟩) w):=by
 obtain⟨ok,hok⟩:∃ok,turnedOK (us.map (·.1)) ⟨p,r,l⟩=ok:=⟨_,rfl⟩
 rw[hok];unfold turnedOK at hok;simp only[List.length_map,List.any_map]at hok;have HOK:=Lib.hid hok;clear hok;have hlu:=hf.n;obtain⟨A,c,rfl,hc1,hc2⟩:=hu.row.form;obtain⟨A2,c2,rfl,hd1,hd2⟩:=hl.form
 obtain⟨W,hW⟩:∃W,w.alloc (.cells #[.int .i64 p,.int .i64 r,.slice A2 l.length c2] 146)=W:=⟨_,rfl⟩
 have tw:Tf w W:=hW▸Tch.alloc _ _ _;have hb:Blk W w.heap.size 146 #[.int .i64 p,.int .i64 r,.slice A2 l.length c2]:=hW▸Blk.new w 146 _;have HW:=Lib.hid hW;have HB:=Lib.hid hb;have p1:=hb.at1;clear hW hb;by_cases h0:r=0
 ·subst h0;obtain rfl:ok=true:=by rw[←HOK.out];rfl
  go_enter Tryz.func164,Tryz.ntmps164;go_wp2_with fail;rw[HW.out];go_wp2;go_ret;exact RetOk.yes tw
 have h0':(r==0)=false:=by simpa using h0
 by_cases h1:r<0
 ·obtain rfl:ok=false:=by rw[←HOK.out];simp[h0,h1]
  go_enter Tryz.func164,Tryz.ntmps164;go_wp2_with fail;rw[HW.out];go_wp2;go_ret;exact RetOk.no rfl tw
 by_cases h2:(us.length:Int)<r
 ·obtain rfl:ok=false:=by rw[←HOK.out];simp[h0,h2]
  go_enter Tryz.func164,Tryz.ntmps164;go_wp2_with fail;rw[HW.out];go_wp2;go_ret;exact RetOk.no rfl tw
 obtain⟨k,hk,rfl⟩:∃k:Nat,k<us.length∧r=(k:Int)+1:=⟨(r-1).toNat,by omega,by omega⟩
 have hkm:k<(us.map (·.1)).length:=by simpa using hk
 have HOK:=Lib.hid (show(us[k].1.reverses==0&& !(us.any fun z=>z.1.reverses==(k:Int)+1)&& !(us[k].1.lines.any fun l=>l.2.2.2== -9223372036854775808)&&decide (l=us[k].1.lines.map opp))=ok by
  rw[←HOK.out,if_neg (by simpa using h0),if_neg (by simp;omega),show((k:Int)+1-1).toNat=k by omega,List.getElem?_eq_getElem hkm,List.getElem_map]
  rfl)
 obtain⟨g,o,rfl⟩:=hu.row.head (by omega);have hk1:(k:Int)<(us.length:Int):=by omega
 have hk0:=znn k;have HU:=Lib.hid hu;have HLU:=Lib.hid (hu.lines us[k] (List.getElem_mem _));have h64:=hf.i64 us[k] (List.getElem_mem _);have hln:=hf.lines us[k] (List.getElem_mem _);obtain⟨q0,q1,q2⟩:=Row.three ((hu.row).keep tw) entC_len hk rfl;have Q:=Lib.hid (fun w' (t:Tf W w')=>Row.three ((hu.row).keep (tw.trans t)) entC_len hk rfl);have HRV:=Lib.hid (fun w' (t:Tf W w')=>reversed_any (hu.keep (tw.trans t)) hlu ((k:Int)+1) (by omega) (by omega));obtain⟨A',c',hfv,hz1,hz2⟩:=HLU.out.form;generalize us[k]=x at *;obtain⟨⟨yp,yr,yl⟩,yv⟩:=x;simp only at hfv q0 q1 q2 HLU h64 hln HOK;subst hfv;generalize(us.any fun z=>z.1.reverses==(k:Int)+1)=b at *;clear hu hf h0 h1 h2 hkm;have hrr:((k:Int)+1==0)=false:=by simp;omega
 have hge:¬(k:Int)+1<0:=by omega
 have hle:¬(us.length:Int)<(k:Int)+1:=by omega
 by_cases hyr:yr=0
 rotate_left
 ·have hyr':(yr==0)=false:=by simpa using hyr
  have hyr2:(yr !=0)=true:=by simpa using hyr
  obtain rfl:ok=false:=by rw[←HOK.out,hyr'];rfl
  rw[←HW.out]at q1;go_enter Tryz.func164,Tryz.ntmps164;go_wp2_with fail;rw[HW.out];go_wp2;go_ret;exact RetOk.no rfl tw
 subst hyr;rw[←HW.out]at q1;go_enter Tryz.func164,Tryz.ntmps164;go_wp2_with fail;rw[HW.out];generalize w.heap.size=z at *;go_wp2_with fail;refine(HRV.out W (Tch.refl _ _)).mono ?_;rintro _ w1 ⟨i,rfl,hi,t1⟩;clear q0 q1 q2 p1
 cases b;rotate_left
 ·obtain rfl:ok=false:=by rw[←HOK.out];rfl
  have HI:=Lib.hid hi;go_wp2;go_ret;exact RetOk.no rfl (tw.trans t1)
 obtain rfl:i=0:=by simpa using hi
 clear hi;have HOK:=Lib.hid (show(!(yl.any fun l=>l.2.2.2== -9223372036854775808)&&decide (l=yl.map opp))=ok by rw[←HOK.out];rfl);obtain⟨q0,q1,q2⟩:=Q.out w1 t1;have HO:=Lib.hid (opposite_any yp 0 (HLU.out.keep (tw.trans t1)) h64 hln);go_wp2_with fail;refine HO.out.mono ?_;rintro _ w2 ⟨a,d,A5,n5,c5,q,rfl,hq1,hq2,t2⟩;have t12:=t1.trans t2;clear q0 q1 q2 HO;have tL:=tal w2 (.cells #[.int .i64 a,.int .i64 d,.slice A5 n5 c5] 146);have hbL:=Blk.new w2 146 #[.int .i64 a,.int .i64 d,.slice A5 n5 c5];have tA:=tw.trans (t12.trans tL);have x2:=(HB.out.keep (t12.trans tL) id).at2
 cases hmn:(yl.any fun l=>l.2.2.2== -9223372036854775808)
 ·obtain⟨rfl,rfl,hru⟩:=hq2 hmn;rw[hmn]at HOK;have HE:=Lib.hid (sleqlines_any (hl.keep tA) (hru.keep tL) (by omega) (by rw[List.length_map];omega));generalize decide (l=yl.map opp)=e at *;obtain rfl:ok=e:=by rw[←HOK.out];rfl
  have y2:=hbL.at2;clear hq1 hq2 hmn hbL;go_wp2_with fail;refine HE.out.mono ?_;rintro _ w4 ⟨rfl,t4⟩;clear HE
  cases ok
  ·go_wp2;go_ret;exact RetOk.no rfl (tA.trans t4)
  ·go_wp2;go_ret;exact RetOk.yes (tA.trans t4)
 ·have hq:=hq1 hmn;have hq':(q !=0)=true:=by simpa using hq
  rw[hmn]at HOK;obtain rfl:ok=false:=by rw[←HOK.out];rfl
  clear hq1 hq2 hmn hq x2 hbL;go_wp2;go_ret;exact RetOk.no rfl tA
end Go.Proofs.YtnjhfcopphpkpaaGreatDoor
namespace Go.Gk
open Go.RowKit
structure BksAt (w:World) (e a s r l n:Value) (b:Bks) (us:List (Ent×Value)):Prop where
 ents:RowsOf int1 1 (fun _=>True) w e b.ents
 accs:RowsOf acc4 4 (fun _=>True) w a b.accs
 stakes:RowsOf int4 4 (fun _=>True) w s b.stakes
 rates:RowsOf int6 6 (fun _=>True) w r b.rates
 locks:RowsOf int2 2 (fun _=>True) w l b.locks
 ent:EntsIs w n us
 map:us.map (·.1)=b.entries
theorem BksAt.keep {w w':World} {e a s r l n:Value} {b:Bks} {us:List (Ent×Value)} (h:BksAt w e a s r l n b us) (t:Tf w w'):BksAt w' e a s r l n b us:=
 ⟨h.ents.keep t,h.accs.keep t,h.stakes.keep t,h.rates.keep t,h.locks.keep t,h.ent.keep t,h.map⟩
theorem BooksIs.at {w:World} {v:Value} {b:Bks} (h:BooksIs (fun _=>True) w v b):∃e a s r l n us,v=.agg #[e,a,s,r,l,n]∧BksAt w e a s r l n b us:=
 let⟨e,a,s,r,l,n,h0,h1,h2,h3,h4,h5,us,k1,k2,k3⟩:=h.ex
 ⟨e,a,s,r,l,n,us,h0,h1,h2,h3,h4,h5,⟨k2,k3⟩,k1⟩
theorem BksAt.is {w:World} {e a s r l n:Value} {b:Bks} {us:List (Ent×Value)} (h:BksAt w e a s r l n b us):BooksIs (fun _=>True) w (.agg #[e,a,s,r,l,n]) b:=
 ⟨e,a,s,r,l,n,rfl,h.ents,h.accs,h.stakes,h.rates,h.locks,us,h.map,h.ent.row,h.ent.lines⟩
theorem BksAt.few {w:World} {e a s r l n:Value} {b:Bks} {us:List (Ent×Value)} (h:BksAt w e a s r l n b us) (hf:BksFew b) (h64:Bks64 b):EntsFew us:=by
 have hl:us.length=b.entries.length:=by rw[←h.map,List.length_map]
 refine⟨by have:=hf.entries;omega,fun p hp=>?_,fun p hp x hx=>?_⟩
 ·have:=hf.lines p.1 (by rw[←h.map];exact List.mem_map_of_mem hp);omega
 ·exact((h64.entries p.1 (by rw[←h.map];exact List.mem_map_of_mem hp)).2.2 x hx).2.2.2
theorem EntsIs.take {w:World} {A:Option Addr} {c:Nat} {us:List (Ent×Value)} (h:EntsIs w (.slice A us.length c) us) {k:Nat} (hk:k≤us.length):EntsIs w (.slice A k c) (us.take k):=
 ⟨Row.takes' entC_len h.row hk,fun p hp=>h.lines p (List.mem_of_mem_take hp)⟩
theorem EntsFew.take {us:List (Ent×Value)} (h:EntsFew us) (k:Nat):EntsFew (us.take k):=
 ⟨by rw[List.length_take];have:=h.n;omega,fun p hp=>h.lines p (List.mem_of_mem_take hp),fun p hp=>h.i64 p (List.mem_of_mem_take hp)⟩
end Go.Gk
namespace Go.Proofs.YtnjhfcopphpkpaaGreatDoor
open Go.RowKit Go.Gk
theorem all_any {w:World} {e a s r l n:Value} {b:Bks} {us:List (Ent×Value)} (h:BksAt w e a s r l n b us) (hf:BksFew b) (h64:Bks64 b):
 Calls Tryz.prog 87 #[.agg #[e,a,s,r,l,n]] w (RetAt (entriesOK b) w):=by
 obtain⟨ok,hok⟩:∃ok,entriesOK b=ok:=⟨_,rfl⟩
 rw[hok];have hfew:=h.few hf h64;have hlen:us.length=b.entries.length:=by rw[←h.map,List.length_map]
 have h30:=hf.entries;unfold entriesOK at hok;rw[decide_eq_true (by omega),Bool.true_and,←hlen]at hok;have HOK:=Lib.hid hok;clear hok;obtain⟨Ae,ce,rfl,he1,he2⟩:=h.ents.form;obtain⟨Aa,ca,rfl,ha1,ha2⟩:=h.accs.form;obtain⟨As,cs,rfl,_,_⟩:=h.stakes.form;obtain⟨Ar,cr,rfl,_,_⟩:=h.rates.form;obtain⟨Al,cl,rfl,_,_⟩:=h.locks.form;obtain⟨An,cn,rfl,hn1,hn2⟩:=h.ent.row.form;have tw:=tal w (.cells #[.slice Ae b.ents.length ce,.slice Aa b.accs.length ca,.slice As b.stakes.length cs,.slice Ar b.rates.length cr,.slice Al b.locks.length cl,.slice An us.length cn] 29);have hb:=Blk.new w 29 #[.slice Ae b.ents.length ce,.slice Aa b.accs.length ca,.slice As b.stakes.length cs,.slice Ar b.rates.length cr,.slice Al b.locks.length cl,.slice An us.length cn];have hu30:(us.length:Int)≤30:=by omega
 have hu31:us.length≤30:=by omega
 clear hlen h30;have h1:=h.keep tw;have HB:=Lib.hid hb;have H1:=Lib.hid h1;have HL:=Lib.hid (accleaves_any h1.accs (by have:=hf.accs;omega))
 have hll:(accLeaves b.accs).length≤100:=by
  unfold accLeaves;refine Nat.le_trans (List.length_filter_le _ _) ?_;rw[accIds_len];have:=hf.accs;omega
 clear h h1 hb;go_enter Tryz.func87,Tryz.ntmps87;go_wp2_with fail;generalize w.alloc (.cells #[.slice Ae b.ents.length ce,.slice Aa b.accs.length ca,.slice As b.stakes.length cs,.slice Ar b.rates.length cr,.slice Al b.locks.length cl,.slice An us.length cn] 29)=W at *;generalize w.heap.size=z at *;refine HL.out.mono ?_;rintro _ w1 ⟨u,rfl,hO⟩;clear HL;have t1:=hO.tch;have hlv:=hO.row;obtain⟨U,cu,rfl,hu1,hu2⟩:=hO.form;clear hO;have p5:=(HB.out.keep t1 id).at5;go_wp2_with fail;clear p5;go_loopw [21] (fun i wr=>∃j:Nat,j≤us.length∧i=.int .i64 j∧(List.range j).all (entryAt b)=true∧Tf w1 wr) (fun i _=>us.length-(intOf i).toNat)
 case atStart=>exact⟨0,by omega,rfl,rfl,Tch.refl _ _⟩
 case round=>
  obtain⟨j,hj,rfl,hall,ht⟩:=hrel;have HA:=Lib.hid hall;clear hall;have tA:=t1.trans ht;by_cases hlt:j<us.length
  ·have hlt':(j:Int)<(us.length:Int):=by omega
   have hj0:=znn j;have hjc:(j:Int)≤(cn:Int):=by omega
   obtain⟨g,o,rfl⟩:=H1.out.ent.row.head (by omega);obtain⟨q0,q1,q2⟩:=Row.three (H1.out.ent.row.keep tA) entC_len hlt rfl;have hs:=range_all_succ (entryAt b) j;have hno:=fun h=>range_all_no (p:=entryAt b) hlt h
   have hat:entryAt b j=(entryOK us[j].1 b.ents.length b.accs.length&&placedOK us[j].1 (accLeaves b.accs)&&turnedOK ((us.take j).map (·.1)) us[j].1):=by
    unfold entryAt;have hjm:j<(us.map (·.1)).length:=by simpa using hlt
    rw[←H1.out.map,List.getElem?_eq_getElem hjm,List.getElem_map,List.map_take]
   have HLN:=Lib.hid (H1.out.ent.lines us[j] (List.getElem_mem _));have hln:=hfew.lines us[j] (List.getElem_mem _);have h64j:=hfew.i64 us[j] (List.getElem_mem _);obtain⟨A',c',hfv,_,_⟩:=HLN.out.form;have HS:=Lib.hid hs;have HN:=Lib.hid hno;have HAT:=Lib.hid hat;clear hs hno hat;generalize us[j]=x at *;obtain⟨⟨yp,yr,yl⟩,yv⟩:=x;simp only at hfv q0 q1 q2 HLN hln h64j HAT;subst hfv;have HE:=Lib.hid (fun w' (t:Tf W w')=>entcheck9_any yp yr b.ents.length b.accs.length (HLN.out.keep t) h64j hln);have HP:=Lib.hid (fun w' (t:Tf w1 w')=>placed_any yp yr (HLN.out.keep (t1.trans t)) (hlv.keep t) hln (by omega));have HT:=Lib.hid (fun w' (t:Tf W w')=>turned_any yp yr (EntsIs.take (H1.out.ent.keep t) hj) (hfew.take j) (HLN.out.keep t) hln);generalize entryOK ⟨yp,yr,yl⟩ b.ents.length b.accs.length=b1 at *;generalize placedOK ⟨yp,yr,yl⟩ (accLeaves b.accs)=b2 at *;generalize turnedOK ((us.take j).map (·.1)) ⟨yp,yr,yl⟩=b3 at *;have tB:=tA.trans (tal wr (.cells #[.int .i64 yp,.int .i64 yr,.slice A' yl.length c'] 146));have ht2:=ht.trans (tal wr (.cells #[.int .i64 yp,.int .i64 yr,.slice A' yl.length c'] 146));have hbE:=Blk.new wr 146 #[.int .i64 yp,.int .i64 yr,.slice A' yl.length c'];obtain⟨p0,p1⟩:=(HB.out.keep tB id).f2;go_wp2_with fail;generalize wr.alloc (.cells #[.int .i64 yp,.int .i64 yr,.slice A' yl.length c'] 146)=W2 at *;generalize wr.heap.size=N at *;refine(HE.out W2 tB).mono ?_;rintro _ w3 ⟨a3,n3,rfl,hn3,t3⟩;clear HE p0 p1 q0 q1 q2
   cases b1
   ·obtain rfl:ok=false:=by rw[←HOK.out,HN.out (by rw[HAT.out];rfl)]
    have hq':(n3 !=0)=true:=by simpa using hn3
    have HQ:=Lib.hid hn3;clear hn3;go_wp2;go_ret2
    exact RetAt.no HQ.out (tw.trans (tB.trans t3))
   obtain rfl:n3=0:=by simpa using hn3
   clear hn3;obtain⟨e0,e1,e2⟩:=(hbE.keep t3 id).f3;go_wp2_with fail;refine(HP.out w3 (ht2.trans t3)).mono ?_;rintro _ w4 ⟨n4,rfl,hn4,t4⟩;clear HP e0 e1 e2;have tC:=tB.trans (t3.trans t4)
   cases b2
   ·obtain rfl:ok=false:=by rw[←HOK.out,HN.out (by rw[HAT.out];rfl)]
    have hq':(n4 !=0)=true:=by simpa using hn4
    have HQ:=Lib.hid hn4;clear hn4;go_wp2;go_ret2
    exact RetAt.no HQ.out (tw.trans tC)
   obtain rfl:n4=0:=by simpa using hn4
   clear hn4;go_wp2_with fail;have p5:=within_cell (F:=fun _=>False) (HB.out.keep tC id).at5 id;have e0:=within_cell (F:=fun _=>False) (show w4.cell? ⟨N,0,none⟩=some _ from(hbE.keep (t3.trans t4) id).cell 0) id;have e1:=within_cell (F:=fun _=>False) (show w4.cell? ⟨N,1,none⟩=some _ from(hbE.keep (t3.trans t4) id).cell 1) id;have e2:=within_cell (F:=fun _=>False) (show w4.cell? ⟨N,2,none⟩=some _ from(hbE.keep (t3.trans t4) id).cell 2) id;refine wp_touch (fun _=>False) [] 5 [] [] ?_ ?_
   ·exact trivial
   intro bef _;iterate 5 (refine t_dq ?_;(try simp only[putS]))
   refine t_nil ?_;intro w5 hr hp1 hap;have t5:=(Tch.drew _ w4).trans hr;have tD:=tC.trans t5;clear hap hp1 p5 e0 e1 e2 hr;go_wp2_with fail;refine(HT.out w5 tD).mono ?_;rintro _ w6 ⟨n6,rfl,hn6,t6⟩;have tE:=tD.trans t6;clear HT
   cases b3
   ·obtain rfl:ok=false:=by rw[←HOK.out,HN.out (by rw[HAT.out];rfl)]
    have hq':(n6 !=0)=true:=by simpa using hn6
    have HQ:=Lib.hid hn6;clear hn6;go_wp2;go_ret2
    exact RetAt.no HQ.out (tw.trans tE)
   obtain rfl:n6=0:=by simpa using hn6
   clear hn6;have HS:=Lib.hid (show(List.range (j+1)).all (entryAt b)=true by rw[HS.out,HA.out,HAT.out];rfl);have tF:=((ht2.trans (t3.trans t4)).trans t5).trans t6;go_wp2;go_roundw
   case rel=>exact⟨j+1,by omega,by go_num,HS.out,tF⟩
   case measure=>simp[intOf];omega
  ·obtain rfl:us.length=j:=by omega
   obtain rfl:ok=true:=by rw[←HOK.out,HA.out]
   have p5:=(HB.out.keep tA id).at5;go_wp2;go_ret2
   exact RetAt.yes (tw.trans tA)
