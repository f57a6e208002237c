/-
  Entries: the opposite one.
-/
import Derived.Test.YtoegobjnjljegaaGreatDoorZ11
import Derived.Laws.Cover3
set_option maxRecDepth 100000
set_option maxHeartbeats 6400000
namespace Go.Gk
def zca (l:List Ln4) (j:Nat):List Ln4:=(l.take j).map opp++l.drop j
theorem zgw (l:List Ln4) (j:Nat):(zca l j).length=l.length:=by unfold zca;simp;omega
theorem zlp {l:List Ln4} {j:Nat} (h:j<l.length):(zca l j)[j]'(by rw[zgw];exact h)=l[j]:=by
 unfold zca;rw[List.getElem_append_right (by simp;omega)];simp[Nat.min_eq_left (Nat.le_of_lt h)]
theorem zn6 {l:List Ln4} {j:Nat} (h:j<l.length):(zca l j).set j (opp l[j])=zca l (j+1):=by
 unfold zca;rw[List.set_append_right _ _ (by simp;omega),List.length_map,List.length_take,Nat.min_eq_left (Nat.le_of_lt h),Nat.sub_self,List.take_succ_eq_append_getElem h,List.map_append,List.drop_eq_getElem_cons h,List.set_cons_zero,List.append_assoc];rfl
theorem zmp {l:List Ln4} {j:Nat} (h:j<l.length):((zca l j).flatMap zdr).set (j*4+3) (iV (-l[j].2.2.2))=(zca l (j+1)).flatMap zdr:=by
 rw[←zn6 h];exact zoa zbg _ j 3 _ _ (by rw[zgw];exact h) (by decide) (by rw[zlp h];rfl)
def OppRet (l:List Ln4) (w:World) (e:Ending) (w':World):Prop:=∃(a b:Int) (A:Option Addr) (n c:Nat) (q:Int),e=.returned (.tuple #[.agg #[iV a,iV b,.slice A n c],iV q])∧((l.any fun x=>x.2.2.2== -9223372036854775808)=true→(q==0)=false)∧((l.any fun x=>x.2.2.2== -9223372036854775808)=false→q=0∧n=l.length∧zae zdr 4 (fun _=>True) w' (.slice A n c) (l.map opp))∧Tf w w'
end Go.Gk
namespace Go.Proofs.YtoegobjnjljegaaGreatDoor
open Go.RowKit Go.Gk
theorem sub0_any (a:Int) (h1: -9223372036854775808<a) (h2:a≤9223372036854775807) (w:World):
 Calls Tryz.prog 336 #[iV 0,iV a] w fun e w'=>e=.returned (.tuple #[iV (-a),iV 0])∧w=w':=by
 by_cases h3:a=0
 ·subst h3;go_enter Tryz.func336,Tryz.ntmps336;go_wp2;go_ret2
  exact⟨rfl,rfl⟩
 have h3':(a==0)=false:=by simpa using h3
 have h3'':(a !=0)=true:=by simpa using h3
 by_cases h4:0<a
 ·go_enter Tryz.func336,Tryz.ntmps336;go_wp2;all_goals(go_ret2;exact⟨by first|(simp;done)|(congr 2;congr 1;first|omega|(congr 1;go_num;done)),rfl⟩)
 ·have h5:a<0:=by omega
  go_enter Tryz.func336,Tryz.ntmps336;go_wp2;all_goals(go_ret2;exact⟨by first|(simp;done)|(congr 2;congr 1;first|omega|(congr 1;go_num;done)),rfl⟩)
theorem zuf (w:World):
 Calls Tryz.prog 336 #[iV 0,iV (-9223372036854775808)] w fun e w'=>e=.returned (.tuple #[iV 0,iV 10])∧w=w':=by
 have hw:wrap64 9223372036854775808= -9223372036854775808:=by decide+kernel
 go_enter Tryz.func336,Tryz.ntmps336;go_wp2
 all_goals first
  |(exfalso;omega)
  |(go_ret2;exact⟨rfl,rfl⟩)
theorem neg_any (a:Int) (h1: -9223372036854775808≤a) (h2:a≤9223372036854775807) (w:World):
 Calls Tryz.prog 322 #[iV a] w fun e w'=>(∃n q:Int,e=.returned (.tuple #[iV n,iV q])∧(a= -9223372036854775808→q=10)∧(a≠ -9223372036854775808→n= -a∧q=0))∧w=w':=by
 by_cases h:a= -9223372036854775808
 ·subst h;go_enter Tryz.func322,Tryz.ntmps322;go_wp2_with fail;refine(zuf w).mono ?_;rintro _ w1 ⟨rfl,rfl⟩;go_wp2;go_ret2
  exact⟨⟨_,_,rfl,fun _=>rfl,fun h=>absurd rfl h⟩,rfl⟩
 ·go_enter Tryz.func322,Tryz.ntmps322;go_wp2_with fail;refine(sub0_any a (by omega) h2 w).mono ?_;rintro _ w1 ⟨rfl,rfl⟩;go_wp2;go_ret2
  exact⟨⟨_,_,rfl,fun e=>absurd e h,fun _=>⟨rfl,rfl⟩⟩,rfl⟩
theorem zph (p r:Int) {w:World} {v:Value} {l:List Ln4} (hl:zae zdr 4 (fun _=>True) w v l) (h64:∀x∈l,I64 x.2.2.2) (hn:l.length≤1000):
 Calls Tryz.prog 281 #[.agg #[iV p,iV r,v]] w (OppRet l w):=by
 obtain⟨A,c,rfl,hc1,hc2⟩:=hl.form
 obtain⟨W,hW⟩:∃W,((w.alloc (.cells #[iV p,iV r,.slice A l.length c] 207)).alloc (.cells #[iV 0,iV 0,.slice none 0 0] 207)).alloc (.cells #[iV p,iV r,.slice A l.length c] 207)=W:=⟨_,rfl⟩
 have tw:Tf w W:=hW▸((Tch.alloc _ _ _).trans (Tch.alloc _ _ _)).trans (Tch.alloc _ _ _);have b0:Blk W w.heap.size 207 #[iV p,iV r,.slice A l.length c]:=hW▸((Blk.new w 207 _).alloc _).alloc _;have b1:Blk W (w.heap.size+1) 207 #[iV 0,iV 0,.slice none 0 0]:=hW▸(Blk.new2 w _ 207 _).alloc _
 have b2:Blk W (w.heap.size+2) 207 #[iV p,iV r,.slice A l.length c]:=by
  have:=Blk.new ((w.alloc (.cells #[iV p,iV r,.slice A l.length c] 207)).alloc (.cells #[iV 0,iV 0,.slice none 0 0] 207)) 207 #[iV p,iV r,.slice A l.length c];rw[hW]at this;simpa using this
 have hz:w.heap.size+3=W.heap.size:=by rw[←hW];simp
 have hl1:=hl.keep tw;have HC:=Lib.hid (zhv hl1 (by omega));have HW:=Lib.hid hW;have HZ:=Lib.hid hz;have B0:=Lib.hid b0;have B1:=Lib.hid b1;have B2:=Lib.hid b2;have p2:=b0.at2;have HL:=Lib.hid hl;clear hW hz b0 b1 b2 hl hl1;go_enter Tryz.func281,Tryz.ntmps281;go_wp2_with fail;rw[HW.out];refine HC.out.mono ?_;rintro _ w1 ⟨u,rfl,hO⟩;clear HC p2;obtain⟨O,co,rfl,ho1,ho2⟩:=hO.form;have c2:=(B2.out.keep hO.tch id).at2;have f2:=(B2.out.keep hO.tch id).frozen 2;have p2:=(B0.out.keep hO.tch id).at2;have HO:=Lib.hid hO;clear hO;go_wp2_with fail;have hzz:=HZ.out;have tS:Tch (fun g=>g=w.heap.size+2) w1 (w1.setCell ⟨w.heap.size+2,2,none⟩ (.slice O l.length co)):=Tch.setCell (F:=fun g=>g=w.heap.size+2) w1 (p:=⟨w.heap.size+2,2,none⟩) (.inl rfl) _;have e0:=(B0.out.keep HO.out.tch id).keep tS (by show¬w.heap.size=w.heap.size+2;omega);have e1:=(B1.out.keep HO.out.tch id).keep tS (by show¬w.heap.size+1=w.heap.size+2;omega);have e2:Blk (w1.setCell ⟨w.heap.size+2,2,none⟩ (.slice O l.length co)) (w.heap.size+2) 207 #[.int .i64 p,.int .i64 r,.slice O l.length co]:=(B2.out.keep HO.out.tch id).set_ 2 _;have ow:(w1.setCell ⟨w.heap.size+2,2,none⟩ (.slice O l.length co)).ownsRow W.heap.size 60 4 (.slice O l.length co) l.length ((zca l 0).flatMap zdr):=tS.own (by have:=HO.out.own;simpa[zca]using this) (fun g hg hF=>by have:=(HO.out.own.lt g hg).1;have hF:g=w.heap.size+2:=hF;omega);have tW:Tf w (w1.setCell ⟨w.heap.size+2,2,none⟩ (.slice O l.length co)):=(tw.trans HO.out.tch).trans' tS (fun i hi=>.inr (by have hi:i=w.heap.size+2:=hi;omega));clear c2 f2 p2;generalize w1.setCell ⟨w.heap.size+2,2,none⟩ (.slice O l.length co)=W1 at *;have E0:=Lib.hid e0;have E1:=Lib.hid e1;have E2:=Lib.hid e2;have HOW:=Lib.hid ow;have HTW:=Lib.hid tW;have p2:=e0.at2;clear e0 e1 e2 ow tW tS B0 B1 B2 HO HZ HW;generalize hzw:w.heap.size=z at *;have HZW:=Lib.hid hzw;clear hzw;go_wp2_with fail;clear p2;go_loopw [17] (fun i wr=>∃j:Nat,j≤l.length∧i=.int .i64 j∧(l.take j).any (fun x=>x.2.2.2== -9223372036854775808)=false∧wr.ownsRow W.heap.size 60 4 (.slice O l.length co) l.length ((zca l j).flatMap zdr)∧Tch (fun g=>W.heap.size≤g) W1 wr) (fun i _=>l.length-(intOf i).toNat)
 case atStart=>exact⟨0,by omega,rfl,rfl,HOW.out,Tch.refl _ _⟩
 case round=>
  obtain⟨j,hj,rfl,hall,hown,ht⟩:=hrel;have HA:=Lib.hid hall;have e0:=E0.out.keep ht (by show¬W.heap.size≤z;omega);have e1:=E1.out.keep ht (by show¬W.heap.size≤z+1;omega);have e2:=E2.out.keep ht (by show¬W.heap.size≤z+2;omega);have tr:=HTW.out.trans' ht (fun i hi=>.inr (Nat.le_trans tw.size hi));have hl2:=HL.out.keep tr;clear hall;by_cases hlt:j<l.length
  ·have hlt':(j:Int)<(l.length:Int):=by omega
   have hj0:=znn j;obtain⟨g,o,rfl⟩:=HL.out.head (by omega);obtain⟨g2,rfl⟩:=ziq hown (by omega);have hg2:=hown.lt g2 rfl;obtain⟨q0,q1,q2,q3⟩:=Row.four hl2 zbg hlt rfl;have HY:=Lib.hid (fun h=>zjh (p:=fun x:Ln4=>x.2.2.2== -9223372036854775808) hlt h);have HS:=Lib.hid (zcx (p:=fun x:Ln4=>x.2.2.2== -9223372036854775808) hlt);have HT:=Lib.hid (zmp hlt)
   have h4:wr.cell? ⟨g2,j*4+3,none⟩=some (iV l[j].2.2.2):=zk0 hown (g:=g2) rfl (by
    have:=zfp zbg (zca l j) j (by rw[zgw];exact hlt) 3 (by decide);rw[zlp hlt]at this
    exact this)
   have h4f:=zjo hown (j*4+3);have hm:=h64 l[j] (List.getElem_mem _);generalize l[j]=s at *;obtain⟨x,b,d,m⟩:=s;simp only at q0 q1 q2 q3 HY HS HT h4 hm;have tl:=tal wr (.cells #[iV x,iV b,iV d,iV m] 60);have HN:=Lib.hid (neg_any m hm.1 hm.2 (wr.alloc (.cells #[iV x,iV b,iV d,iV m] 60)));have hown1:=tl.own hown (fun _ _=>id);have h5:=tl.cell_some h4 id;have h5f:=zjo hown1 (j*4+3);have e0':=e0.keep tl id;have e1':=e1.keep tl id;have e2':=e2.keep tl id;have tr':=tr.trans tl;have ht':=ht.trans (Exn.touch tl);go_wp2_with fail;clear h4 h4f hown hl2 e0 e1 e2 q0 q1 q2 q3 tr ht;generalize wr.alloc (.cells #[iV x,iV b,iV d,iV m] 60)=W2 at *;refine HN.out.mono ?_;rintro _ w3 ⟨⟨n,q,rfl,hq1,hq2⟩,rfl⟩;clear HN;by_cases hmin:m= -9223372036854775808
   ·obtain rfl:=hq1 hmin;have hany:=HY.out (by simp[hmin]);have k0:=e1'.cell 0;have k1:=e1'.cell 1;have k2:=e1'.cell 2;have k3:=e1'.frozen 0;have k4:=e1'.frozen 1;have k5:=e1'.frozen 2;simp at k0 k1 k2;clear hq1 hq2;go_wp2;have hbF:=((e1'.set_ 0 (iV 0)).set_ 1 (iV 0)).set_ 2 (.slice none 0 0);simp only[List.setIfInBounds_toArray,List.set_cons_succ,List.set_cons_zero]at hbF;(try simp only[exS]);refine zbi hbF ?_;exact⟨_,_,_,_,_,_,rfl,fun _=>rfl,(fun h=>by rw[hany]at h;cases h),tr'.trans' (Tch.sets3 W2 (z+1) _ _ _) (fun i hi=>.inr (by have hi:i=z+1:=hi;have:=HZW.out;omega))⟩
   ·obtain⟨rfl,rfl⟩:=hq2 hmin;have HS:=Lib.hid (show(l.take (j+1)).any (fun x=>x.2.2.2== -9223372036854775808)=false by rw[HS.out,HA.out];simpa using hmin);have p2:=e2'.at2;clear hq1 hq2;go_wp2;go_roundw
    case rel=>
     refine⟨j+1,by omega,by go_num,HS.out,?_,ht'.trans (Tch.setCell (F:=fun g=>W.heap.size≤g) W2 (p:=⟨g2,j*4+3,none⟩) (.inl hg2.1) _)⟩;have:=zw6 hown1 (j*4+3) (iV (-m));rwa [HT.out]at this
    case measure=>simp[intOf];omega
  ·obtain rfl:l.length=j:=by omega
   rw[List.take_length]at HA;have hT:zca l l.length=l.map opp:=by unfold zca;simp
   rw[hT]at hown;have k0:=e1.cell 0;have k1:=e1.cell 1;have k2:=e1.cell 2;have k3:=e1.frozen 0;have k4:=e1.frozen 1;have k5:=e1.frozen 2;obtain⟨p0,p1,p2⟩:=e2.f3;go_wp2;have hbF:=((e1.set_ 0 (iV p)).set_ 1 (iV r)).set_ 2 (.slice O l.length co);simp only[List.setIfInBounds_toArray,List.set_cons_succ,List.set_cons_zero]at hbF;refine zbi hbF ?_;have tS:=Tch.sets3 wr (z+1) (iV p) (iV r) (.slice O l.length co);refine⟨_,_,_,_,_,_,rfl,(fun h=>by rw[HA.out]at h;cases h),fun _=>⟨rfl,rfl,?_⟩,tr.trans' tS (fun i hi=>.inr (by have hi:i=z+1:=hi;have:=HZW.out;omega))⟩;have ow:=tS.own hown (fun g hg hF=>by have:=(hown.lt g hg).1;have hF:g=z+1:=hF;omega);have:=Row.own (P:=fun _=>True) ow (fun _ _=>trivial);show Row (fun _=>True) _ _ (l.map opp).length 4 _;rwa [List.length_map]
end Go.Proofs.YtoegobjnjljegaaGreatDoor
namespace Go.Gk
open Go.RowKit
structure EntsIs (w:World) (v:Value) (us:List (Ent×Value)):Prop where
 row:zae zvp 3 (fun _=>True) w v us
 lines:∀p∈us,zae zdr 4 (fun _=>True) w p.2 p.1.lines
theorem EntsIs.keep {w w':World} {v:Value} {us:List (Ent×Value)} (h:EntsIs w v us) (t:Tf w w'):EntsIs w' v us:=⟨h.row.keep t,fun p hp=>(h.lines p hp).keep t⟩
structure EntsFew (us:List (Ent×Value)):Prop where
 n:us.length≤1000
 lines:∀p∈us,p.1.lines.length≤1000
 i64:∀p∈us,∀x∈p.1.lines,I64 x.2.2.2
end Go.Gk
namespace Go.Proofs.YtoegobjnjljegaaGreatDoor
open Go.RowKit Go.Gk
theorem zug {w:World} {v:Value} {us:List (Ent×Value)} (hu:EntsIs w v us) (hn:us.length≤100000) (p:Ent×Value→Bool) (g:Nat) (lb:Array Value) (eg:∀args w,(callFunc g args).run Tryz.prog w=.ok (.enter g args) w)
 (hp:∀(x:Ent×Value) w',Tf w w'→Calls Tryz.prog g (#[.agg #[iV x.1.period,iV x.1.reverses,x.2]]++lb) w' (zgr (p x) w')):
 Calls Tryz.prog 320 #[v,.func (.func g) #[] lb] w (zo8 (us.any p) w):=by
 obtain⟨A,c,rfl,hc1,hc2⟩:=hu.row.form;have hl:=hu.row;have hx:=hu.lines;clear hu;have HP:=Lib.hid hp;clear hp;go_enter Tryz.func320,Tryz.ntmps320;go_wp2_with fail;go_loopw [8] (fun i wr=>∃j:Nat,j≤us.length∧i=.int .i64 j∧(us.take j).any p=false∧Tf w wr) (fun i _=>us.length-(intOf i).toNat)
 case atStart=>exact⟨0,Nat.zero_le _,rfl,rfl,Tch.refl _ _⟩
 case round=>
  obtain⟨j,hj,rfl,h2,ht⟩:=hrel;have H2:=Lib.hid h2;clear h2;by_cases hlt:j<us.length
  ·obtain⟨g',o,rfl⟩:=hl.head (by omega);obtain⟨q0,q1,q2⟩:=Row.three (hl.keep ht) zc6 hlt rfl;have hs:=zcx (p:=p) hlt;have hy:=fun h=>zjh (p:=p) hlt h
   obtain⟨A',c',hf,_,_⟩:=(hx us[j] (List.getElem_mem _)).form;have HC:=Lib.hid (HP.out us[j] wr ht);have HS:=Lib.hid hs;have HY:=Lib.hid hy;clear hs hy;generalize us[j]=x at *;obtain⟨⟨yp,yr,yl⟩,yv⟩:=x;simp only at hf q0 q1 q2 HC;subst hf;have hlt':(j:Int)<(us.length:Int):=by omega
   have hj0:=znn j;go_wp2_with fail;refine HC.out.mono ?_;rintro _ w2 ⟨rfl,t2⟩;clear HC
   cases hb:p (⟨yp,yr,yl⟩,.slice A' yl.length c')
   ·rw[hb]at HS;clear hb HY;go_wp2;go_roundw
    case rel=>exact⟨j+1,by omega,by go_num,by rw[HS.out,H2.out];rfl,ht.trans t2⟩
    case measure=>simp[intOf];omega
   ·have hy:=HY.out hb;clear hb HY;go_wp2;go_ret;exact⟨j,rfl,by omega,by omega,by rw[hy];simp,ht.trans t2⟩
  ·obtain rfl:us.length=j:=by omega
   rw[List.take_length]at H2;go_wp2;go_ret;exact⟨-1,rfl,by omega,by omega,by rw[H2.out];rfl,ht⟩
theorem rev1_any (p r n:Int) (v:Value) {w:World} {g:Nat} (hg:w.cell? ⟨g,0,none⟩=some (iV n)):
 Calls Tryz.prog 321 #[.agg #[iV p,iV r,v],.pointer (some ⟨g,0,none⟩)] w (zgr (r==n) w):=by
 have tw:=tal w (.cells #[iV p,iV r,v] 207);have hg1:=tw.cell_some hg id;go_enter Tryz.func321,Tryz.ntmps321;go_wp2;go_ret;exact⟨rfl,tw⟩
theorem zpi {w:World} {v:Value} {us:List (Ent×Value)} (hu:EntsIs w v us) (hn:us.length≤1000) (n:Int) (h1:1≤n) (h2:n≤us.length):
 Calls Tryz.prog 280 #[v,iV n] w fun e w'=>∃i:Int,e=.returned (iV i)∧(i !=0)=(us.any fun p=>p.1.reverses==n)∧Tf w w':=by
 have hb:=Blk.new w 3 #[iV n];have tw:=tal w (.cells #[iV n] 3);have HI:=Lib.hid (zug (hu.keep tw) (by omega) (fun p=>p.1.reverses==n) 321 #[.pointer (some ⟨w.heap.size,0,none⟩)] (enters_of Tryz.func321 (by kernel_rfl) rfl) (fun x w' t=>rev1_any _ _ n _ ((hb.keep t id).cell 0)));obtain⟨A,c,rfl,hc1,hc2⟩:=hu.row.form;generalize(us.any fun p=>p.1.reverses==n)=b at *;clear hu hb;go_enter Tryz.func280,Tryz.ntmps280;go_wp2_with fail;refine HI.out.mono ?_;rintro _ w1 ⟨i,rfl,g1,g2,g3,t1⟩;have HB:=Lib.hid (show((i+1:Int) !=0)=b by rw[←g3];by_cases h:0≤i<;>simp[h]<;>omega);clear g3 HI;go_wp2;go_ret;exact⟨i+1,by first|rfl|(congr 2;go_num),HB.out,tw.trans t1⟩
theorem zuh (p r:Int) {w:World} {u v:Value} {us:List (Ent×Value)} {l:List Ln4} (hu:EntsIs w v us) (hf:EntsFew us) (hl:zae zdr 4 (fun _=>True) w u l) (hn:l.length≤1000):
 Calls Tryz.prog 208 #[v,.agg #[iV p,iV r,u]] w (RetOk (zhg (us.map (·.1)) ⟨p,r,l⟩) w):=by
 obtain⟨ok,hok⟩:∃ok,zhg (us.map (·.1)) ⟨p,r,l⟩=ok:=⟨_,rfl⟩
 rw[hok];unfold zhg at hok;simp only[List.length_map,List.any_map]at hok;have HOK:=Lib.hid hok;clear hok;have hlu:=hf.n;obtain⟨A,c,rfl,hc1,hc2⟩:=hu.row.form;obtain⟨A2,c2,rfl,hd1,hd2⟩:=hl.form
 obtain⟨W,hW⟩:∃W,w.alloc (.cells #[iV p,iV r,.slice A2 l.length c2] 207)=W:=⟨_,rfl⟩
 have tw:Tf w W:=hW▸Tch.alloc _ _ _;have hb:Blk W w.heap.size 207 #[iV p,iV r,.slice A2 l.length c2]:=hW▸Blk.new w 207 _;have HW:=Lib.hid hW;have HB:=Lib.hid hb;have p1:=hb.at1;clear hW hb;by_cases h0:r=0
 ·subst h0;obtain rfl:ok=true:=by rw[←HOK.out];rfl
  go_enter Tryz.func208,Tryz.ntmps208;go_wp2_with fail;rw[HW.out];go_wp2;go_ret;exact RetOk.yes tw
 have h0':(r==0)=false:=by simpa using h0
 by_cases h1:r<0
 ·obtain rfl:ok=false:=by rw[←HOK.out];simp[h0,h1]
  go_enter Tryz.func208,Tryz.ntmps208;go_wp2_with fail;rw[HW.out];go_wp2;go_ret;exact RetOk.no rfl tw
 by_cases h2:(us.length:Int)<r
 ·obtain rfl:ok=false:=by rw[←HOK.out];simp[h0,h2]
  go_enter Tryz.func208,Tryz.ntmps208;go_wp2_with fail;rw[HW.out];go_wp2;go_ret;exact RetOk.no rfl tw
 obtain⟨k,hk,rfl⟩:∃k:Nat,k<us.length∧r=(k:Int)+1:=⟨(r-1).toNat,by omega,by omega⟩
 have hkm:k<(us.map (·.1)).length:=by simpa using hk
 have HOK:=Lib.hid (show(us[k].1.reverses==0&& !(us.any fun z=>z.1.reverses==(k:Int)+1)&& !(us[k].1.lines.any fun l=>l.2.2.2== -9223372036854775808)&&decide (l=us[k].1.lines.map opp))=ok by
  rw[←HOK.out,if_neg (by simpa using h0),if_neg (by simp;omega),show((k:Int)+1-1).toNat=k by omega,List.getElem?_eq_getElem hkm,List.getElem_map]
  rfl)
 obtain⟨g,o,rfl⟩:=hu.row.head (by omega);have hk1:(k:Int)<(us.length:Int):=by omega
 have hk0:=znn k;have HU:=Lib.hid hu;have HLU:=Lib.hid (hu.lines us[k] (List.getElem_mem _));have h64:=hf.i64 us[k] (List.getElem_mem _);have hln:=hf.lines us[k] (List.getElem_mem _);obtain⟨q0,q1,q2⟩:=Row.three ((hu.row).keep tw) zc6 hk rfl;have Q:=Lib.hid (fun w' (t:Tf W w')=>Row.three ((hu.row).keep (tw.trans t)) zc6 hk rfl);have HRV:=Lib.hid (fun w' (t:Tf W w')=>zpi (hu.keep (tw.trans t)) hlu ((k:Int)+1) (by omega) (by omega));obtain⟨A',c',hfv,hz1,hz2⟩:=HLU.out.form;generalize us[k]=x at *;obtain⟨⟨yp,yr,yl⟩,yv⟩:=x;simp only at hfv q0 q1 q2 HLU h64 hln HOK;subst hfv;generalize(us.any fun z=>z.1.reverses==(k:Int)+1)=b at *;clear hu hf h0 h1 h2 hkm;have hrr:((k:Int)+1==0)=false:=by simp;omega
 have hge:¬(k:Int)+1<0:=by omega
 have hle:¬(us.length:Int)<(k:Int)+1:=by omega
 by_cases hyr:yr=0
 rotate_left
 ·have hyr':(yr==0)=false:=by simpa using hyr
  have hyr2:(yr !=0)=true:=by simpa using hyr
  obtain rfl:ok=false:=by rw[←HOK.out,hyr'];rfl
  rw[←HW.out]at q1;go_enter Tryz.func208,Tryz.ntmps208;go_wp2_with fail;rw[HW.out];go_wp2;go_ret;exact RetOk.no rfl tw
 subst hyr;rw[←HW.out]at q1;go_enter Tryz.func208,Tryz.ntmps208;go_wp2_with fail;rw[HW.out];generalize w.heap.size=z at *;go_wp2_with fail;refine(HRV.out W (Tch.refl _ _)).mono ?_;rintro _ w1 ⟨i,rfl,hi,t1⟩;clear q0 q1 q2 p1
 cases b;rotate_left
 ·obtain rfl:ok=false:=by rw[←HOK.out];rfl
  have HI:=Lib.hid hi;go_wp2;go_ret;exact RetOk.no rfl (tw.trans t1)
 obtain rfl:i=0:=by simpa using hi
 clear hi;have HOK:=Lib.hid (show(!(yl.any fun l=>l.2.2.2== -9223372036854775808)&&decide (l=yl.map opp))=ok by rw[←HOK.out];rfl);obtain⟨q0,q1,q2⟩:=Q.out w1 t1;have HO:=Lib.hid (zph yp 0 (HLU.out.keep (tw.trans t1)) h64 hln);go_wp2_with fail;refine HO.out.mono ?_;rintro _ w2 ⟨a,d,A5,n5,c5,q,rfl,hq1,hq2,t2⟩;have t12:=t1.trans t2;clear q0 q1 q2 HO;have tL:=tal w2 (.cells #[iV a,iV d,.slice A5 n5 c5] 207);have hbL:=Blk.new w2 207 #[iV a,iV d,.slice A5 n5 c5];have tA:=tw.trans (t12.trans tL);have x2:=(HB.out.keep (t12.trans tL) id).at2
 cases hmn:(yl.any fun l=>l.2.2.2== -9223372036854775808)
 ·obtain⟨rfl,rfl,hru⟩:=hq2 hmn;rw[hmn]at HOK;have HE:=Lib.hid (zn8 (hl.keep tA) (hru.keep tL) (by omega) (by rw[List.length_map];omega));generalize decide (l=yl.map opp)=e at *;obtain rfl:ok=e:=by rw[←HOK.out];rfl
  have y2:=hbL.at2;clear hq1 hq2 hmn hbL;go_wp2_with fail;refine HE.out.mono ?_;rintro _ w4 ⟨rfl,t4⟩;clear HE
  cases ok
  ·go_wp2;go_ret;exact RetOk.no rfl (tA.trans t4)
  ·go_wp2;go_ret;exact RetOk.yes (tA.trans t4)
 ·have hq:=hq1 hmn;have hq':(q !=0)=true:=by simpa using hq
  rw[hmn]at HOK;obtain rfl:ok=false:=by rw[←HOK.out];rfl
  clear hq1 hq2 hmn hq x2 hbL;go_wp2;go_ret;exact RetOk.no rfl tA
end Go.Proofs.YtoegobjnjljegaaGreatDoor
namespace Go.Gk
open Go.RowKit
structure BksAt (w:World) (e a s r l n:Value) (b:Bks) (us:List (Ent×Value)):Prop where
 ents:zae zby 1 (fun _=>True) w e b.ents
 accs:zae zfq 4 (fun _=>True) w a b.accs
 stakes:zae zdr 4 (fun _=>True) w s b.stakes
 rates:zae za2 6 (fun _=>True) w r b.rates
 locks:zae zn0 2 (fun _=>True) w l b.locks
 ent:EntsIs w n us
 map:us.map (·.1)=b.entries
theorem BksAt.keep {w w':World} {e a s r l n:Value} {b:Bks} {us:List (Ent×Value)} (h:BksAt w e a s r l n b us) (t:Tf w w'):BksAt w' e a s r l n b us:=
 ⟨h.ents.keep t,h.accs.keep t,h.stakes.keep t,h.rates.keep t,h.locks.keep t,h.ent.keep t,h.map⟩
theorem BooksIs.at {w:World} {v:Value} {b:Bks} (h:BooksIs (fun _=>True) w v b):∃e a s r l n us,v=.agg #[e,a,s,r,l,n]∧BksAt w e a s r l n b us:=
 let⟨e,a,s,r,l,n,h0,h1,h2,h3,h4,h5,us,k1,k2,k3⟩:=h.ex
 ⟨e,a,s,r,l,n,us,h0,h1,h2,h3,h4,h5,⟨k2,k3⟩,k1⟩
theorem BksAt.is {w:World} {e a s r l n:Value} {b:Bks} {us:List (Ent×Value)} (h:BksAt w e a s r l n b us):BooksIs (fun _=>True) w (.agg #[e,a,s,r,l,n]) b:=
 ⟨e,a,s,r,l,n,rfl,h.ents,h.accs,h.stakes,h.rates,h.locks,us,h.map,h.ent.row,h.ent.lines⟩
theorem BksAt.few {w:World} {e a s r l n:Value} {b:Bks} {us:List (Ent×Value)} (h:BksAt w e a s r l n b us) (hf:BksFew b) (h64:Bks64 b):EntsFew us:=by
 have hl:us.length=b.entries.length:=by rw[←h.map,List.length_map]
 refine⟨by have:=hf.entries;omega,fun p hp=>?_,fun p hp x hx=>?_⟩
 ·have:=hf.lines p.1 (by rw[←h.map];exact List.mem_map_of_mem hp);omega
 ·exact((h64.entries p.1 (by rw[←h.map];exact List.mem_map_of_mem hp)).2.2 x hx).2.2.2
theorem EntsIs.take {w:World} {A:Option Addr} {c:Nat} {us:List (Ent×Value)} (h:EntsIs w (.slice A us.length c) us) {k:Nat} (hk:k≤us.length):EntsIs w (.slice A k c) (us.take k):=
 ⟨Row.takes' zc6 h.row hk,fun p hp=>h.lines p (List.mem_of_mem_take hp)⟩
theorem EntsFew.take {us:List (Ent×Value)} (h:EntsFew us) (k:Nat):EntsFew (us.take k):=
 ⟨by rw[List.length_take];have:=h.n;omega,fun p hp=>h.lines p (List.mem_of_mem_take hp),fun p hp=>h.i64 p (List.mem_of_mem_take hp)⟩
end Go.Gk
namespace Go.Proofs.YtoegobjnjljegaaGreatDoor
open Go.RowKit Go.Gk
theorem all_any {w:World} {e a s r l n:Value} {b:Bks} {us:List (Ent×Value)} (h:BksAt w e a s r l n b us) (hf:BksFew b) (h64:Bks64 b):
 Calls Tryz.prog 133 #[.agg #[e,a,s,r,l,n]] w (RetAt (zd8 b) w):=by
 obtain⟨ok,hok⟩:∃ok,zd8 b=ok:=⟨_,rfl⟩
 rw[hok];have hfew:=h.few hf h64;have hlen:us.length=b.entries.length:=by rw[←h.map,List.length_map]
 have h30:=hf.entries;unfold zd8 at hok;rw[decide_eq_true (by omega),Bool.true_and,←hlen]at hok;have HOK:=Lib.hid hok;clear hok;obtain⟨Ae,ce,rfl,he1,he2⟩:=h.ents.form;obtain⟨Aa,ca,rfl,ha1,ha2⟩:=h.accs.form;obtain⟨As,cs,rfl,_,_⟩:=h.stakes.form;obtain⟨Ar,cr,rfl,_,_⟩:=h.rates.form;obtain⟨Al,cl,rfl,_,_⟩:=h.locks.form;obtain⟨An,cn,rfl,hn1,hn2⟩:=h.ent.row.form;have tw:=tal w (.cells #[.slice Ae b.ents.length ce,.slice Aa b.accs.length ca,.slice As b.stakes.length cs,.slice Ar b.rates.length cr,.slice Al b.locks.length cl,.slice An us.length cn] 29);have hb:=Blk.new w 29 #[.slice Ae b.ents.length ce,.slice Aa b.accs.length ca,.slice As b.stakes.length cs,.slice Ar b.rates.length cr,.slice Al b.locks.length cl,.slice An us.length cn];have hu30:(us.length:Int)≤30:=by omega
 have hu31:us.length≤30:=by omega
 clear hlen h30;have h1:=h.keep tw;have HB:=Lib.hid hb;have H1:=Lib.hid h1;have HL:=Lib.hid (zix h1.accs (by have:=hf.accs;omega))
 have hll:(zag b.accs).length≤100:=by
  unfold zag;refine Nat.le_trans (List.length_filter_le _ _) ?_;rw[za5];have:=hf.accs;omega
 clear h h1 hb;go_enter Tryz.func133,Tryz.ntmps133;go_wp2_with fail;generalize w.alloc (.cells #[.slice Ae b.ents.length ce,.slice Aa b.accs.length ca,.slice As b.stakes.length cs,.slice Ar b.rates.length cr,.slice Al b.locks.length cl,.slice An us.length cn] 29)=W at *;generalize w.heap.size=z at *;refine HL.out.mono ?_;rintro _ w1 ⟨u,rfl,hO⟩;clear HL;have t1:=hO.tch;have hlv:=hO.row;obtain⟨U,cu,rfl,hu1,hu2⟩:=hO.form;clear hO;have p5:=(HB.out.keep t1 id).at5;go_wp2_with fail;clear p5;go_loopw [21] (fun i wr=>∃j:Nat,j≤us.length∧i=.int .i64 j∧(List.range j).all (zgq b)=true∧Tf w1 wr) (fun i _=>us.length-(intOf i).toNat)
 case atStart=>exact⟨0,by omega,rfl,rfl,Tch.refl _ _⟩
 case round=>
  obtain⟨j,hj,rfl,hall,ht⟩:=hrel;have HA:=Lib.hid hall;clear hall;have tA:=t1.trans ht;by_cases hlt:j<us.length
  ·have hlt':(j:Int)<(us.length:Int):=by omega
   have hj0:=znn j;have hjc:(j:Int)≤(cn:Int):=by omega
   obtain⟨g,o,rfl⟩:=H1.out.ent.row.head (by omega);obtain⟨q0,q1,q2⟩:=Row.three (H1.out.ent.row.keep tA) zc6 hlt rfl;have hs:=zch (zgq b) j;have hno:=fun h=>zcu (p:=zgq b) hlt h
   have hat:zgq b j=(zh5 us[j].1 b.ents.length b.accs.length&&zik us[j].1 (zag b.accs)&&zhg ((us.take j).map (·.1)) us[j].1):=by
    unfold zgq;have hjm:j<(us.map (·.1)).length:=by simpa using hlt
    rw[←H1.out.map,List.getElem?_eq_getElem hjm,List.getElem_map,List.map_take]
   have HLN:=Lib.hid (H1.out.ent.lines us[j] (List.getElem_mem _));have hln:=hfew.lines us[j] (List.getElem_mem _);have h64j:=hfew.i64 us[j] (List.getElem_mem _);obtain⟨A',c',hfv,_,_⟩:=HLN.out.form;have HS:=Lib.hid hs;have HN:=Lib.hid hno;have HAT:=Lib.hid hat;clear hs hno hat;generalize us[j]=x at *;obtain⟨⟨yp,yr,yl⟩,yv⟩:=x;simp only at hfv q0 q1 q2 HLN hln h64j HAT;subst hfv;have HE:=Lib.hid (fun w' (t:Tf W w')=>zn9 yp yr b.ents.length b.accs.length (HLN.out.keep t) h64j hln);have HP:=Lib.hid (fun w' (t:Tf w1 w')=>zuq yp yr (HLN.out.keep (t1.trans t)) (hlv.keep t) hln (by omega));have HT:=Lib.hid (fun w' (t:Tf W w')=>zuh yp yr (EntsIs.take (H1.out.ent.keep t) hj) (hfew.take j) (HLN.out.keep t) hln);generalize zh5 ⟨yp,yr,yl⟩ b.ents.length b.accs.length=b1 at *;generalize zik ⟨yp,yr,yl⟩ (zag b.accs)=b2 at *;generalize zhg ((us.take j).map (·.1)) ⟨yp,yr,yl⟩=b3 at *;have tB:=tA.trans (tal wr (.cells #[iV yp,iV yr,.slice A' yl.length c'] 207));have ht2:=ht.trans (tal wr (.cells #[iV yp,iV yr,.slice A' yl.length c'] 207));have hbE:=Blk.new wr 207 #[iV yp,iV yr,.slice A' yl.length c'];obtain⟨p0,p1⟩:=(HB.out.keep tB id).f2;go_wp2_with fail;generalize wr.alloc (.cells #[iV yp,iV yr,.slice A' yl.length c'] 207)=W2 at *;generalize wr.heap.size=N at *;refine(HE.out W2 tB).mono ?_;rintro _ w3 ⟨a3,n3,rfl,hn3,t3⟩;clear HE p0 p1 q0 q1 q2
   cases b1
   ·obtain rfl:ok=false:=by rw[←HOK.out,HN.out (by rw[HAT.out];rfl)]
    have hq':(n3 !=0)=true:=by simpa using hn3
    have HQ:=Lib.hid hn3;clear hn3;go_wp2;go_ret2
    exact RetAt.no HQ.out (tw.trans (tB.trans t3))
   obtain rfl:n3=0:=by simpa using hn3
   clear hn3;obtain⟨e0,e1,e2⟩:=(hbE.keep t3 id).f3;go_wp2_with fail;refine(HP.out w3 (ht2.trans t3)).mono ?_;rintro _ w4 ⟨n4,rfl,hn4,t4⟩;clear HP e0 e1 e2;have tC:=tB.trans (t3.trans t4)
   cases b2
   ·obtain rfl:ok=false:=by rw[←HOK.out,HN.out (by rw[HAT.out];rfl)]
    have hq':(n4 !=0)=true:=by simpa using hn4
    have HQ:=Lib.hid hn4;clear hn4;go_wp2;go_ret2
    exact RetAt.no HQ.out (tw.trans tC)
   obtain rfl:n4=0:=by simpa using hn4
   clear hn4;go_wp2_with fail;have p5:=zad (F:=fun _=>False) (HB.out.keep tC id).at5 id;have e0:=zad (F:=fun _=>False) (show w4.cell? ⟨N,0,none⟩=some _ from(hbE.keep (t3.trans t4) id).cell 0) id;have e1:=zad (F:=fun _=>False) (show w4.cell? ⟨N,1,none⟩=some _ from(hbE.keep (t3.trans t4) id).cell 1) id;have e2:=zad (F:=fun _=>False) (show w4.cell? ⟨N,2,none⟩=some _ from(hbE.keep (t3.trans t4) id).cell 2) id;refine zai (fun _=>False) [] 5 [] [] ?_ ?_
   ·exact trivial
   intro bef _;iterate 5 (refine zbt ?_;(try simp only[zaw]))
   refine za6 ?_;intro w5 hr hp1 hap;have t5:=(Tch.drew _ w4).trans hr;have tD:=tC.trans t5;clear hap hp1 p5 e0 e1 e2 hr;go_wp2_with fail;refine(HT.out w5 tD).mono ?_;rintro _ w6 ⟨n6,rfl,hn6,t6⟩;have tE:=tD.trans t6;clear HT
   cases b3
   ·obtain rfl:ok=false:=by rw[←HOK.out,HN.out (by rw[HAT.out];rfl)]
    have hq':(n6 !=0)=true:=by simpa using hn6
    have HQ:=Lib.hid hn6;clear hn6;go_wp2;go_ret2
    exact RetAt.no HQ.out (tw.trans tE)
   obtain rfl:n6=0:=by simpa using hn6
   clear hn6;have HS:=Lib.hid (show(List.range (j+1)).all (zgq b)=true by rw[HS.out,HA.out,HAT.out];rfl);have tF:=((ht2.trans (t3.trans t4)).trans t5).trans t6;go_wp2;go_roundw
   case rel=>exact⟨j+1,by omega,by go_num,HS.out,tF⟩
   case measure=>simp[intOf];omega
  ·obtain rfl:us.length=j:=by omega
   obtain rfl:ok=true:=by rw[←HOK.out,HA.out]
   have p5:=(HB.out.keep tA id).at5;go_wp2;go_ret2
   exact RetAt.yes (tw.trans tA)
open Go.RowKit Go.Gk
theorem eqSpot (a b:zgm) (w:World):(Op.equalIn 10000 287 (zez a) (zez b)).run Tryz.prog w=.ok (decide (a=b)) w:=by
 obtain⟨a0,a1,a2⟩:=a;obtain⟨b0,b1,b2⟩:=b;unfold zez;have u_int:=Tryz.underlying3;have a_int:=Tryz.isAgg3;have z_int:=Tryz.sizeOf3;have hS:Tryz.prog.underlying 287=some (.struct (Tryz.prog.fieldsOf 287)):=by kernel_rfl
 have hp:Tryz.prog.stoodInHeld 287=false:=by kernel_rfl
 rw[show(10000:Nat)=9999+1 from rfl,run_equalIn_agg w 9999 287 _ _ hS hp];simp only[Program.fieldsOf,Tryz.underlying287];go_simp
 by_cases h0:a0=b0<;>by_cases h1:a1=b1<;>by_cases h2:a2=b2<;>simp[h0,h1,h2]
theorem zjn:KeyLaw Tryz.prog 287 zez where
 eq:=fun a b w=>by
  unfold Op.equal;exact eqSpot a b w
 check:=fun e a w=>by
  obtain⟨a0,a1,a2⟩:=a;have u_int:=Tryz.underlying3;have a_int:=Tryz.isAgg3;have z_int:=Tryz.sizeOf3
  have hci:∀(n:Nat) (v:Int) (w:World),(Instr.checkKey e (n+1) 3 (iV v)).run Tryz.prog w=.ok () w:=fun n v w=>by
   rw[Instr.checkKey];simp only[Sem.run_bind,run_underlying u_int,Result.andThen_ok];rfl
  have hc9:∀(v:Int) (w:World),(Instr.checkKey e 9999 3 (iV v)).run Tryz.prog w=.ok () w:=fun v w=>hci 9998 v w
  rw[show(10000:Nat)=9999+1 from rfl,Instr.checkKey];simp only[zez,Sem.run_bind,run_underlying Tryz.underlying287,Result.andThen_ok];rw[←Array.forIn_toList];simp only[List.forIn_cons,List.forIn_nil];go_simp
 bits:=fun a=>by simp[zez,Instr.sameBits]
 desc:=⟨_,Tryz.underlying287,fun a b=>rfl⟩
theorem ziu:RowTy Tryz.prog 288 290 (.agg #[iV 0,iV 0,iV 0]) 3 24:=⟨Tryz.underlying288,by kernel_rfl,rfl,by decide⟩
theorem zk3 (w:World):(zeroValue 288).run Tryz.prog w=.ok (.slice none 0 0) w:=Tryz.zeroValue288 w
theorem zk4 (l:List Rw3):∀u∈l.flatMap zjk,u.oneCell'=true:=fun u hu=>by
 obtain⟨x,_,hx⟩:=List.mem_flatMap.1 hu;simp[zjk]at hx;rcases hx with rfl|rfl|rfl<;>rfl
abbrev Tly (w:World) (B t mr mp:Nat) (ps:List Pst) (n:Int):Prop:=TallyIs 233 290 3 w B t mr mp ps n
theorem zh8 {w:World} {B t mr mp:Nat} {ps:List Pst} {n:Int} (h:Tly w B t mr mp ps n):
 Calls Tryz.prog 289 #[.pointer (some ⟨t,0,none⟩)] w fun e w'=>e=.returned (.bool true)∧w=w':=by
 have q0:=h.blk.at0;have hmn:∀w,(binOp .neq 230 (.map (some mr)) (.map none)).run Tryz.prog w=.ok (.bool true) w:=fun w=>run_neq_map_nil w _ _ _ _ Tryz.underlying230
 go_enter Tryz.func289,Tryz.ntmps289;go_wp2;go_ret;exact⟨rfl,rfl⟩
theorem zke {w:World} {B t mr mp:Nat} {ps:List Pst} {n:Int} (h:Tly w B t mr mp ps n) (hn:ps.length≤10000) (s:zgm) (q:Int):
 Calls Tryz.prog 230 #[.pointer (some ⟨t,0,none⟩),zez s,iV q] w fun e w'=>∃u,e=.returned u∧Outs zjk 3 290 w w' u ((zbf ps s).filter fun r=>q==0||r.2.1==q):=by
 obtain⟨a0,a1,a2⟩:=s;have tw:=tal w (.cells #[iV a0,iV a1,iV a2] 287);have h1:=h.keep tw (fun _ _ h=>h.elim);have hM:=zh8 h1;have hb:=Blk.new w 287 #[iV a0,iV a1,iV a2];obtain⟨R,M,ow,m1,m2,f1,f2,o1,o2⟩:=h1.ex;have hown:=f1.at (a0,a1,a2);obtain⟨A,c,hv,hc1,hc2,_⟩:=zac hown;rw[hv]at hown;have hlen:=zfx ps (a0,a1,a2);have hrow:=Row.own (P:=fun _=>True) hown (fun _ _=>trivial);have HV:=Lib.hid hv;have hb1:=h1.blk;clear hv f1 f2 o1 o2 m2 h1 h hown;generalize zbf ps (a0,a1,a2)=l at *
 obtain⟨F,hF⟩:∃F:Rw3→Bool,(fun r:Rw3=>q==0||r.2.1==q)=F:=⟨_,rfl⟩
 rw[hF];have HF:=Lib.hid (fun x y m:Int=>show F (x,y,m)=(q==0||y==q) by rw[←hF]);clear hF;unfold zez;go_enter Tryz.func230,Tryz.ntmps230;go_wp2_with fail;generalize w.alloc (.cells #[iV a0,iV a1,iV a2] 287)=W at *;generalize w.heap.size=z at *;refine hM.mono ?_;rintro _ _ ⟨rfl,rfl⟩;obtain⟨c0,c1,c2⟩:=hb.w3;have t0:=wc0 hb1.at0;clear hM hb1;go_wp2_with fail;refine zai (fun _=>False) [] 8 [(5,.inl (.slice A l.length c))] [] ?_ ?_
 ·exact trivial
 intro bef _;iterate 5 (refine zbt ?_;(try simp only[zaw]))
 refine zb3 (.slice A l.length c) (by rfl) (by rfl) (fun w1 hr hf=>?_) ?_
 ·refine zrg _ _ _ rfl zjn Tryz.underlying230 (zk3 w1) (k:=(a0,a1,a2)) (by rfl) (by rfl) (m1.is.keep ((Tch.drew _ W).trans hr) id) ?_;exact⟨⟨HV.out,Tch.refl _ _⟩,zaf⟩
 simp only[zaw];iterate 2 (refine zbt ?_;(try simp only[zaw]))
 refine za6 ?_;intro w1 hr hp1 hap;have t1:=(Tch.drew _ W).trans hr;have tt:=tw.trans t1;have hrow:=hrow.keep t1;clear hap hp1 c0 c1 c2 t0 hr HV m1 t1;go_wp2_with fail;go_loopw [7,20] (fun out i wr=>∃(j:Nat) (xs:List Rw3),j≤l.length∧i=.int .i64 j∧(l.take j).filter F=xs∧Outs zjk 3 290 w1 wr out xs) (fun _ i _=>l.length-(intOf i).toNat)
 case atStart=>exact⟨0,[],Nat.zero_le _,rfl,rfl,Outs.start _ _ _ (Tch.refl _ _)⟩
 case round=>
  obtain⟨j,xs,hj,rfl,hx,hO⟩:=hrel;obtain⟨O,co,rfl,ho1,ho2⟩:=hO.form;have hxl:xs.length≤j:=by rw[←hx];exact Nat.le_trans (List.length_filter_le _ _) (by rw[List.length_take];omega)
  have HX:=Lib.hid hx;clear hx;by_cases hlt:j<l.length
  ·have hlt':(j:Int)<(l.length:Int):=by omega
   have hj0:=znn j;obtain⟨g,o,rfl⟩:=hrow.head (by omega);obtain⟨q0,q1,q2⟩:=Row.three (hrow.keep hO.tch) zk2 hlt rfl
   have HS:=Lib.hid (show(l.take (j+1)).filter F=xs++(if F l[j]then[l[j]]else[]) by
    rw[List.take_succ_eq_append_getElem hlt,List.filter_append,HX.out];congr 1
    by_cases hh:F l[j]=true<;>simp[hh])
   generalize l[j]=s at *;obtain⟨x,y,m⟩:=s;simp only at q0 q1 q2 HS;have hO:=hO.keep (Tch.alloc _ wr (.cells #[iV x,iV y,iV m] 290))
   cases hb1:(q==0)
   ·cases hb2:(y==q)
    ·have HS:=Lib.hid (show(l.take (j+1)).filter F=xs by rw[HS.out,HF.out,hb1,hb2];simp);go_wp2;go_roundw
     case rel=>exact⟨j+1,xs,by omega,by go_num,HS.out,hO⟩
     case measure=>simp[intOf];omega
    ·have HS:=Lib.hid (show(l.take (j+1)).filter F=xs++[(x,y,m)] by rw[HS.out,HF.out,hb1,hb2];simp);go_wp2_with (at_builtin;refine apd ziu (hO.own.alloc _) (Go.Gk.Src.one (news:=zjk (x,y,m)) rfl (fun m9 u9 hu9=>by rw[(Blk.new2 wr (.cells #[iV x,iV y,iV m] 290) 290 #[iV x,iV y,iV m]).cell m9];simpa[zjk]using hu9)) (by simpa using zk4 [(x,y,m)]) ?_;intro v2 w2 ho2 hg2 hl2;have hO2:=hO.step (x:=(x,y,m)) (Tch.alloc _ _ _) ho2 hg2 hl2;obtain⟨O2,co2,rfl,_,_⟩:=zac ho2);go_roundw
     case rel=>exact⟨j+1,_,by omega,by go_num,HS.out,hO2⟩
     case measure=>simp[intOf];omega
   ·have HS:=Lib.hid (show(l.take (j+1)).filter F=xs++[(x,y,m)] by rw[HS.out,HF.out,hb1];simp);go_wp2_with (at_builtin;refine apd ziu (hO.own.alloc _) (Go.Gk.Src.one (news:=zjk (x,y,m)) rfl (fun m9 u9 hu9=>by rw[(Blk.new2 wr (.cells #[iV x,iV y,iV m] 290) 290 #[iV x,iV y,iV m]).cell m9];simpa[zjk]using hu9)) (by simpa using zk4 [(x,y,m)]) ?_;intro v2 w2 ho2 hg2 hl2;have hO2:=hO.step (x:=(x,y,m)) (Tch.alloc _ _ _) ho2 hg2 hl2;obtain⟨O2,co2,rfl,_,_⟩:=zac ho2);go_roundw
    case rel=>exact⟨j+1,_,by omega,by go_num,HS.out,hO2⟩
    case measure=>simp[intOf];omega
  ·obtain rfl:l.length=j:=by omega
   rw[List.take_length]at HX;have e:=HX.out;subst e;go_wp2;go_ret;exact⟨_,rfl,hO.base tt⟩
theorem zta (x:Int):zex x=.tuple #[iV (zda x).1,iV (zda x).2]:=by
 unfold zex zda;split<;>rfl
theorem zpj {w:World} {B t mr mp:Nat} {ps:List Pst} {n:Int} (h:Tly w B t mr mp ps n) (hn:ps.length≤10000) (h64:∀p∈ps,I64 p.2.2.2.2) (e a p q:Int):
 Calls Tryz.prog 285 #[.pointer (some ⟨t,0,none⟩),iV e,iV a,iV p,iV q] w fun x w'=>x=.returned (.tuple #[iV (zda (zcl ps (e,a,p) q).sum).1,iV (zda (zcl ps (e,a,p) q).sum).2])∧Tf w w':=by
 have hM:=zh8 h;have hT:=Lib.hid (zke h hn (e,a,p) q);have HA:=Lib.hid (zvy ps (e,a,p) q);have HL:=Lib.hid (Nat.le_trans (List.length_filter_le (fun r:Rw3=>q==0||r.2.1==q) _) (zfx ps (e,a,p)));generalize(zbf ps (e,a,p)).filter (fun r=>q==0||r.2.1==q)=l at *;have hl:=HL.out
 have HI:=Lib.hid (show zwa (zcl ps (e,a,p) q)from fun x hx=>by
  unfold zcl at hx;obtain⟨y,hy,rfl⟩:=List.mem_map.1 hx
  exact h64 y (List.mem_filter.1 hy).1)
 rw[←zta,←HA.out];obtain⟨n1,n2,eq⟩:=zdu (l.map (·.2.2)).sum;rw[eq];have HEQ:=Lib.hid eq;clear eq h;unfold zez at hT;go_enter Tryz.func285,Tryz.ntmps285;go_wp2_with fail;refine hM.mono ?_;rintro _ _ ⟨rfl,rfl⟩;clear hM;go_wp2_with fail;refine hT.out.mono ?_;rintro _ w1 ⟨u,rfl,hU⟩;clear hT;obtain⟨U,cu,rfl,hu1,hu2⟩:=hU.form;go_wp2_with fail;go_loopw [12,26] (fun out i wr=>∃(j:Nat) (xs:List Int),j≤l.length∧i=.int .i64 j∧(l.take j).map (·.2.2)=xs∧Outs zby 1 3 w1 wr out xs) (fun _ i _=>l.length-(intOf i).toNat)
 case atStart=>exact⟨0,[],Nat.zero_le _,rfl,rfl,Outs.start _ _ _ (Tch.refl _ _)⟩
 case round=>
  obtain⟨j,xs,hj,rfl,hx,hO⟩:=hrel;obtain⟨O,co,rfl,ho1,ho2⟩:=hO.form;have hxl:xs.length≤j:=by rw[←hx,List.length_map,List.length_take];omega
  have HX:=Lib.hid hx;clear hx;by_cases hlt:j<l.length
  ·have hlt':(j:Int)<(l.length:Int):=by omega
   have hj0:=znn j;obtain⟨g,o,rfl⟩:=hU.row.head (by omega);obtain⟨q0,q1,q2⟩:=Row.three (hU.row.keep hO.tch) zk2 hlt rfl;have HS:=Lib.hid (show(l.take (j+1)).map (·.2.2)=xs++[l[j].2.2] by rw[List.take_succ_eq_append_getElem hlt,List.map_append,HX.out];rfl);generalize l[j]=s at *;obtain⟨x,y,m⟩:=s;simp only at q0 q1 q2 HS;have hO:=hO.keep (Tch.alloc _ wr (.cells #[iV x,iV y,iV m] 290));go_wp2_with ((at_builtin;refine apd zaj (hO.own.alloc _) (Go.Gk.Src.one (news:=[iV (m)]) rfl (fun m9 u9 hu9=>by rw[(Blk.new2 (wr) (.cells #[iV x,iV y,iV m] 290) 3 #[iV (m)]).cell m9];simpa using hu9)) (by simp;rfl) ?_;intro v2 w2 ho2 hg2 hl2;have hO2:=hO.step (x:=m) (Tch.alloc _ _ _) ho2 hg2 hl2;obtain⟨O2,co2,rfl,_,_⟩:=zac ho2));go_roundw
   case rel=>exact⟨j+1,_,by omega,by go_num,HS.out,hO2⟩
   case measure=>simp[intOf];omega
  ·obtain rfl:l.length=j:=by omega
   rw[List.take_length]at HX;have HC:=zm4 hO.row (by rw[←HX.out,HA.out];exact HI.out) (by omega);have HT:xs.sum=(l.map (·.2.2)).sum:=by rw[←HX.out]
   rw[HT,HEQ.out]at HC;clear HT;have HC:=Lib.hid HC;have tt:=hU.tch.trans hO.tch;clear HX;go_wp2_with fail;refine HC.out.mono ?_;rintro _ w2 ⟨rfl,t2⟩;clear HC;go_wp2;go_ret2
   exact⟨rfl,tt.trans t2⟩
end Go.Proofs.YtoegobjnjljegaaGreatDoor
namespace Go.Gk
open Go.RowKit
def zh9 (tp e a s r l n lv:Value) (fs:List Value):List Value:=[tp,e,a,s,r,l,n,lv]++fs
structure ViewAt (TV TS TF T eR eI:TypeId) (w:World) (bv bi B t mr mp:Nat) (e a s r l n lv:Value) (fs:List Value) (b:Bks) (us:List (Ent×Value)):Prop where
 view:Blk w bv TV #[.pointer (some ⟨bi,0,none⟩)]
 seen:Blk w bi TS (zh9 (.pointer (some ⟨t,0,none⟩)) e a s r l n lv fs).toArray
 tally:TallyIs T eR eI w B t mr mp (zay b.entries) b.entries.length
 bks:BksAt w e a s r l n b us
 leaves:zae zby 1 (fun _=>True) w lv (zag b.accs)
 len:fs.length=24
 forests:∀p:Nat,p<24→∃g:Nat,fs[p]?=some (.pointer (some ⟨g,0,none⟩))∧Blk w g TF (zah b.stakes b.ents.length p b.ents.length).toArray
theorem ViewAt.keep {TV TS TF T eR eI:TypeId} {w w':World} {bv bi B t mr mp:Nat} {e a s r l n lv:Value} {fs:List Value} {b:Bks} {us:List (Ent×Value)} (h:ViewAt TV TS TF T eR eI w bv bi B t mr mp e a s r l n lv fs b us) (tc:Tf w w'):ViewAt TV TS TF T eR eI w' bv bi B t mr mp e a s r l n lv fs b us:=
 ⟨h.view.keep tc id,h.seen.keep tc id,h.tally.keep tc (fun _ _ h=>h.elim),h.bks.keep tc,h.leaves.keep tc,h.len,fun p hp=>let⟨g,h1,h2⟩:=h.forests p hp;⟨g,h1,h2.keep tc id⟩⟩
structure ViewFar (k:Nat) (w:World) (bv bi B t mr mp:Nat) (e a s r l n lv:Value) (fs:List Value) (b:Bks):Prop where
 blk:k≤bv∧k≤bi∧k≤t∧k≤mr∧k≤mp
 forests:∀(p g:Nat),fs[p]?=some (.pointer (some ⟨g,0,none⟩))→k≤g
 leaves:zae zby 1 (fun g=>k≤g) w lv (zag b.accs)
 books:BooksIs (fun g=>k≤g) w (.agg #[e,a,s,r,l,n]) b
theorem ViewFar.keep {k:Nat} {w w':World} {bv bi B t mr mp:Nat} {e a s r l n lv:Value} {fs:List Value} {b:Bks} (h:ViewFar k w bv bi B t mr mp e a s r l n lv fs b) {F:Nat→Prop} (tc:Tch F w w') (hF:∀g,F g→g<k):ViewFar k w' bv bi B t mr mp e a s r l n lv fs b:=
 ⟨h.blk,h.forests,h.leaves.keepTo tc (fun g _ hg=>⟨fun hf=>by have:=hF g hf;omega,hg⟩),h.books.keepTo tc (fun g _ hg=>⟨fun hf=>by have:=hF g hf;omega,hg⟩)⟩
theorem ViewFar.view {TV TS TF T eR eI:TypeId} {k:Nat} {w w':World} {bv bi B t mr mp:Nat} {e a s r l n lv:Value} {fs:List Value} {b:Bks} {us:List (Ent×Value)} (h:ViewFar k w bv bi B t mr mp e a s r l n lv fs b) (hv:ViewAt TV TS TF T eR eI w bv bi B t mr mp e a s r l n lv fs b us) {F:Nat→Prop} (tc:Tch F w w') (hF:∀g,F g→g<k):∃us',ViewAt TV TS TF T eR eI w' bv bi B t mr mp e a s r l n lv fs b us':=by
 obtain⟨k1,k2,k3,k4,k5⟩:=h.blk;have hlt:=hv.tally.lt;have hf:=h.keep tc hF;obtain⟨e1,a1,s1,r1,l1,n1,us',e0,hb⟩:=(hf.books.keepTo (B':=fun _=>True) (Tch.refl (fun _=>False) _) (fun _ _ _=>⟨id,trivial⟩)).at;injection e0 with e0;injection e0 with e0;simp only[List.cons.injEq,and_true]at e0;obtain⟨rfl,rfl,rfl,rfl,rfl,rfl⟩:=e0;refine⟨us',hv.view.keep tc (fun hf=>by have:=hF _ hf;omega),hv.seen.keep tc (fun hf=>by have:=hF _ hf;omega),hv.tally.keep tc (fun g _ hf=>by have:=hF _ hf;omega),hb,hf.leaves.weak (fun _ _=>trivial),hv.len,fun p hp=>?_⟩;obtain⟨g,h1,h2⟩:=hv.forests p hp;have:=h.forests p g h1;exact⟨g,h1,h2.keep tc (fun hf=>by have:=hF _ hf;omega)⟩
end Go.Gk
namespace Go.Proofs.YtoegobjnjljegaaGreatDoor
open Go.RowKit Go.Gk
abbrev Vw (w:World) (bv bi B t mr mp:Nat) (e a s r l n lv:Value) (fs:List Value) (b:Bks) (us:List (Ent×Value)):Prop:=ViewAt 139 134 176 233 290 3 w bv bi B t mr mp e a s r l n lv fs b us
section
variable {w:World} {bv bi B t mr mp:Nat} {e a s r l n lv:Value} {fs:List Value} {b:Bks} {us:List (Ent×Value)}
theorem zb5 (h:Vw w bv bi B t mr mp e a s r l n lv fs b us):
 Calls Tryz.prog 70 #[.pointer (some ⟨bv,0,none⟩)] w fun x w'=>x=.returned (.bool true)∧w=w':=by
 have q0:=h.view.at0;go_enter Tryz.func70,Tryz.ntmps70;go_wp2;go_ret;exact⟨rfl,rfl⟩
theorem ze3 (h:Vw w bv bi B t mr mp e a s r l n lv fs b us) (c:Rt6):
 Calls Tryz.prog 44 #[.pointer (some ⟨bv,0,none⟩),zcq c] w fun x w'=>x=.returned (iV (za3 c b.ents.length b.accs.length))∧Tf w w':=by
 have HC:=Lib.hid (fun w'=>zt1 c b.ents.length b.accs.length w');obtain⟨c1,c2,c3,c4,c5,c6⟩:=c;unfold zcq at HC⊢;simp only at HC⊢;generalize za3 (c1,c2,c3,c4,c5,c6) b.ents.length b.accs.length=R at *;obtain⟨Ae,ce,rfl,_,_⟩:=h.bks.ents.form;obtain⟨Aa,ca,rfl,_,_⟩:=h.bks.accs.form;have tw:=tal w (.cells #[iV c1,iV c2,iV c3,iV c4,iV c5,iV c6] 31);have hb:=Blk.new w 31 #[iV c1,iV c2,iV c3,iV c4,iV c5,iV c6];have h1:=h.keep tw;have HM:=Lib.hid (zb5 h1);go_enter Tryz.func44,Tryz.ntmps44;go_wp2_with fail;generalize w.alloc (.cells #[iV c1,iV c2,iV c3,iV c4,iV c5,iV c6] 31)=W at *;generalize w.heap.size=z at *;refine HM.out.mono ?_;rintro _ _ ⟨rfl,rfl⟩;clear HM;obtain⟨y0,y1,y2,y3,y4,y5⟩:=hb.w6;have v0:=wc0 h1.view.at0;have v1:=wc0 h1.seen.at1;have v2:=wc0 h1.seen.at2;go_wp2_with fail;refine zai (fun _=>False) [] 19 [] [] ?_ ?_
 ·exact trivial
 intro bef _;iterate 19 (refine zbt ?_;(try simp only[zaw]))
 refine za6 ?_;intro w1 hr hp1 hap;have t1:=(Tch.drew _ W).trans hr;clear hap hp1 hr y0 y1 y2 y3 y4 y5 v0 v1 v2;go_wp2_with fail;refine(HC.out w1).mono ?_;rintro _ w2 ⟨rfl,t2⟩;go_wp2;go_ret;exact⟨rfl,tw.trans (t1.trans t2)⟩
theorem zdx (h:Vw w bv bi B t mr mp e a s r l n lv fs b us) (hn:(zag b.accs).length≤1000) (x:Int):
 Calls Tryz.prog 64 #[.pointer (some ⟨bv,0,none⟩),iV x] w (zgr ((zag b.accs).contains x) w):=by
 have HC:=Lib.hid (zgy h.leaves (by omega) x);have hM:=zb5 h;obtain⟨A,c,rfl,_,_⟩:=h.leaves.form;have v0:=h.view.at0;have v7:=h.seen.at7;generalize(zag b.accs).contains x=R at *;generalize zag b.accs=L at *;go_enter Tryz.func64,Tryz.ntmps64;go_wp2_with fail;refine hM.mono ?_;rintro _ _ ⟨rfl,rfl⟩;clear hM;go_wp2_with fail;refine HC.out.mono ?_;rintro _ w1 ⟨rfl,t1⟩;go_wp2;go_ret;exact⟨rfl,t1⟩
theorem zro (h:Vw w bv bi B t mr mp e a s r l n lv fs b us) (hn:(zay b.entries).length≤10000) (h64:∀p∈zay b.entries,I64 p.2.2.2.2) (xe xa xp xq:Int):
 Calls Tryz.prog 218 #[.pointer (some ⟨bv,0,none⟩),iV xe,iV xa,iV xp,iV xq] w fun x w'=>x=.returned (.tuple #[iV (zda (zcl (zay b.entries) (xe,xa,xp) xq).sum).1,iV (zda (zcl (zay b.entries) (xe,xa,xp) xq).sum).2])∧Tf w w':=by
 have HC:=Lib.hid (zpj h.tally hn h64 xe xa xp xq);generalize zda (zcl (zay b.entries) (xe,xa,xp) xq).sum=R at *;obtain⟨R1,R2⟩:=R;have hM:=zb5 h;have v0:=h.view.at0;have v7:=h.seen.at0;simp only at HC⊢;go_enter Tryz.func218,Tryz.ntmps218;go_wp2_with fail;refine hM.mono ?_;rintro _ _ ⟨rfl,rfl⟩;clear hM;go_wp2_with fail;refine HC.out.mono ?_;rintro _ w1 ⟨rfl,t1⟩;go_wp2;go_ret2
 exact⟨rfl,t1⟩
end
end Go.Proofs.YtoegobjnjljegaaGreatDoor
namespace Go.Gk
open Go.RowKit
def zui (l:List Ent):Bool:=decide (l.length≤30)&&l.all fun x=>decide (x.lines.length≤60)
def zuj (b:Bks):Bool:=decide (b.ents.length≤50)&&decide (b.accs.length≤65)&&decide (b.stakes.length≤20)&&decide (b.rates.length≤60)&&decide (b.locks.length≤60)&&zui b.entries
theorem zwv {b:Bks} (h:zuj b=true):BksFew b:=by
 unfold zuj zui at h;simp only[Bool.and_eq_true,decide_eq_true_eq,List.all_eq_true]at h;obtain⟨⟨⟨⟨⟨h1,h2⟩,h3⟩,h4⟩,h5⟩,h6,h7⟩:=h;exact⟨h1,h2,h3,h4,h5,h6,h7⟩
theorem zww (us:List (Ent×Value)):zui (us.map (·.1))=(decide (us.length≤30)&&us.all fun p=>decide (p.1.lines.length≤60)):=by
 unfold zui;rw[List.length_map,List.all_map];rfl
end Go.Gk
namespace Go.Proofs.YtoegobjnjljegaaGreatDoor
open Go.RowKit Go.Gk
theorem zf9 {w:World} {u v:Value} {l:List Rt6} (hk:zae za2 6 (fun _=>True) w u l) (hl:zae za2 6 (fun _=>True) w v l):
 Calls Tryz.prog 55 #[u,v] w fun x w'=>x=.returned (.bool true)∧Tf w w':=by
 have hk0:=hk;have hl0:=hl;obtain⟨A,c,rfl,hc1,hc2⟩:=hk.form;obtain⟨A',c',rfl,hc1',hc2'⟩:=hl.form;clear hk hl;go_enter Tryz.func55,Tryz.ntmps55;go_wp2_with fail;go_loopw [5] (fun i wr=>∃j:Nat,j≤l.length∧i=.int .i64 j∧Tf w wr) (fun i _=>l.length-(intOf i).toNat)
 case atStart=>exact⟨0,Nat.zero_le _,rfl,Tch.refl _ _⟩
 case round=>
  obtain⟨j,hj,rfl,ht⟩:=hrel;by_cases hlt:j<l.length
  ·have hlt':(j:Int)<(l.length:Int):=by omega
   have hj0:=znn j;obtain⟨g,o,rfl⟩:=hk0.head (by omega);obtain⟨g',o',rfl⟩:=hl0.head (by omega);obtain⟨q0,q1,q2,q3,q4,q5⟩:=Row.six (hk0.keep ht) (fun _=>rfl) hlt rfl;obtain⟨r0,r1,r2,r3,r4,r5⟩:=Row.six (hl0.keep ht) (fun _=>rfl) hlt rfl;clear hk0 hl0;generalize l[j]=x at *;obtain⟨x1,x2,x3,x4,x5,x6⟩:=x;simp only at q0 q1 q2 q3 q4 q5 r0 r1 r2 r3 r4 r5;have hcmp:∀w':World,(binOp .neq 31 (.agg #[iV x1,iV x2,iV x3,iV x4,iV x5,iV x6]) (.agg #[iV x1,iV x2,iV x3,iV x4,iV x5,iV x6])).run Tryz.prog w'=.ok (.bool false) w':=fun w'=>by rw[zri];simp
   go_wp2_with fail;go_quiet (fail)
   rename_i nq
   have t4:Tf wr (wr.drewN nq):=Tch.drewN _ _ _;have ht:=ht.trans t4;clear q0 q1 q2 q3 q4 q5 r0 r1 r2 r3 r4 r5;generalize wr.drewN nq=w4 at *;go_wp2;go_roundw
   case rel=>exact⟨j+1,by omega,by go_num,ht⟩
   case measure=>simp[intOf];omega
  ·obtain rfl:l.length=j:=by omega
   go_wp2;go_ret;exact⟨rfl,ht⟩
theorem zwx {w:World} {v:Value} {us:List (Ent×Value)} (hu:EntsIs w v us):
 Calls Tryz.prog 116 #[v] w fun x w'=>x=.returned (.bool (zui (us.map (·.1))))∧w=w':=by
 rw[zww];obtain⟨A,c,rfl,hc1,hc2⟩:=hu.row.form
 obtain⟨m,hm⟩:∃m,(decide (us.length≤30)&&us.all fun p=>decide (p.1.lines.length≤60))=m:=⟨_,rfl⟩
 rw[hm];have HM:=Lib.hid hm;clear hm;go_enter Tryz.func116,Tryz.ntmps116;by_cases hn:us.length≤30
 rotate_left
 ·obtain rfl:m=false:=by rw[←HM.out];simp[hn]
  have hn':¬(us.length:Int)≤30:=by omega
  have hn2:(30:Int)<(us.length:Int):=by omega
  clear HM hn;go_wp2;go_ret;exact⟨rfl,rfl⟩
 have hn':(us.length:Int)≤30:=by omega
 have hn2:¬(30:Int)<(us.length:Int):=by omega
 go_wp2_with fail;go_loopw [3] (fun i wr=>∃j:Nat,j≤us.length∧i=.int .i64 j∧w=wr∧(us.take j).all (fun p=>decide (p.1.lines.length≤60))=true) (fun i _=>us.length-(intOf i).toNat)
 case atStart=>exact⟨0,Nat.zero_le _,rfl,rfl,rfl⟩
 case round=>
  obtain⟨j,hj,rfl,rfl,hx⟩:=hrel;have HX:=Lib.hid hx;clear hx;by_cases hlt:j<us.length
  ·have hlt':(j:Int)<(us.length:Int):=by omega
   have hj0:=znn j;obtain⟨g,o,rfl⟩:=hu.row.head (by omega);obtain⟨q0,q1,q2⟩:=Row.three hu.row zc6 hlt rfl;have hL:=hu.lines us[j] (List.getElem_mem _);have HS:=Lib.hid (zek (p:=fun p:Ent×Value=>decide (p.1.lines.length≤60)) hlt);have HN:=Lib.hid (fun h=>zs3 (p:=fun p:Ent×Value=>decide (p.1.lines.length≤60)) hlt h);clear hu;generalize us[j]=x at *;obtain⟨⟨yp,yr,yl⟩,yv⟩:=x;simp only at q0 q1 q2 hL HS HN;obtain⟨A',c',rfl,_,_⟩:=hL.form;by_cases h60:yl.length≤60
   ·have h1:(yl.length:Int)≤60:=by omega
    have h2:¬(60:Int)<(yl.length:Int):=by omega
    have HS:=Lib.hid (show(us.take (j+1)).all (fun p=>decide (p.1.lines.length≤60))=true by rw[HS.out,HX.out];simp[h60]);go_wp2;go_roundw
    case rel=>exact⟨j+1,by omega,by go_num,by trivial,HS.out⟩
    case measure=>simp[intOf];omega
   ·have h1:¬(yl.length:Int)≤60:=by omega
    have h2:(60:Int)<(yl.length:Int):=by omega
    obtain rfl:m=false:=by rw[←HM.out,HN.out (by simp[h60])];simp
    clear HM;go_wp2;go_ret;exact⟨rfl,rfl⟩
  ·obtain rfl:us.length=j:=by omega
   rw[List.take_length]at HX;obtain rfl:m=true:=by rw[←HM.out,HX.out];simp[hn]
   clear HM HX;go_wp2;go_ret;exact⟨rfl,rfl⟩
theorem zwy {w:World} {e a s r l n:Value} {b:Bks} {us:List (Ent×Value)} (h:BksAt w e a s r l n b us):
 Calls Tryz.prog 50 #[.agg #[e,a,s,r,l,n]] w fun x w'=>x=.returned (.bool (zuj b))∧Tf w w':=by
 have tw:=tal w (.cells #[e,a,s,r,l,n] 29);have HF:=Lib.hid (zwx (h.keep tw).ent);have hM:=h.map;rw[hM]at HF
 obtain⟨m,hm⟩:∃m,zuj b=m:=⟨_,rfl⟩
 rw[hm];unfold zuj at hm;generalize zui b.entries=k at *;have HM:=Lib.hid hm;obtain⟨Ae,ce,rfl,_,_⟩:=h.ents.form;obtain⟨Aa,ca,rfl,_,_⟩:=h.accs.form;obtain⟨As,cs,rfl,_,_⟩:=h.stakes.form;obtain⟨Ar,cr,rfl,_,_⟩:=h.rates.form;obtain⟨Al,cl,rfl,_,_⟩:=h.locks.form;obtain⟨An,cn,rfl,_,_⟩:=h.ent.row.form;clear h hm hM;generalize b.ents.length=n1 at *;generalize b.accs.length=n2 at *;generalize b.stakes.length=n3 at *;generalize b.rates.length=n4 at *;generalize b.locks.length=n5 at *;go_enter Tryz.func50,Tryz.ntmps50;by_cases h0:n1≤50
 rotate_left
 ·obtain rfl:m=false:=by rw[←HM.out];simp[h0]
  have g0:¬(n1:Int)≤50:=by omega
  clear HM HF h0;go_wp2;go_ret;exact⟨rfl,tw⟩
 have g0:(n1:Int)≤50:=by omega
 by_cases h1:n2≤65
 rotate_left
 ·obtain rfl:m=false:=by rw[←HM.out];simp[h1]
  have g1:¬(n2:Int)≤65:=by omega
  clear HM HF h1;go_wp2;go_ret;exact⟨rfl,tw⟩
 have g1:(n2:Int)≤65:=by omega
 by_cases h2:n3≤20
 rotate_left
 ·obtain rfl:m=false:=by rw[←HM.out];simp[h2]
  have g2:¬(n3:Int)≤20:=by omega
  clear HM HF h2;go_wp2;go_ret;exact⟨rfl,tw⟩
 have g2:(n3:Int)≤20:=by omega
 by_cases h3:n4≤60
 rotate_left
 ·obtain rfl:m=false:=by rw[←HM.out];simp[h3]
  have g3:¬(n4:Int)≤60:=by omega
  clear HM HF h3;go_wp2;go_ret;exact⟨rfl,tw⟩
 have g3:(n4:Int)≤60:=by omega
 by_cases h4:n5≤60
 rotate_left
 ·obtain rfl:m=false:=by rw[←HM.out];simp[h4]
  have g4:¬(n5:Int)≤60:=by omega
  clear HM HF h4;go_wp2;go_ret;exact⟨rfl,tw⟩
 have g4:(n5:Int)≤60:=by omega
 obtain rfl:m=k:=by rw[←HM.out];simp[h0,h1,h2,h3,h4]
 clear HM h0 h1 h2 h3 h4;go_wp2_with fail;refine HF.out.mono ?_;rintro _ _ ⟨rfl,rfl⟩;clear HF;go_wp2;go_ret;exact⟨rfl,tw⟩
open Go.RowKit Go.Gk
theorem zuk (n:Int) (w:World):
 Calls Tryz.prog 196 #[iV n] w fun e w'=>e=.returned (.bool (Gk.zh1 n))∧w=w':=by
 unfold Gk.zh1;by_cases h:1≤n
 ·rw[decide_eq_true h,Bool.true_and];go_enter Tryz.func196,Tryz.ntmps196;go_wp2;go_ret;exact⟨rfl,rfl⟩
 ·rw[decide_eq_false h,Bool.false_and];go_enter Tryz.func196,Tryz.ntmps196;go_wp2;go_ret;exact⟨rfl,rfl⟩
theorem zul (n:Int) (w:World):
 Calls Tryz.prog 195 #[iV n] w fun e w'=>e=.returned (.bool (!Gk.zh1 n))∧w=w':=by
 have h:=zuk n w;generalize Gk.zh1 n=b at *;go_enter Tryz.func195,Tryz.ntmps195;go_wp2_with fail;refine h.mono ?_;rintro _ _ ⟨rfl,rfl⟩
 cases b
 ·(go_wp2;go_ret;exact⟨rfl,rfl⟩)
 ·(go_wp2;go_ret;exact⟨rfl,rfl⟩)
theorem znf {w:World} {v:Value} {l:List Int} (hl:zae zby 1 (fun _=>True) w v l) (hn:l.length≤100000) (p:Int→Bool) (g:Nat) (lb:Array Value) (eg:∀args w,(callFunc g args).run Tryz.prog w=.ok (.enter g args) w)
 (hp:∀x w',Tf w w'→Calls Tryz.prog g (#[iV x]++lb) w' (zgr (p x) w')):
 Calls Tryz.prog 197 #[v,.func (.func g) #[] lb] w (zo8 (l.any p) w):=by
 obtain⟨A,c,rfl,hc1,hc2⟩:=hl.form;have HP:=Lib.hid hp;clear hp;go_enter Tryz.func197,Tryz.ntmps197;go_wp2_with fail;go_loopw [8] (fun i wr=>∃j:Nat,j≤l.length∧i=.int .i64 j∧(l.take j).any p=false∧Tf w wr) (fun i _=>l.length-(intOf i).toNat)
 case atStart=>exact⟨0,Nat.zero_le _,rfl,rfl,Tch.refl _ _⟩
 case round=>
  obtain⟨j,hj,rfl,h2,ht⟩:=hrel;have H2:=Lib.hid h2;clear h2;by_cases hlt:j<l.length
  ·obtain⟨g',o,rfl⟩:=hl.head (by omega);have q:=Row.elem zap (hl.keep ht) hlt (j:=0) (by decide) (u:=iV l[j]) rfl;have q:wr.cell? ⟨g',o+j,none⟩=some (iV l[j]):=by simpa using q
   have hs:=zcx (p:=p) hlt;have hy:=fun h=>zjh (p:=p) hlt h
   have HC:=Lib.hid (HP.out l[j] wr ht);have HS:=Lib.hid hs;have HY:=Lib.hid hy;clear hs hy;generalize l[j]=x at *;have hlt':(j:Int)<(l.length:Int):=by omega
   have hj0:=znn j;go_wp2_with fail;refine HC.out.mono ?_;rintro _ w2 ⟨rfl,t2⟩;clear HC
   cases hb:p x
   ·rw[hb]at HS;clear hb HY;go_wp2;go_roundw
    case rel=>exact⟨j+1,by omega,by go_num,by rw[HS.out,H2.out];rfl,ht.trans t2⟩
    case measure=>simp[intOf];omega
   ·have hy:=HY.out hb;clear hb HY;go_wp2;go_ret;exact⟨j,rfl,by omega,by omega,by rw[hy];simp,ht.trans t2⟩
  ·obtain rfl:l.length=j:=by omega
   rw[List.take_length]at H2;go_wp2;go_ret;exact⟨-1,rfl,by omega,by omega,by rw[H2.out];rfl,ht⟩
theorem zpk {w:World} {v:Value} {l:List Int} (hl:zae zby 1 (fun _=>True) w v l) (hn:l.length≤100000):
 Calls Tryz.prog 123 #[v] w (RetAt (zj0 l) w):=by
 have hi:=znf hl hn (fun c=>!Gk.zh1 c) 195 #[] (enters_of Tryz.func195 (by kernel_rfl) rfl) (fun x w' t=>(zul x w').mono (by rintro _ _ ⟨rfl,rfl⟩;exact⟨rfl,Tch.refl _ _⟩));have hb:(l.any fun c=>!Gk.zh1 c)=!l.all Gk.zh1:=by rw[List.not_all_eq_any_not]
 rw[hb]at hi;unfold zj0;generalize l.all Gk.zh1=b at *;clear hb;obtain⟨A,c,rfl,hc1,hc2⟩:=hl.form;have HI:=Lib.hid hi;clear hi;by_cases hle:l.length≤40
 ·rw[decide_eq_true hle,Bool.true_and];have hle':(l.length:Int)≤40:=by omega
  go_enter Tryz.func123,Tryz.ntmps123;go_wp2_with fail;refine HI.out.mono ?_;rintro _ w1 ⟨i,rfl,h1,h2,h3,t⟩;clear HI
  cases b
  ·have h0:0≤i:=by simpa using h3
   clear h3;go_wp2;go_ret2
   exact⟨_,23,rfl,rfl,t⟩
  ·have h0:i<0:=by simpa using h3
   clear h3;go_wp2;go_ret2
   exact⟨_,0,rfl,rfl,t⟩
 ·rw[decide_eq_false hle,Bool.false_and];have hle':40<(l.length:Int):=by omega
  go_enter Tryz.func123,Tryz.ntmps123;go_wp2;go_ret2
  exact⟨_,3,rfl,rfl,Tch.refl _ _⟩
