/-
  The room's wide numbers: a row taken up, a row taken down.
-/
import Derived.Test.YtoegobjnjljegaaGreatDoorZ8
import Derived.Test.YtoegobjnjljegaaGreatDoorZ5
import Derived.Test.YtoegobjnjljegaaGreatDoorShelf
set_option maxRecDepth 100000
set_option maxHeartbeats 1600000
namespace Go.Proofs.YtoegobjnjljegaaGreatDoor
open Go.RowKit Go.Gk
theorem each_up {w:World} {v:Value} {l:List Int} {y:Int} {s:Nat} (hl:zae zby 1 (fun g=>g≠s) w v l) (h64:zwa l) (hs:Blk w s 303 (zd7 y)):
 Calls Tryz.prog 231 #[v,.func (.func 233) #[] #[.pointer (some ⟨s,0,none⟩)],.pointer (some ⟨s,0,none⟩)] w fun e w'=>e=.returned (.tuple #[])∧Blk w' s 303 (zd7 (y+l.sum))∧Tch (fun g=>g=s) w w':=by
 obtain⟨A,c,rfl,hc1,hc2⟩:=hl.form;have H64:=Hid.out (p:=Hid _) h64;clear h64;go_enter Tryz.func231,Tryz.ntmps231;go_wp2_with fail;go_loopw [9] (fun i wr=>∃j:Nat,j≤l.length∧i=.int .i64 j∧Blk wr s 303 (zd7 (y+(l.take j).sum))∧Tch (fun g=>g=s) w wr) (fun i _=>l.length-(intOf i).toNat)
 case atStart=>exact⟨0,Nat.zero_le _,rfl,by simpa using hs,Tch.refl _ _⟩
 case round=>
  obtain⟨j,hj,rfl,h2,ht⟩:=hrel;by_cases hlt:j<l.length
  ·obtain⟨g,o,rfl⟩:=hl.head (by omega);have q:=Row.elem zap (Row.keepTo (P':=fun _=>True) hl ht (fun g hg hb=>⟨hb,trivial⟩)) hlt (j:=0) (by decide) (u:=iV l[j]) rfl;have q:wr.cell? ⟨g,o+j,none⟩=some (iV l[j]):=by simpa using q
   have hx:=H64.out l[j] (List.getElem_mem _);have hst:=zky hlt;generalize l[j]=x at *;have HST:=Hid.out (p:=Hid _) hst;have hlt':(j:Int)<(l.length:Int):=by omega
   have hj0:=znn j;have hW:=zkw hx.1 hx.2 wr;have hU:=fun(w':World) (t:Tf wr w')=>up_any x (y+(l.take j).sum) (h2.keep t id)
   have HU:=Hid.out (p:=Hid _) hU;clear hU hx hst hlt;unfold wd at hW;go_wp2_with fail;refine hW.mono ?_;rintro e w2 ⟨rfl,t2⟩;have hU:=HU.out w2 t2;unfold wd at hU;clear hW;go_wp2_with fail;refine hU.mono ?_;rintro e w3 ⟨rfl,t3⟩;have h3:=(h2.keep t2 id).keep t3 id;have tt:=ht.trans ((t2.trans t3).mono (fun _ _ h=>h.elim));unfold zd7 at h3;have r0:=h3.frozen 0;have r1:=h3.frozen 1;obtain⟨r2,r3⟩:=h3.f2;have e4:y+(l.take j).sum+x=y+(l.take (j+1)).sum:=by have:=HST.out;omega
   rw[e4];generalize hv:y+(l.take (j+1)).sum=v at *;have t4:=Tch.two w3 s (.int .u64 (v/18446744073709551616%18446744073709551616)) (.int .u64 (v%18446744073709551616));have hbF:=(h3.set_ 0 (.int .u64 (v/18446744073709551616%18446744073709551616))).set_ 1 (.int .u64 (v%18446744073709551616));simp only[List.setIfInBounds_toArray,List.set_cons_succ,List.set_cons_zero]at hbF;have HV:=Hid.out (p:=Hid _) hv;clear hv hU t2 t3 h2;go_wp2;go_roundw
   case rel=>exact⟨j+1,by omega,by go_num,by rw[HV.out];exact hbF,tt.trans t4⟩
   case measure=>simp[intOf];omega
  ·obtain rfl:l.length=j:=by omega
   rw[List.take_length]at h2;go_wp2;exact bodyPost_end (results_none rfl _ _ _) rfl ⟨rfl,h2,ht⟩
theorem zvx {w:World} {v:Value} {l:List Int} {y:Int} {s:Nat} (hl:zae zby 1 (fun g=>g≠s) w v l) (h64:zwa l) (hs:Blk w s 303 (zd7 y)):
 Calls Tryz.prog 231 #[v,.func (.func 235) #[] #[.pointer (some ⟨s,0,none⟩)],.pointer (some ⟨s,0,none⟩)] w fun e w'=>e=.returned (.tuple #[])∧Blk w' s 303 (zd7 (y-l.sum))∧Tch (fun g=>g=s) w w':=by
 obtain⟨A,c,rfl,hc1,hc2⟩:=hl.form;have H64:=Hid.out (p:=Hid _) h64;clear h64;go_enter Tryz.func231,Tryz.ntmps231;go_wp2_with fail;go_loopw [9] (fun i wr=>∃j:Nat,j≤l.length∧i=.int .i64 j∧Blk wr s 303 (zd7 (y-(l.take j).sum))∧Tch (fun g=>g=s) w wr) (fun i _=>l.length-(intOf i).toNat)
 case atStart=>exact⟨0,Nat.zero_le _,rfl,by simpa using hs,Tch.refl _ _⟩
 case round=>
  obtain⟨j,hj,rfl,h2,ht⟩:=hrel;by_cases hlt:j<l.length
  ·obtain⟨g,o,rfl⟩:=hl.head (by omega);have q:=Row.elem zap (Row.keepTo (P':=fun _=>True) hl ht (fun g hg hb=>⟨hb,trivial⟩)) hlt (j:=0) (by decide) (u:=iV l[j]) rfl;have q:wr.cell? ⟨g,o+j,none⟩=some (iV l[j]):=by simpa using q
   have hx:=H64.out l[j] (List.getElem_mem _);have hst:=zky hlt;generalize l[j]=x at *;have HST:=Hid.out (p:=Hid _) hst;have hlt':(j:Int)<(l.length:Int):=by omega
   have hj0:=znn j;have hW:=zkw hx.1 hx.2 wr;have hU:=fun(w':World) (t:Tf wr w')=>down_any x (y-(l.take j).sum) (h2.keep t id)
   have HU:=Hid.out (p:=Hid _) hU;clear hU hx hst hlt;unfold wd at hW;go_wp2_with fail;refine hW.mono ?_;rintro e w2 ⟨rfl,t2⟩;have hU:=HU.out w2 t2;unfold wd at hU;clear hW;go_wp2_with fail;refine hU.mono ?_;rintro e w3 ⟨rfl,t3⟩;have h3:=(h2.keep t2 id).keep t3 id;have tt:=ht.trans ((t2.trans t3).mono (fun _ _ h=>h.elim));unfold zd7 at h3;have r0:=h3.frozen 0;have r1:=h3.frozen 1;obtain⟨r2,r3⟩:=h3.f2;have e4:y-(l.take j).sum-x=y-(l.take (j+1)).sum:=by have:=HST.out;omega
   rw[e4];generalize hv:y-(l.take (j+1)).sum=v at *;have t4:=Tch.two w3 s (.int .u64 (v/18446744073709551616%18446744073709551616)) (.int .u64 (v%18446744073709551616));have hbF:=(h3.set_ 0 (.int .u64 (v/18446744073709551616%18446744073709551616))).set_ 1 (.int .u64 (v%18446744073709551616));simp only[List.setIfInBounds_toArray,List.set_cons_succ,List.set_cons_zero]at hbF;have HV:=Hid.out (p:=Hid _) hv;clear hv hU t2 t3 h2;go_wp2;go_roundw
   case rel=>exact⟨j+1,by omega,by go_num,by rw[HV.out];exact hbF,tt.trans t4⟩
   case measure=>simp[intOf];omega
  ·obtain rfl:l.length=j:=by omega
   rw[List.take_length]at h2;go_wp2;exact bodyPost_end (results_none rfl _ _ _) rfl ⟨rfl,h2,ht⟩
open Go.RowKit Go.Gk
theorem numnet_big {w:World} {u v:Value} {k l:List Int} (hk:zae zby 1 (fun _=>True) w u k) (hl:zae zby 1 (fun _=>True) w v l) (k64:zwa k) (l64:zwa l) (nk:k.length≤1000000) (nl:l.length≤1000000):
 Calls Tryz.prog 164 #[u,v] w fun e w'=>e=.returned (zex (k.sum-l.sum))∧Tf w w':=by
 have bk:=zfu k64 k.length (Nat.le_refl _);have bl:=zfu l64 l.length (Nat.le_refl _);rw[List.take_length]at bk bl;have hq:=fun w'=>wint_any (x:=0+k.sum-l.sum) (by omega) (by omega) w'
 rw[Int.zero_add]at hq;obtain⟨n,q,eq⟩:=zdu (k.sum-l.sum);rw[eq]at hq⊢;have hb:=Blk.new w 303 (zd7 0);have tw:=tal w (.cells (zd7 0) 303);have hU:=each_up (y:=0) (hk.keepTo (P':=fun g=>g≠w.heap.size) tw (fun g hg _=>⟨id,by omega⟩)) k64 hb;have hD:=fun(w':World) (t:Tch (fun g=>g=w.heap.size) w w') (h:Blk w' w.heap.size 303 (zd7 (0+k.sum)))=>zvx (y:=0+k.sum) (hl.keepTo (P':=fun g=>g≠w.heap.size) t (fun g hg _=>⟨by omega,by omega⟩)) l64 h
 rw[Int.zero_add]at hU hD;have HQ:=Hid.out (p:=Hid _) hq;have HD:=Hid.out (p:=Hid _) hD;clear hq hD bk bl eq;rw[show zd7 0= #[.int .u64 0,.int .u64 0]from rfl]at hU hb tw;obtain⟨A,c,rfl,_,_⟩:=hk.form;obtain⟨A',c',rfl,_,_⟩:=hl.form;go_enter Tryz.func164,Tryz.ntmps164;go_wp2_with fail;refine hU.mono ?_;rintro e w1 ⟨rfl,h1,t1⟩;have hD:=HD.out w1 ((tw.mono (fun _ _ h=>h.elim)).trans t1) h1;clear hU h1;go_wp2_with fail;refine hD.mono ?_;rintro e w2 ⟨rfl,h2,t2⟩;have hQ:=HQ.out w2;unfold wd at hQ;unfold zd7 at h2;obtain⟨r0,r1⟩:=h2.f2;clear hD;go_wp2_with fail;refine hQ.mono ?_;rintro e w3 ⟨rfl,t3⟩;have tt:=(tw.trans' (t1.trans t2) (fun g h=>.inr (by omega))).trans t3;clear hQ;go_wp2;go_ret2
 exact⟨rfl,tt⟩
theorem ztz {w:World} {u v:Value} {k l:List Int} (hk:zae zby 1 (fun _=>True) w u k) (hl:zae zby 1 (fun _=>True) w v l) (k64:zwa k) (l64:zwa l) (nk:k.length≤10000) (nl:l.length≤10000):
 Calls Tryz.prog 164 #[u,v] w fun e w'=>e=.returned (zex (k.sum-l.sum))∧Tf w w':=numnet_big hk hl k64 l64 (by omega) (by omega)
open Go.RowKit Go.Gk
theorem zm4 {w:World} {u:Value} {k:List Int} (hk:zae zby 1 (fun _=>True) w u k) (k64:zwa k) (nk:k.length≤10000):
 Calls Tryz.prog 318 #[u] w fun e w'=>e=.returned (zex k.sum)∧Tf w w':=by
 have hN:=ztz (l:=[]) hk (Row.nil _ _ _:zae zby 1 (fun _=>True) w (.slice none 0 0) []) k64 (fun _ h=>absurd h (by simp)) nk (Nat.zero_le _);rw[List.sum_nil,Int.sub_zero]at hN;obtain⟨n,q,eq⟩:=zdu k.sum;rw[eq]at hN⊢;obtain⟨A,c,rfl,_,_⟩:=hk.form;clear eq hk;go_enter Tryz.func318,Tryz.ntmps318;go_wp2_with fail;refine hN.mono ?_;rintro e w3 ⟨rfl,t3⟩;clear hN;go_wp2;go_ret2
 exact⟨rfl,t3⟩
open Go.RowKit Go.Gk
theorem zer (n lo hi:Int) (w:World):
 Calls Tryz.prog 244 #[iV n,iV lo,iV hi] w fun e w'=>e=.returned (.bool (decide (lo≤n)&&decide (n≤hi)))∧w=w':=by
 by_cases h:lo≤n
 ·rw[decide_eq_true h,Bool.true_and];go_enter Tryz.func244,Tryz.ntmps244;go_wp2;go_ret;exact⟨rfl,rfl⟩
 ·rw[decide_eq_false h,Bool.false_and];go_enter Tryz.func244,Tryz.ntmps244;go_wp2;go_ret;exact⟨rfl,rfl⟩
open Go.RowKit Go.Gk
def zcq (c:Rt6):Value:=.agg #[iV c.1,iV c.2.1,iV c.2.2.1,iV c.2.2.2.1,iV c.2.2.2.2.1,iV c.2.2.2.2.2]
theorem zt0 (r e a p u q lo hi pt:Int) (w:World) (hlo:(r=1∧lo=0∧hi=0∧pt=40)∨(r=2∧lo=0∧hi=0∧pt=40)∨((r==1)=false∧(r==2)=false∧r≤3∧lo=1∧hi=8∧pt=40)∨((r==1)=false∧(r==2)=false∧¬r≤3∧lo=1∧hi=8∧pt=0)):
 Calls Tryz.prog 177 #[.agg #[iV r,iV e,iV a,iV p,iV u,iV q]] w fun x w'=>x=.returned (iV (if wi r 1 7&&wi e 1 40&&wi a 1 60&&wi p 0 23&&wi u lo hi&&wi q 0 pt&& !(q==e)then 0 else 41))∧Tf w w':=by
 obtain⟨W,hW⟩:∃W,W=w.alloc (.cells #[iV r,iV e,iV a,iV p,iV u,iV q] 31):=⟨_,rfl⟩
 have hb:Blk W w.heap.size 31 #[iV r,iV e,iV a,iV p,iV u,iV q]:=hW▸Blk.new w 31 _;have tw:Tf w W:=hW▸Tch.alloc _ _ _;have hw1:Calls Tryz.prog 244 #[iV r,iV 1,iV 7] W fun x w'=>x=.returned (.bool (wi r 1 7))∧W=w':=zer _ _ _ _
 have hw2:Calls Tryz.prog 244 #[iV e,iV 1,iV 40] W fun x w'=>x=.returned (.bool (wi e 1 40))∧W=w':=zer _ _ _ _
 have hw3:Calls Tryz.prog 244 #[iV a,iV 1,iV 60] W fun x w'=>x=.returned (.bool (wi a 1 60))∧W=w':=zer _ _ _ _
 have hw4:Calls Tryz.prog 244 #[iV p,iV 0,iV 23] W fun x w'=>x=.returned (.bool (wi p 0 23))∧W=w':=zer _ _ _ _
 have hw5:Calls Tryz.prog 244 #[iV u,iV lo,iV hi] W fun x w'=>x=.returned (.bool (wi u lo hi))∧W=w':=zer _ _ _ _
 have hw6:Calls Tryz.prog 244 #[iV q,iV 0,iV pt] W fun x w'=>x=.returned (.bool (wi q 0 pt))∧W=w':=zer _ _ _ _
 generalize wi r 1 7=b1 at *;generalize wi e 1 40=b2 at *;generalize wi a 1 60=b3 at *;generalize wi p 0 23=b4 at *;generalize wi u lo hi=b5 at *;generalize wi q 0 pt=b6 at *;generalize hqe:(q==e)=b7 at *;have HW:=Lib.hid hW;clear hW;rcases hlo with⟨rfl,rfl,rfl,rfl⟩|⟨rfl,rfl,rfl,rfl⟩|⟨g1,g2,g3,rfl,rfl,rfl⟩|⟨g1,g2,g3,rfl,rfl,rfl⟩<;>
 (
  go_enter Tryz.func177,Tryz.ntmps177;go_wp2_with fail;rw[←HW.out];clear HW;obtain⟨q0,q1,q2,q3,q4,q5⟩:=hb.f6;clear hb;refine hw1.mono ?_;rintro _ _ ⟨rfl,rfl⟩;clear hw1
  cases b1
  ·(go_wp2;go_ret;exact⟨rfl,tw⟩)
  go_wp2_with fail;refine hw2.mono ?_;rintro _ _ ⟨rfl,rfl⟩;clear hw2
  cases b2
  ·(go_wp2;go_ret;exact⟨rfl,tw⟩)
  go_wp2_with fail;refine hw3.mono ?_;rintro _ _ ⟨rfl,rfl⟩;clear hw3
  cases b3
  ·(go_wp2;go_ret;exact⟨rfl,tw⟩)
  go_wp2_with fail;refine hw4.mono ?_;rintro _ _ ⟨rfl,rfl⟩;clear hw4
  cases b4
  ·(go_wp2;go_ret;exact⟨rfl,tw⟩)
  go_wp2_with fail;refine hw5.mono ?_;rintro _ _ ⟨rfl,rfl⟩;clear hw5
  cases b5
  ·(go_wp2;go_ret;exact⟨rfl,tw⟩)
  go_wp2_with fail;refine hw6.mono ?_;rintro _ _ ⟨rfl,rfl⟩;clear hw6
  cases b6
  ·(go_wp2;go_ret;exact⟨rfl,tw⟩)
  cases b7
  ·(go_wp2;go_ret;exact⟨rfl,tw⟩)
  ·(go_wp2;go_ret;exact⟨rfl,tw⟩))
end Go.Proofs.YtoegobjnjljegaaGreatDoor
namespace Go.Gk
def zc2 (c:Rt6):Bool:=
 wi c.1 1 7&&wi c.2.1 1 40&&wi c.2.2.1 1 60&&wi c.2.2.2.1 0 23&&wi c.2.2.2.2.1 (if c.1=1∨c.1=2 then 0 else 1) (if c.1=1∨c.1=2 then 0 else 8)&&wi c.2.2.2.2.2 0 (if c.1≤3 then 40 else 0)&& !(c.2.2.2.2.2==c.2.1)
def za3 (c:Rt6) (ne na:Int):Int:=if zc2 c then(if ne<max c.2.1 c.2.2.2.2.2 then 20 else if na<c.2.2.1 then 21 else 0)else 41
end Go.Gk
namespace Go.Proofs.YtoegobjnjljegaaGreatDoor
open Go.RowKit Go.Gk
theorem znw (c:Rt6) (w:World):
 Calls Tryz.prog 177 #[zcq c] w fun x w'=>x=.returned (iV (if zc2 c then 0 else 41))∧Tf w w':=by
 obtain⟨r,e,a,p,u,q⟩:=c;unfold zc2 zcq;refine zt0 r e a p u q _ _ _ w ?_;by_cases h1:r=1
 ·subst h1;refine .inl ⟨rfl,?_,?_,?_⟩<;>simp
 by_cases h2:r=2
 ·subst h2;refine .inr (.inl ⟨rfl,?_,?_,?_⟩)<;>simp
 have h12:¬(r=1∨r=2):=by omega
 by_cases h3:r≤3
 ·refine .inr (.inr (.inl ?_));simp[h1,h2,h3]
 ·refine .inr (.inr (.inr ?_));simp[h1,h2,h3]
theorem zt1 (c:Rt6) (ne na:Int) (w:World):
 Calls Tryz.prog 105 #[zcq c,iV ne,iV na] w fun x w'=>x=.returned (iV (za3 c ne na))∧Tf w w':=by
 have hC:=znw c;obtain⟨r,e,a,p,u,q⟩:=c;unfold za3;unfold zcq at hC⊢;generalize zc2 (r,e,a,p,u,q)=b at *
 obtain⟨m,hm⟩:∃m:Int,(if b=true then(if ne<max e q then 20 else if na<a then 21 else 0)else 41)=m:=⟨_,rfl⟩
 simp only[hm];have HM:=Lib.hid hm;clear hm;have hb:=Blk.new w 31 #[iV r,iV e,iV a,iV p,iV u,iV q];have tw:=tal w (.cells #[iV r,iV e,iV a,iV p,iV u,iV q] 31);have HC:=Lib.hid hC;clear hC;go_enter Tryz.func105,Tryz.ntmps105;go_wp2_with fail;generalize w.alloc (.cells #[iV r,iV e,iV a,iV p,iV u,iV q] 31)=W at *;generalize w.heap.size=z at *;refine(HC.out W).mono ?_;rintro _ w1 ⟨rfl,t1⟩;clear HC;have hb1:=hb.keep t1 id;have q1:=hb1.at1;have q2:=hb1.at2;have q5:=hb1.at5;have tt:=tw.trans t1;clear hb hb1 tw t1
 cases b
 ·obtain rfl:m=41:=by have:=HM.out;simpa using this.symm
  clear HM;go_wp2;go_ret;exact⟨rfl,tt⟩
 ·by_cases h1:ne<max e q
  ·obtain rfl:m=20:=by have:=HM.out;simpa[h1]using this.symm
   clear HM;go_wp2;all_goals(go_ret;exact⟨rfl,tt⟩)
  ·by_cases h2:na<a
   ·obtain rfl:m=21:=by have:=HM.out;simpa[h1,h2]using this.symm
    clear HM;go_wp2;all_goals(go_ret;exact⟨rfl,tt⟩)
   ·obtain rfl:m=0:=by have:=HM.out;simpa[h1,h2]using this.symm
    clear HM;go_wp2;all_goals(go_ret;exact⟨rfl,tt⟩)
end Go.Proofs.YtoegobjnjljegaaGreatDoor
namespace Go.Gk
open Go.RowKit
def zda (x:Int):Int×Int:=if -9223372036854775808≤x∧x≤9223372036854775807 then(x,0)else(0,10)
def zay (l:List Ent):List Pst:=l.flatMap fun x=>x.lines.map fun n=>(x.period,n)
def zcl (ps:List Pst) (s:zgm) (q:Int):List Int:=(ps.filter fun p=>decide (zbd p=s)&&(q==0||p.2.2.2.1==q)).map (·.2.2.2.2)
theorem zoz (s:zgm) (q:Int):∀(ps:List Pst) (i:Nat),((zbq s i ps).filter fun r=>q==0||r.2.1==q).map (·.2.2)=zcl ps s q
 |[],_=>rfl
 |p::r,i=>by
  have ih:=zoz s q r (i+1);unfold zcl at ih⊢;simp only[zbq];by_cases h:zbd p=s
  ·rw[if_pos h];by_cases h2:(q==0||p.2.2.2.1==q)=true
   ·rw[List.filter_cons_of_pos (by simpa using h2),List.map_cons,ih,List.filter_cons_of_pos (by simp only[h,decide_true,Bool.true_and];exact h2),List.map_cons]
   ·rw[List.filter_cons_of_neg (by simpa using h2),ih,List.filter_cons_of_neg (by simp only[h,decide_true,Bool.true_and];exact h2)]
  ·rw[if_neg h,ih,List.filter_cons_of_neg (by simp[h])]
theorem zvy (ps:List Pst) (s:zgm) (q:Int):((zbf ps s).filter fun r=>q==0||r.2.1==q).map (·.2.2)=zcl ps s q:=zoz s q ps 0
abbrev P7:=Int×Int×Pst
def zq2 (x:P7):List Value:=[iV x.1,iV x.2.1,iV x.2.2.1,iV x.2.2.2.1,iV x.2.2.2.2.1,iV x.2.2.2.2.2.1,iV x.2.2.2.2.2.2]
def zig (i:Nat) (x:Ent):List (Int×Pst):=x.lines.map fun n=>((i:Int)+1,x.period,n)
def zci:Nat→List Ent→List (Int×Pst)
 |_,[]=>[]
 |i,x::r=>zig i x++zci (i+1) r
def zeh (l:List Ent):List (Int×Pst):=zci 0 l
theorem zej:∀(l:List Ent) (i:Nat),(zci i l).map (·.2)=zay l
 |[],_=>rfl
 |x::r,i=>by
  simp only[zci,List.map_append,zej r (i+1)];unfold zay zig;rw[List.flatMap_cons,List.map_map];rfl
theorem zjy (x:Ent):∀(l:List Ent) (i:Nat),zci i (l++[x])=zci i l++zig (i+l.length) x
 |[],i=>by simp[zci]
 |y::r,i=>by
  simp only[List.cons_append,zci,zjy x r (i+1),List.length_cons,List.append_assoc];rw[show i+1+r.length=i+(r.length+1) by omega]
theorem zlb {l:List Ent} {j:Nat} (h:j<l.length):zeh (l.take (j+1))=zeh (l.take j)++zig j l[j]:=by
 unfold zeh;rw[List.take_succ_eq_append_getElem h,zjy,List.length_take,Nat.min_eq_left (Nat.le_of_lt h),Nat.zero_add]
def zsw (ys:List (Int×Pst)):List P7:=ys.zipIdx.map fun y=>((y.2:Int)+1,y.1)
theorem zvz (ys:List (Int×Pst)) (y:Int×Pst):zsw (ys++[y])=zsw ys++[((ys.length:Int)+1,y)]:=by
 unfold zsw;rw[List.zipIdx_append];simp
theorem znx (ys:List (Int×Pst)):(zsw ys).length=ys.length:=by simp[zsw]
theorem num7_map (ys:List (Int×Pst)):(zsw ys).map (·.2)=ys:=by
 unfold zsw;rw[List.map_map];have:((fun x:P7=>x.2)∘fun y:(Int×Pst)×Nat=>((y.2:Int)+1,y.1))=fun y=>y.1:=rfl
 rw[this];exact List.zipIdx_map_fst 0 ys
def zbn (l:List Ent):List P7:=zsw (zeh l)
theorem zbr (l:List Ent):(zbn l).map (·.2.2)=zay l:=by
 have h:=congrArg (List.map fun x:Int×Pst=>x.2) (num7_map (zeh l));rw[List.map_map]at h;exact h.trans (zej l 0)
theorem zd6:∀(l:List Ent) (n:Nat),(∀x∈l,x.lines.length≤n)→(zay l).length≤l.length*n
 |[],_,_=>by simp[zay]
 |x::r,n,h=>by
  have ih:=zd6 r n fun y hy=>h y (List.mem_cons_of_mem _ hy)
  have hx:=h x (List.mem_cons_self ..);unfold zay at ih⊢;rw[List.flatMap_cons,List.length_append,List.length_map,List.length_cons,Nat.add_mul];omega
def zks (l:List zbv) (p:Int) (k i:Nat):List Value:=if 1≤i∧i≤k then[iV (zam l i p),iV (zbb l i p)]else[iV 0,iV 0]
theorem zo0 (l:List zbv) (p:Int) (k:Nat):∀i,(zks l p k i).length=2:=fun i=>by unfold zks;split<;>rfl
def zah (l:List zbv) (n p:Int) (k:Nat):List Value:=iV n::(List.range 41).flatMap (zks l p k)
theorem zlc (l:List zbv) (p:Int) (k:Nat) {i j:Nat} (hi:i<41) (hj:j<2):((List.range 41).flatMap (zks l p k))[i*2+j]?=(zks l p k i)[j]?:=by
 have:=zfp (zo0 l p k) (List.range 41) i (by simpa using hi) j hj;rwa [List.getElem_range]at this
theorem zld (l:List zbv) (p:Int) (k:Nat):((List.range 41).flatMap (zks l p k)).length=82:=by rw[zc5 (zo0 l p k)];simp
theorem zt2 (l:List zbv) (n p:Int) {k:Nat} (hk:k<40):((zah l n p k).set (1+(k+1)*2) (iV (zam l (k+1:Nat) p))).set (1+(k+1)*2+1) (iV (zbb l (k+1:Nat) p))=zah l n p (k+1):=by
 have hm:1+(k+1)*2=(k+1)*2+1:=by omega
 unfold zah;rw[hm,List.set_cons_succ,List.set_cons_succ];congr 1;apply List.ext_getElem?
 intro r;by_cases hr:r<82
 ·obtain⟨i,j,hi,hj,rfl⟩:∃i j,i<41∧j<2∧r=i*2+j:=⟨r/2,r%2,by omega,by omega,by omega⟩
  rw[List.getElem?_set,List.getElem?_set,List.length_set,zld,zlc _ _ _ hi hj,zlc _ _ _ hi hj];by_cases hik:i=k+1
  ·subst hik;rcases(by omega:j=0∨j=1)with rfl|rfl
   ·rw[if_neg (by omega),if_pos (by omega),if_pos (by omega)];unfold zks;rw[if_pos ⟨by omega,by omega⟩];rfl
   ·rw[if_pos (by omega),if_pos (by omega)];unfold zks;rw[if_pos ⟨by omega,by omega⟩];rfl
  ·rw[if_neg (by omega),if_neg (by omega)];unfold zks;by_cases h1:1≤i∧i≤k
   ·rw[if_pos h1,if_pos ⟨h1.1,by omega⟩]
   ·rw[if_neg h1,if_neg (by omega)]
 ·rw[List.getElem?_eq_none (by rw[List.length_set,List.length_set,zld];omega),List.getElem?_eq_none (by rw[zld];omega)]
theorem zo1 (l:List zbv) (n p:Int) {j k r:Nat} (hk:k=j+1) (h40:k<41) (hr:r<2):(zah l n p j)[1+k*2+r]?=some (iV 0):=by
 unfold zah;rw[show 1+k*2+r=(k*2+r)+1 by omega,List.getElem?_cons_succ,zlc l p j h40 hr];unfold zks;rw[if_neg (by omega)];rcases(by omega:r=0∨r=1)with rfl|rfl<;>rfl
structure Rcp where
 base:Int×Int
 plus:List Rt6
 minus:List Rt6
 scaled:Rt6
 rated:Bool
 ratio:Int×Int
 has:Bool
deriving DecidableEq
def Rcp.none:Rcp:=⟨(0,0),[],[],(0,0,0,0,0,0),false,(0,0),false⟩
def z4g (r:Rcp) (p m:Value):Value:=.agg #[iV r.base.1,iV r.base.2,p,m,iV r.scaled.1,iV r.scaled.2.1,iV r.scaled.2.2.1,iV r.scaled.2.2.2.1,iV r.scaled.2.2.2.2.1,iV r.scaled.2.2.2.2.2,.bool r.rated,iV r.ratio.1,iV r.ratio.2,.bool r.has]
def RcpIs (w:World) (v:Value) (r:Rcp):Prop:=∃p m,v=z4g r p m∧zae za2 6 (fun _=>True) w p r.plus∧zae za2 6 (fun _=>True) w m r.minus
theorem RcpIs.keep {w w':World} {v:Value} {r:Rcp} (h:RcpIs w v r) (t:Tf w w'):RcpIs w' v r:=let⟨p,m,h1,h2,h3⟩:=h;⟨p,m,h1,h2.keep t,h3.keep t⟩
def za7 (b:Bks) (c:Rt6) (lo hi:Int):Int:=
 if za3 c b.ents.length b.accs.length=0 then(if c.1<lo∨hi<c.1 then 25 else if zas b.accs c.2.2.1 then 0 else 27)else za3 c b.ents.length b.accs.length
def zbo (c:Rt6):List Rt6:=(if 0<c.2.2.2.1 then[(2,c.2.1,c.2.2.1,c.2.2.2.1-1,0,c.2.2.2.2.2)]else[])++[(1,c.2.1,c.2.2.1,c.2.2.2.1,0,c.2.2.2.2.2)]
def zgn (b:Bks) (c:Rt6):Int×Int:=zda (zcl (zay b.entries) (c.2.1,c.2.2.1,c.2.2.2.1) c.2.2.2.2.2).sum
def zcr (b:Bks) (c:Rt6):Rcp×Int:=
 if za7 b c 1 2=0 then(if c.1=1 then{Rcp.none with base:=zgn b c}else{Rcp.none with plus:=zbo c},0)else(Rcp.none,za7 b c 1 2)
theorem zv0 {b:Bks} {c:Rt6} (h:za7 b c 1 2=0):(c.1=1∨c.1=2)∧c.2.2.2.2.1=0:=by
 unfold za7 at h;by_cases h0:za3 c b.ents.length b.accs.length=0
 ·rw[if_pos h0]at h;by_cases h1:c.1<1∨2<c.1
  ·rw[if_pos h1]at h;cases h
  ·have h12:c.1=1∨c.1=2:=by omega
   refine⟨h12,?_⟩;unfold za3 at h0;by_cases hc:zc2 c=true
   ·unfold zc2 at hc;simp only[Bool.and_eq_true,h12,if_true,wi,decide_eq_true_eq]at hc;omega
   ·rw[if_neg hc]at h0;cases h0
 ·rw[if_neg h0]at h;exact absurd h h0
open Go.RowKit Go.Sort
theorem zle (d:Array Int) (m:Nat):∀j,j<m→d[j]!∈Lib.compactUpTo d m:=fun j=>by
 induction j with
 |zero=>
  intro h;unfold Lib.compactUpTo;exact List.mem_map.2 ⟨0,List.mem_filter.2 ⟨List.mem_range.2 h,by simp[Lib.keeps]⟩,rfl⟩
 |succ j ih=>
  intro h;by_cases hk:Lib.keeps d (j+1)=true
  ·unfold Lib.compactUpTo;exact List.mem_map.2 ⟨j+1,List.mem_filter.2 ⟨List.mem_range.2 h,hk⟩,rfl⟩
  ·have:d[j+1]! =d[j]!:=by simpa[Lib.keeps]using hk
   rw[this];exact ih (by omega)
theorem zlf (zs:List Int) (x:Int):x∈Lib.compact zs↔x∈zs:=by
 unfold Lib.compact;constructor
 ·intro h;unfold Lib.compactUpTo at h;obtain⟨j,hj,rfl⟩:=List.mem_map.1 h;have hj:=List.mem_range.1 (List.mem_filter.1 hj).1;rw[getElem!_pos zs.toArray j (by simpa using hj)];simp
 ·intro h;obtain⟨j,hj,rfl⟩:=List.mem_iff_getElem.1 h;have:=zle zs.toArray zs.length j hj;rwa [getElem!_pos zs.toArray j (by simpa using hj),List.getElem_toArray]at this
theorem Tch.putrow {α:Type} [Inhabited α] (enc:α→Value) (w:World) (n blk off:Nat) (d:Array α) (os:Array Obj):Tch (fun g=>g=blk) w (grow (Sort.putRow enc (Sort.ahead w n) blk off d) os):=by
 refine⟨rfl,rfl,rfl,by simp,fun i hi hn=>?_⟩;rw[heap_grow_old _ _ (by simpa using hi)];show(Sort.putRow enc (Sort.ahead w n) blk off d).heap[i]?=w.heap[i]?;unfold Sort.putRow mapBlock;simp only[heap_ahead,Array.getElem?_modify];rw[if_neg (fun e=>hn e.symm)]
def zsx (w:World) (v:Value) (ys:List Int):Prop:=
 (ys=[]∧∃A c,v=.slice A 0 c∧c≤maxLen∧(A=none→c=0))∨∃g c,v=.slice (some ⟨g,0,none⟩) ys.length c∧ys.length≤c∧c≤maxLen∧g<w.heap.size∧Holds (Value.int .i64) w g 0 ys.toArray
theorem zo2 {w:World} {base:Nat} {e:TypeId} {g n c:Nat} {xs:List Int} (h:w.ownsRow base e 1 (.slice (some ⟨g,0,none⟩) n c) n (xs.flatMap zby)):Holds (Value.int .i64) w g 0 xs.toArray:=by
 intro j hj;have hj:j<xs.length:=by simpa using hj
 rw[Nat.zero_add,getElem!_pos xs.toArray j (by simpa using hj),List.getElem_toArray];refine⟨zk0 h rfl ?_,?_⟩
 ·have:=zfp zap xs j hj 0 (by decide);simpa[zby]using this
 ·rcases h.2 with⟨hv,_⟩|⟨g',cap,cur,hv,_,hg,_⟩
  ·cases hv
  ·injection hv with e1;injection e1 with e1;injection e1 with e1;subst e1;simp[World.frozen?,hg]
end Go.Gk
namespace Go.Proofs.YtoegobjnjljegaaGreatDoor
open Go.RowKit Go.Gk Go.Sort
theorem sort_any {w0 w:World} {v:Value} {xs:List Int} (hO:Outs zby 1 3 w0 w v xs) (hn:xs.length≤100000):
 Calls Tryz.prog 294 #[v] w fun e w'=>e=.returned (.tuple #[])∧∃ys:List Int,ys.length=xs.length∧(∀x,x∈ys↔x∈xs)∧zsx w' v ys∧Tch (fun g=>w0.heap.size≤g) w w':=by
 obtain⟨A,c,rfl,h1,h2⟩:=hO.form;by_cases h0:0<xs.length
 ·obtain⟨g,rfl⟩:=ziq hO.own h0;have hg:=hO.own.lt g rfl;have hH:=zo2 hO.own;refine(Tryz.slices_Sort_int g 0 c xs w hH hg.2 (by omega)).mono ?_;rintro e w' ⟨rfl,n,os,rfl⟩;have hp:(xs.mergeSort fun x y=>decide (x≤y)).Perm xs:=List.mergeSort_perm _ _;refine⟨rfl,_,hp.length_eq,fun x=>hp.mem_iff,.inr ⟨g,c,by rw[hp.length_eq],by rw[hp.length_eq];exact h1,h2,?_,?_⟩,(Tch.putrow _ _ _ _ _ _ _).mono fun i _ e=>?_⟩
  ·show g<(grow _ _).heap.size;simp;omega
  ·refine holds_grow _ _ _ _ _ _ (by simpa using hg.2) ?_;exact holds_putRow _ _ _ _ _ _ (holds_ahead _ _ _ _ _ _ hH) (by simp)
  ·have e:i=g:=e;omega
 ·obtain rfl:xs=[]:=List.eq_nil_of_length_eq_zero (by omega);refine(Tryz.slices_Sort_int_none A c w).mono ?_;rintro e w' ⟨rfl,rfl⟩;exact⟨rfl,[],rfl,fun _=>Iff.rfl,.inl ⟨rfl,A,c,rfl,h2,fun ha=>((Src.own hO.own).nil ha).2⟩,Tch.refl _ _⟩
theorem zq8 {w:World} {v:Value} {ys:List Int} (h:zsx w v ys) (hn:ys.length≤100000) {F:Nat→Prop} (hF:∀g,v.ownBlock=some g→F g):
 Calls Tryz.prog 295 #[v] w fun e w'=>∃u zs,e=.returned u∧zae zby 1 (fun _=>True) w' u zs∧(∀x,x∈zs↔x∈ys)∧zs.length≤ys.length∧Tch F w w':=by
 rcases h with⟨rfl,A,c,rfl,h1,h2⟩|⟨g,c,rfl,h1,h2,hg,hH⟩
 ·refine(Tryz.slices_Compact_int_empty A c w).mono ?_;rintro e w' ⟨rfl,rfl⟩;exact⟨_,[],rfl,⟨A,c,rfl,Nat.zero_le _,h1,rfl,fun ha=>⟨rfl,h2 ha⟩,fun h=>absurd h (by simp)⟩,fun _=>Iff.rfl,Nat.le_refl _,Tch.refl _ _⟩
 ·refine(Tryz.slices_Compact_int g 0 c ys w hH (by omega) h1).mono ?_;rintro e w' ⟨rfl,q,rfl⟩;have hle:=Lib.compact_length_le ys;refine⟨_,Lib.compact ys,rfl,?_,zlf ys,hle,?_⟩
  ·have hcs:((Lib.compact ys++List.replicate (ys.length-(Lib.compact ys).length) 0).toArray).size=ys.toArray.size:=by simp;omega
   refine⟨_,c,rfl,by omega,h2,by simp[zc5 zap],(fun h=>by cases h),fun _=>⟨g,0,rfl,⟨trivial,by simpa using hg⟩,fun j u hu=>?_⟩⟩
   have hj:j<(Lib.compact ys).length:=by
    have:=(List.getElem?_eq_some_iff.1 hu).1;rw[zc5 zap]at this;omega
   have h3:=zfp zap (Lib.compact ys) j hj 0 (by decide);rw[Nat.mul_one,Nat.add_zero]at h3;rw[h3]at hu;have hcell:=cell?_putRow (Value.int .i64) (Sort.ahead w q) g 0 ys.toArray _ (holds_ahead _ _ _ _ _ _ hH) hcs j (by rw[hcs];simp;omega);rw[hcell,getElem!_pos _ j (by rw[hcs];simp;omega),List.getElem_toArray,List.getElem_append_left hj];simpa[zby]using hu
  ·have:=Tch.putrow (Value.int .i64) w q g 0 ((Lib.compact ys++List.replicate (ys.length-(Lib.compact ys).length) 0).toArray) #[];rw[grow_empty]at this;exact this.mono fun i _ e=>e▸hF g rfl
