/-
  The document's: what keys may be.
-/
import Derived.Test.YtnjhfcopphpkpaaGreatDoorZ21
set_option maxRecDepth 100000
set_option maxHeartbeats 6400000
namespace Go.Gk
theorem znj (r e a p u q:Int):zc2 (r,e,a,p,u,q)=true↔(1≤r∧r≤7∧1≤e∧e≤40∧1≤a∧a≤60∧0≤p∧p≤23∧(r≤2→u=0)∧(2<r→1≤u∧u≤8)∧(3<r→q=0)∧0≤q∧q≤40∧q≠e):=by
 unfold zc2;simp only[Bool.and_eq_true,wi,decide_eq_true_eq,Bool.not_eq_true',beq_eq_false_iff_ne];by_cases h1:r=1∨r=2
 ·simp only[h1,if_true];by_cases h3:r≤3
  ·simp only[h3,if_true];omega
  ·omega
 ·simp only[h1,if_false];by_cases h3:r≤3
  ·simp only[h3,if_true];omega
  ·simp only[h3,if_false];omega
end Go.Gk
namespace Go.Proofs.YtnjhfcopphpkpaaGreatDoor
open Go.RowKit Go.Gk
theorem zp9 (c:Rt6) (w:World):
 Calls Tryz.prog 190 #[zcq c] w fun x w'=>x=.returned (iV (if zc2 c then 0 else 41))∧Tf w w':=by
 obtain⟨r,e,a,p,u,q⟩:=c
 obtain⟨m,hm⟩:∃m:Int,(if zc2 (r,e,a,p,u,q)=true then(0:Int)else 41)=m:=⟨_,rfl⟩
 simp only[hm]
 have HM:=Lib.hid (show((1≤r∧r≤7∧1≤e∧e≤40∧1≤a∧a≤60∧0≤p∧p≤23∧(r≤2→u=0)∧(2<r→1≤u∧u≤8)∧(3<r→q=0)∧0≤q∧q≤40∧q≠e)∧m=0)∨(¬(1≤r∧r≤7∧1≤e∧e≤40∧1≤a∧a≤60∧0≤p∧p≤23∧(r≤2→u=0)∧(2<r→1≤u∧u≤8)∧(3<r→q=0)∧0≤q∧q≤40∧q≠e)∧m=41) by
  split at hm
  ·rename_i h;exact .inl ⟨(znj ..).1 h,hm.symm⟩
  ·rename_i h;exact .inr ⟨fun h2=>h ((znj ..).2 h2),hm.symm⟩)
 clear hm;unfold zcq;have hb:=Blk.new w 31 #[iV r,iV e,iV a,iV p,iV u,iV q];have tw:=tal w (.cells #[iV r,iV e,iV a,iV p,iV u,iV q] 31);go_enter Tryz.func190,Tryz.ntmps190;by_cases h0:r<1
 ·obtain rfl:m=41:=by have:=HM.out;omega
  clear HM;go_wp2;go_ret;exact⟨rfl,Tch.alloc _ _ _⟩
 by_cases h1:7<r
 ·obtain rfl:m=41:=by have:=HM.out;omega
  clear HM;go_wp2;go_ret;exact⟨rfl,Tch.alloc _ _ _⟩
 by_cases h2:e<1
 ·obtain rfl:m=41:=by have:=HM.out;omega
  clear HM;go_wp2;go_ret;exact⟨rfl,Tch.alloc _ _ _⟩
 by_cases h3:40<e
 ·obtain rfl:m=41:=by have:=HM.out;omega
  clear HM;go_wp2;go_ret;exact⟨rfl,Tch.alloc _ _ _⟩
 by_cases h4:a<1
 ·obtain rfl:m=41:=by have:=HM.out;omega
  clear HM;go_wp2;go_ret;exact⟨rfl,Tch.alloc _ _ _⟩
 by_cases h5:60<a
 ·obtain rfl:m=41:=by have:=HM.out;omega
  clear HM;go_wp2;go_ret;exact⟨rfl,Tch.alloc _ _ _⟩
 by_cases h6:p<0
 ·obtain rfl:m=41:=by have:=HM.out;omega
  clear HM;go_wp2;go_ret;exact⟨rfl,Tch.alloc _ _ _⟩
 by_cases h7:23<p
 ·obtain rfl:m=41:=by have:=HM.out;omega
  clear HM;go_wp2;go_ret;exact⟨rfl,Tch.alloc _ _ _⟩
 by_cases hr:r≤2
 ·by_cases hu:u=0
  rotate_left
  ·obtain rfl:m=41:=by have:=HM.out;omega
   clear HM;go_wp2;go_ret;exact⟨rfl,Tch.alloc _ _ _⟩
  subst hu;have hr3:¬3<r:=by omega
  by_cases g0:q<0
  ·obtain rfl:m=41:=by have:=HM.out;omega
   clear HM;go_wp2;go_ret;exact⟨rfl,Tch.alloc _ _ _⟩
  by_cases g1:40<q
  ·obtain rfl:m=41:=by have:=HM.out;omega
   clear HM;go_wp2;go_ret;exact⟨rfl,Tch.alloc _ _ _⟩
  by_cases g2:q=e
  ·subst g2
   ·obtain rfl:m=41:=by have:=HM.out;omega
    clear HM;go_wp2;go_ret;exact⟨rfl,Tch.alloc _ _ _⟩
  ·obtain rfl:m=0:=by have:=HM.out;omega
   clear HM;go_wp2;go_ret;exact⟨rfl,Tch.alloc _ _ _⟩
 by_cases hu1:u<1
 ·obtain rfl:m=41:=by have:=HM.out;omega
  clear HM;go_wp2;go_ret;exact⟨rfl,Tch.alloc _ _ _⟩
 by_cases hu2:8<u
 ·obtain rfl:m=41:=by have:=HM.out;omega
  clear HM;go_wp2;go_ret;exact⟨rfl,Tch.alloc _ _ _⟩
 by_cases hr3:r≤3
 ·have hr4:¬3<r:=by omega
  by_cases g0:q<0
  ·obtain rfl:m=41:=by have:=HM.out;omega
   clear HM;go_wp2;go_ret;exact⟨rfl,Tch.alloc _ _ _⟩
  by_cases g1:40<q
  ·obtain rfl:m=41:=by have:=HM.out;omega
   clear HM;go_wp2;go_ret;exact⟨rfl,Tch.alloc _ _ _⟩
  by_cases g2:q=e
  ·subst g2
   ·obtain rfl:m=41:=by have:=HM.out;omega
    clear HM;go_wp2;go_ret;exact⟨rfl,Tch.alloc _ _ _⟩
  ·obtain rfl:m=0:=by have:=HM.out;omega
   clear HM;go_wp2;go_ret;exact⟨rfl,Tch.alloc _ _ _⟩
 by_cases hq:q=0
 rotate_left
 ·obtain rfl:m=41:=by have:=HM.out;omega
  clear HM;go_wp2;go_ret;exact⟨rfl,Tch.alloc _ _ _⟩
 subst hq;have h0e:¬0=e:=by omega
 ·obtain rfl:m=0:=by have:=HM.out;omega
  clear HM;go_wp2;go_ret;exact⟨rfl,Tch.alloc _ _ _⟩
theorem zxn (c:Rt6) (ne na:Int) (w:World):
 Calls Tryz.prog 105 #[zcq c,iV ne,iV na] w fun x w'=>x=.returned (iV (za3 c ne na))∧Tf w w':=by
 have hC:=zp9 c;obtain⟨r,e,a,p,u,q⟩:=c;unfold za3;unfold zcq at hC⊢;generalize zc2 (r,e,a,p,u,q)=b at *
 obtain⟨m,hm⟩:∃m:Int,(if b=true then(if ne<max e q then 20 else if na<a then 21 else 0)else 41)=m:=⟨_,rfl⟩
 simp only[hm];have HM:=Lib.hid hm;clear hm;have hb:=Blk.new w 31 #[iV r,iV e,iV a,iV p,iV u,iV q];have tw:=tal w (.cells #[iV r,iV e,iV a,iV p,iV u,iV q] 31);have HC:=Lib.hid hC;clear hC;go_enter Tryz.func105,Tryz.ntmps105;go_wp2_with fail;generalize w.alloc (.cells #[iV r,iV e,iV a,iV p,iV u,iV q] 31)=W at *;generalize w.heap.size=z at *;refine(HC.out W).mono ?_;rintro _ w1 ⟨rfl,t1⟩;clear HC;have hb1:=hb.keep t1 id;have q1:=hb1.at1;have q2:=hb1.at2;have q5:=hb1.at5;have tt:=tw.trans t1;clear hb hb1 tw t1
 cases b
 ·obtain rfl:m=41:=by have:=HM.out;simpa using this.symm
  clear HM;go_wp2;go_ret;exact⟨rfl,tt⟩
 ·by_cases h1:ne<max e q
  ·obtain rfl:m=20:=by have:=HM.out;simpa[h1]using this.symm
   clear HM;go_wp2;all_goals(first|(go_ret;exact⟨rfl,tt⟩)|(exfalso;omega))
  ·by_cases h2:na<a
   ·obtain rfl:m=21:=by have:=HM.out;simpa[h1,h2]using this.symm
    clear HM;go_wp2;all_goals(first|(go_ret;exact⟨rfl,tt⟩)|(exfalso;omega))
   ·obtain rfl:m=0:=by have:=HM.out;simpa[h1,h2]using this.symm
    clear HM;go_wp2;all_goals(first|(go_ret;exact⟨rfl,tt⟩)|(exfalso;omega))
theorem zg8 {w:World} {e a s r l n:Value} {b:Bks} {us:List (Ent×Value)} (h:BksAt w e a s r l n b us) (c:Rt6):
 Calls Tryz.prog 39 #[.agg #[e,a,s,r,l,n],zcq c] w fun x w'=>x=.returned (iV (za3 c b.ents.length b.accs.length))∧Tf w w':=by
 have HC:=Lib.hid (fun w'=>zxn c b.ents.length b.accs.length w');obtain⟨c1,c2,c3,c4,c5,c6⟩:=c;unfold zcq at HC⊢;simp only at HC⊢;generalize za3 (c1,c2,c3,c4,c5,c6) b.ents.length b.accs.length=R at *;obtain⟨Ae,ce,rfl,_,_⟩:=h.ents.form;obtain⟨Aa,ca,rfl,_,_⟩:=h.accs.form;obtain⟨As,cs,rfl,_,_⟩:=h.stakes.form;obtain⟨Ar,cr,rfl,_,_⟩:=h.rates.form;obtain⟨Al,cl,rfl,_,_⟩:=h.locks.form;obtain⟨An,cn,rfl,_,_⟩:=h.ent.row.form;have tw:=(tal w (.cells #[.slice Ae b.ents.length ce,.slice Aa b.accs.length ca,.slice As b.stakes.length cs,.slice Ar b.rates.length cr,.slice Al b.locks.length cl,.slice An us.length cn] 29)).trans (tal _ (.cells #[iV c1,iV c2,iV c3,iV c4,iV c5,iV c6] 31));clear h;go_enter Tryz.func39,Tryz.ntmps39;go_wp2_with fail;refine(HC.out _).mono ?_;rintro _ w2 ⟨rfl,t2⟩;go_wp2;go_ret;exact⟨rfl,tw.trans t2⟩
end Go.Proofs.YtnjhfcopphpkpaaGreatDoor
namespace Go.Gk
open Go.RowKit
theorem get_le {zs:List Int} (h:zs.Pairwise (· ≤ ·)) {i j:Nat} (hij:i≤j) (hj:j<zs.length):zs.toArray[i]!≤zs.toArray[j]!:=by
 rw[getElem!_pos _ i (by simp;omega),getElem!_pos _ j (by simpa using hj),List.getElem_toArray,List.getElem_toArray];rcases Nat.lt_or_eq_of_le hij with h1|h1
 ·exact(List.pairwise_iff_getElem.1 h) i j (by omega) hj h1
 ·subst h1;exact Int.le_refl _
theorem zhw {zs:List Int} (h:zs.Pairwise (· ≤ ·)):∀m,m≤zs.length→(Lib.compactUpTo zs.toArray m).Pairwise (· < ·)∧∀x∈Lib.compactUpTo zs.toArray m,0<m∧x≤zs.toArray[m-1]!
 |0,_=>by simp[Lib.compactUpTo]
 |m+1,hm=>by
  obtain⟨ih1,ih2⟩:=zhw h m (by omega);rw[Lib.compactUpTo_succ,Nat.add_sub_cancel];have hle:∀x∈Lib.compactUpTo zs.toArray m,x≤zs.toArray[m]!:=fun x hx=>Int.le_trans (ih2 x hx).2 (get_le h (by omega) (by omega))
  by_cases hk:Lib.keeps zs.toArray m=true
  ·rw[if_pos hk];refine⟨List.pairwise_append.2 ⟨ih1,by simp,fun x hx y hy=>?_⟩,fun x hx=>⟨by omega,?_⟩⟩
   ·rw[List.mem_singleton]at hy;subst hy;obtain⟨h0,h1⟩:=ih2 x hx;have h2:=get_le h (i:=m-1) (j:=m) (by omega) (by omega)
    have h3:zs.toArray[m]!≠zs.toArray[m-1]!:=by
     unfold Lib.keeps at hk;have:=of_decide_eq_true hk;rcases this with h4|h4
     ·omega
     ·exact h4
    omega
   ·rcases List.mem_append.1 hx with h1|h1
    ·exact hle x h1
    ·rw[List.mem_singleton]at h1;rw[h1];exact Int.le_refl _
  ·rw[if_neg hk,List.append_nil];exact⟨ih1,fun x hx=>⟨by omega,hle x hx⟩⟩
theorem zxo (xs:List Int):(xs.mergeSort fun x y=>decide (x≤y)).Pairwise (· ≤ ·):=by
 have:=List.pairwise_mergeSort (le:=fun x y:Int=>decide (x≤y)) (fun a b c h1 h2=>by simp at *;omega) (fun a b=>by simp;omega) xs;exact this.imp fun h=>by simpa using h
def zfa (p r:Int) (x:Rw3):Bool:=decide (r≤p)&&x.2.1 !=0
def zr7 (ps:List Pst) (e a p r:Int):List Int:=((zbf ps (e,a,r)).filter (zfa p r)).map (·.2.1)
def zf1 (ps:List Pst) (e a p:Int):List Int:=(zcd ps e a).flatMap (zr7 ps e a p)
theorem zi6 (s:zgm):∀(ps:List Pst) (i:Nat) (x:Rw3),x∈zbq s i ps→∃p∈ps,zbd p=s∧p.2.2.2.1=x.2.1
 |[],_,_,h=>by simp[zbq]at h
 |p::r,i,x,h=>by
  simp only[zbq]at h;by_cases hp:zbd p=s
  ·rw[if_pos hp]at h;rcases List.mem_cons.1 h with h1|h1
   ·exact⟨p,List.mem_cons_self ..,hp,by rw[h1]⟩
   ·obtain⟨y,hy,h2⟩:=zi6 s r (i+1) x h1;exact⟨y,List.mem_cons_of_mem _ hy,h2⟩
  ·rw[if_neg hp]at h;obtain⟨y,hy,h2⟩:=zi6 s r (i+1) x h;exact⟨y,List.mem_cons_of_mem _ hy,h2⟩
theorem znk (s:zgm):∀(ps:List Pst) (i:Nat) (p:Pst),p∈ps→zbd p=s→∃x∈zbq s i ps,x.2.1=p.2.2.2.1
 |[],_,_,h,_=>by simp at h
 |y::r,i,p,h,hs=>by
  simp only[zbq];rcases List.mem_cons.1 h with h1|h1
  ·subst h1;rw[if_pos hs];exact⟨_,List.mem_cons_self ..,rfl⟩
  ·obtain⟨x,hx,h2⟩:=znk s r (i+1) p h1 hs;by_cases hp:zbd y=s
   ·rw[if_pos hp];exact⟨x,List.mem_cons_of_mem _ hx,h2⟩
   ·rw[if_neg hp];exact⟨x,hx,h2⟩
theorem zu8 (ps:List Pst):∀(n:Nat),∀p∈ps.take n,p.1∈zcd (ps.take n) p.2.1 p.2.2.1:=by
 intro n;induction n with
 |zero=>intro p hp;simp at hp
 |succ n ih=>
  intro p hp;by_cases hn:n<ps.length
  ·rw[List.take_succ_eq_append_getElem hn]at hp⊢;rw[zde];rcases List.mem_append.1 hp with h1|h1
   ·exact List.mem_append.2 (.inl (ih p h1))
   ·rw[List.mem_singleton]at h1;subst h1;by_cases hr:zbf (ps.take n) (zbd ps[n])=[]
    ·rw[if_pos ⟨rfl,hr⟩];exact List.mem_append.2 (.inr (List.mem_singleton.2 rfl))
    ·obtain⟨x,hx⟩:=List.exists_mem_of_ne_nil _ hr;obtain⟨y,hy,h2,_⟩:=zi6 _ _ _ x hx;have h3:=ih y hy;unfold zbd at h2;simp only[Prod.mk.injEq]at h2;obtain⟨e1,e2,e3⟩:=h2;rw[e1,e2,e3]at h3;exact List.mem_append.2 (.inl h3)
  ·rw[List.take_of_length_le (by omega)]at hp⊢;have:=ih p (by rw[List.take_of_length_le (by omega)];exact hp);rwa [List.take_of_length_le (by omega)]at this
theorem ptn_some {ps:List Pst} {e a p q:Int} (h:q∈zf1 ps e a p):q≠0∧∃x∈ps,x.2.1=e∧x.2.2.2.1=q:=by
 unfold zf1 zr7 at h;obtain⟨r,_,h⟩:=List.mem_flatMap.1 h;obtain⟨x,hx,rfl⟩:=List.mem_map.1 h;obtain⟨hx,hf⟩:=List.mem_filter.1 hx;unfold zfa at hf;simp only[Bool.and_eq_true,decide_eq_true_eq,bne_iff_ne]at hf;obtain⟨y,hy,h1,h2⟩:=zi6 _ _ _ x hx;unfold zbd at h1;simp only[Prod.mk.injEq]at h1;exact⟨hf.2,y,hy,h1.1,h2⟩
theorem ok_lines {b:Bks} (h:zba b=true):∀x∈zay b.entries,zgj x.2 b.ents.length b.accs.length=true:=by
 intro x hx;unfold zay at hx;obtain⟨y,hy,hx⟩:=List.mem_flatMap.1 hx;obtain⟨l,hl,rfl⟩:=List.mem_map.1 hx;unfold zba zd8 at h;simp only[Bool.and_eq_true,List.all_eq_true,List.mem_range]at h;obtain⟨i,hi,rfl⟩:=List.mem_iff_getElem.1 hy;have h1:=h.2.2 i hi;unfold zgq at h1;rw[List.getElem?_eq_getElem hi]at h1;simp only[Bool.and_eq_true]at h1;have h2:=h1.1.1;unfold zh5 at h2;simp only[Bool.and_eq_true,List.all_eq_true]at h2;exact h2.1.2 l hl
open Go.RowKit
def zdt (a:Int):Nat→List Acc→List Int
 |_,[]=>[]
 |i,x::r=>(if x.1=a then[(i:Int)+1]else[])++zdt a (i+1) r
theorem znl (a:Int) (x:Acc):∀(l:List Acc) (i:Nat),zdt a i (l++[x])=zdt a i l++(if x.1=a then[((i+l.length:Nat):Int)+1]else[])
 |[],i=>by simp[zdt]
 |y::r,i=>by
  simp only[List.cons_append,zdt,znl a x r (i+1),List.length_cons,List.append_assoc];rw[show i+1+r.length=i+(r.length+1) by omega]
theorem zxp (a:Int) {l:List Acc} {j:Nat} (h:j<l.length):zdt a 0 (l.take (j+1))=zdt a 0 (l.take j)++(if l[j].1=a then[(j:Int)+1]else[]):=by
 rw[List.take_succ_eq_append_getElem h,znl,List.length_take,Nat.min_eq_left (Nat.le_of_lt h),Nat.zero_add]
theorem zqa (a:Int):∀(l:List Acc) (i:Nat),(zdt a i l).length≤l.length
 |[],_=>by simp[zdt]
 |x::r,i=>by
  have:=zqa a r (i+1);simp only[zdt,List.length_append,List.length_cons];split<;>simp <;>omega
theorem znm (a:Int):∀(l:List Acc) (i:Nat),(zdt a i l).length=0↔zm5 l a=false
 |[],_=>by simp[zdt,zm5]
 |x::r,i=>by
  have:=znm a r (i+1);unfold zm5 at this⊢;by_cases h:x.1=a
  ·simp[zdt,h]
  ·have h2:(x.1==a)=false:=by simpa using h
   simp only[zdt,h,if_false,List.nil_append,List.any_cons,h2,Bool.false_or];exact this
end Go.Gk
namespace Go.Proofs.YtnjhfcopphpkpaaGreatDoor
open Go.RowKit Go.Gk
theorem zqb {w:World} {v:Value} {l:List Acc} (hl:zae zfq 4 (fun _=>True) w v l) (a:Int):
 Calls Tryz.prog 107 #[v,iV a] w fun e w'=>e=.returned (.bool (zdb l a))∧w=w':=by
 obtain⟨A,c,rfl,hc1,hc2⟩:=hl.form;clear hl
 obtain⟨m,hm⟩:∃m,zdb l a=m:=⟨_,rfl⟩
 rw[hm];unfold zdb at hm;have HM:=Lib.hid hm;clear hm;go_enter Tryz.func107,Tryz.ntmps107;by_cases h1:1≤a
 ·by_cases h2:a≤l.length
  ·obtain rfl:m=true:=by rw[←HM.out];simp[h1,h2]
   go_wp2;go_ret;exact⟨rfl,rfl⟩
  ·obtain rfl:m=false:=by rw[←HM.out];simp[h1,h2]
   go_wp2;go_ret;exact⟨rfl,rfl⟩
 ·obtain rfl:m=false:=by rw[←HM.out];simp[h1]
  go_wp2;go_ret;exact⟨rfl,rfl⟩
theorem zl8 {w:World} {v:Value} {l:List Acc} (hl:zae zfq 4 (fun _=>True) w v l) (hn:l.length≤100000) (a:Int):
 Calls Tryz.prog 41 #[v,iV a] w fun e w'=>∃u,e=.returned u∧zet w w' u (if zdb l a then zdt a 0 l else[]):=by
 have HI:=Lib.hid (fun w' (tc:Tf w w')=>zqb (hl.keep tc) a);have hrow:=hl;obtain⟨A,c,rfl,hc1,hc2⟩:=hl.form;generalize zdb l a=b at *
 obtain⟨ys,hys⟩:∃ys,(if b then zdt a 0 l else[])=ys:=⟨_,rfl⟩
 rw[hys];have HY:=Lib.hid hys;clear hl hys;go_enter Tryz.func41,Tryz.ntmps41;go_wp2_with fail;go_loopw [5,6] (fun out i wr=>∃(j:Nat) (xs:List Int),j≤l.length∧i=.int .i64 j∧(if b then zdt a 0 (l.take j)else[])=xs∧zet w wr out xs) (fun _ i _=>l.length-(intOf i).toNat)
 case atStart=>exact⟨0,[],Nat.zero_le _,rfl,by cases b<;>rfl,Outs.start _ _ _ (Tch.refl _ _)⟩
 case round=>
  obtain⟨j,xs,hj,rfl,hx,hO⟩:=hrel;obtain⟨O,co,rfl,ho1,ho2⟩:=hO.form
  have hxl:xs.length≤j:=by
   rw[←hx];split
   ·exact Nat.le_trans (zqa _ _ _) (by rw[List.length_take];omega)
   ·simp
  have HX:=Lib.hid hx;clear hx;by_cases hlt:j<l.length
  ·have hlt':(j:Int)<(l.length:Int):=by omega
   have hj0:=znn j;have HC:=Lib.hid (HI.out wr hO.tch)
   have HS:=Lib.hid (show(if b then zdt a 0 (l.take (j+1))else[])=xs++(if b&&decide (l[j].1=a)then[(j:Int)+1]else[]) by
    rw[zxp a hlt,←HX.out]
    cases b<;>simp)
   obtain⟨g,o,rfl⟩:=hrow.head (by omega)
   have q0:wr.cell? ⟨g,o+j*4,none⟩=some (iV l[j].1):=by
    have:=(hrow.keep hO.tch).at (j:=j*4) (u:=iV l[j].1) (by
     have:=zfp (f:=zfq) (size:=4) (fun _=>rfl) l j hlt 0 (by omega)
     simpa[zfq]using this)
    exact this
   generalize l[j].1=y at *;go_wp2_with fail;refine HC.out.mono ?_;rintro _ _ ⟨rfl,rfl⟩;clear HC
   cases b
   ·have HS:=Lib.hid (show(if false=true then zdt a 0 (l.take (j+1))else[])=xs by rw[HS.out];simp);go_wp2;go_roundw
    case rel=>exact⟨j+1,xs,by omega,by go_num,HS.out,hO⟩
    case measure=>simp[intOf];omega
   ·by_cases hya:y=a
    ·have HS:=Lib.hid (show(if true=true then zdt a 0 (l.take (j+1))else[])=xs++[(j:Int)+1] by rw[HS.out];simp[hya]);subst hya;go_wp2_with ((at_builtin;refine apd zaj (hO.own.alloc _) (Go.Gk.Src.one (news:=[iV ((j:Int)+1)]) rfl (fun m9 u9 hu9=>by rw[(Blk.new (wr) 3 #[iV ((j:Int)+1)]).cell m9];simpa using hu9)) (by simp;rfl) ?_;intro v2 w2 ho2 hg2 hl2;have hO2:=hO.step (x:=(j:Int)+1) (Tch.alloc _ _ _) ho2 hg2 hl2;obtain⟨O2,co2,rfl,_,_⟩:=zac ho2));go_roundw
     case rel=>exact⟨j+1,_,by omega,by go_num,HS.out,hO2⟩
     case measure=>simp[intOf];omega
    ·have HS:=Lib.hid (show(if true=true then zdt a 0 (l.take (j+1))else[])=xs by rw[HS.out];simp[hya]);go_wp2;go_roundw
     case rel=>exact⟨j+1,xs,by omega,by go_num,HS.out,hO⟩
     case measure=>simp[intOf];omega
  ·obtain rfl:l.length=j:=by omega
   rw[List.take_length,HY.out]at HX;have e:=HX.out;subst e;go_wp2;go_ret;exact⟨_,rfl,hO⟩
theorem zl9 {w:World} {v:Value} {l:List Acc} (hl:zae zfq 4 (fun _=>True) w v l) (hn:l.length≤100000) (a:Int):
 Calls Tryz.prog 106 #[v,iV a] w fun e w'=>e=.returned (.bool (zas l a))∧Tf w w':=by
 have HI:=Lib.hid (zqb hl a);have HK:=Lib.hid (zl8 hl hn a);obtain⟨A,c,rfl,hc1,hc2⟩:=hl.form
 obtain⟨m,hm⟩:∃m,zas l a=m:=⟨_,rfl⟩
 rw[hm]
 have HM:=Lib.hid (show(zdb l a&&decide ((zdt a 0 l).length=0))=m by
  rw[←hm];unfold zas;congr 1;have:=znm a l 0
  cases hk:zm5 l a
  ·simp[this.2 hk]
  ·rw[hk]at this;simpa using this)
 clear hm;generalize zdb l a=b at *;go_enter Tryz.func106,Tryz.ntmps106;go_wp2_with fail;refine HI.out.mono ?_;rintro _ _ ⟨rfl,rfl⟩;clear HI
 cases b
 ·obtain rfl:m=false:=by rw[←HM.out];rfl
  go_wp2;go_ret;exact⟨rfl,Tch.refl _ _⟩
 ·go_wp2_with fail;refine HK.out.mono ?_;rintro _ w1 ⟨u,rfl,hO⟩;simp only[if_true]at hO;obtain⟨O,co,rfl,ho1,ho2⟩:=hO.form;have t1:=hO.tch;clear HK hO hl;by_cases hk:(zdt a 0 l).length=0
  ·obtain rfl:m=true:=by rw[←HM.out];simp[hk]
   clear HM;generalize(zdt a 0 l).length=k at *;subst hk;go_wp2;go_ret;exact⟨rfl,t1⟩
  ·obtain rfl:m=false:=by rw[←HM.out];simpa using hk
   clear HM;generalize(zdt a 0 l).length=k at *;have hk2:((k:Int)==0)=false:=by simpa using hk
   go_wp2;go_ret;exact⟨rfl,t1⟩
theorem zge {w:World} {e a s r l n:Value} {b:Bks} {us:List (Ent×Value)} (h:BksAt w e a s r l n b us) (hn:b.accs.length≤100000) (x:Int):
 Calls Tryz.prog 40 #[.agg #[e,a,s,r,l,n],iV x] w fun y w'=>y=.returned (.bool (zas b.accs x))∧Tf w w':=by
 have tw:=tal w (.cells #[e,a,s,r,l,n] 29);have HC:=Lib.hid (zl9 (h.keep tw).accs hn x);generalize zas b.accs x=R at *;obtain⟨Ae,ce,rfl,_,_⟩:=h.ents.form;obtain⟨Aa,ca,rfl,_,_⟩:=h.accs.form;obtain⟨As,cs,rfl,_,_⟩:=h.stakes.form;obtain⟨Ar,cr,rfl,_,_⟩:=h.rates.form;obtain⟨Al,cl,rfl,_,_⟩:=h.locks.form;obtain⟨An,cn,rfl,_,_⟩:=h.ent.row.form;clear h;go_enter Tryz.func40,Tryz.ntmps40;go_wp2_with fail;refine HC.out.mono ?_;rintro _ w2 ⟨rfl,t2⟩;go_wp2;go_ret;exact⟨rfl,tw.trans t2⟩
open Go.RowKit Go.Gk
theorem zeroPers (w:World):(zeroValue 22).run Tryz.prog w=.ok (.slice none 0 0) w:=Tryz.zeroValue22 w
open Go.Sort in
theorem zu9 {w0 w:World} {v:Value} {xs:List Int} (hO:Outs zby 1 3 w0 w v xs) (hn:xs.length≤1000000000):
 Calls Tryz.prog 217 #[v] w fun e w'=>e=.returned (.tuple #[])∧zsx w' v (xs.mergeSort fun x y=>decide (x≤y))∧Tch (fun g=>w0.heap.size≤g) w w':=by
 obtain⟨A,c,rfl,h1,h2⟩:=hO.form;by_cases h0:0<xs.length
 ·obtain⟨g,rfl⟩:=ziq hO.own h0;have hg:=hO.own.lt g rfl;have hH:=zo2 hO.own;refine(Tryz.slices_Sort_int g 0 c xs w hH hg.2 (by omega)).mono ?_;rintro e w' ⟨rfl,n,os,rfl⟩;have hp:(xs.mergeSort fun x y=>decide (x≤y)).Perm xs:=List.mergeSort_perm _ _;refine⟨rfl,.inr ⟨g,c,by rw[hp.length_eq],by rw[hp.length_eq];exact h1,h2,?_,?_⟩,(Tch.putrow _ _ _ _ _ _ _).mono fun i _ e=>?_⟩
  ·show g<(grow _ _).heap.size;simp;omega
  ·refine holds_grow _ _ _ _ _ _ (by simpa using hg.2) ?_;exact holds_putRow _ _ _ _ _ _ (holds_ahead _ _ _ _ _ _ hH) (by simp)
  ·have e:i=g:=e;omega
 ·obtain rfl:xs=[]:=List.eq_nil_of_length_eq_zero (by omega);refine(Tryz.slices_Sort_int_none A c w).mono ?_;rintro e w' ⟨rfl,rfl⟩;exact⟨rfl,.inl ⟨by simp,A,c,rfl,h2,fun ha=>((Src.own hO.own).nil ha).2⟩,Tch.refl _ _⟩
open Go.Sort in
theorem zok {w:World} {v:Value} {ys:List Int} (h:zsx w v ys) (hn:ys.length≤1000000000) {F:Nat→Prop} (hF:∀g,v.ownBlock=some g→F g):
 Calls Tryz.prog 142 #[v] w fun e w'=>∃u,e=.returned u∧zae zby 1 F w' u (Lib.compact ys)∧(Lib.compact ys).length≤ys.length∧Tch F w w':=by
 rcases h with⟨rfl,A,c,rfl,h1,h2⟩|⟨g,c,rfl,h1,h2,hg,hH⟩
 ·refine(Tryz.slices_Compact_int_empty A c w).mono ?_;rintro e w' ⟨rfl,rfl⟩;have e0:Lib.compact ([]:List Int)=[]:=rfl;rw[e0];exact⟨_,rfl,⟨A,c,rfl,Nat.zero_le _,h1,rfl,fun ha=>⟨rfl,h2 ha⟩,fun h=>absurd h (by simp)⟩,Nat.le_refl _,Tch.refl _ _⟩
 ·refine(Tryz.slices_Compact_int g 0 c ys w hH (by omega) h1).mono ?_;rintro e w' ⟨rfl,q,rfl⟩;have hle:=Lib.compact_length_le ys;refine⟨_,rfl,?_,hle,?_⟩
  ·have hcs:((Lib.compact ys++List.replicate (ys.length-(Lib.compact ys).length) 0).toArray).size=ys.toArray.size:=by simp;omega
   refine⟨_,c,rfl,by omega,h2,by simp[zc5 zap],(fun h=>by cases h),fun _=>⟨g,0,rfl,⟨hF g rfl,by simpa using hg⟩,fun j u hu=>?_⟩⟩
   have hj:j<(Lib.compact ys).length:=by
    have:=(List.getElem?_eq_some_iff.1 hu).1;rw[zc5 zap]at this;omega
   have h3:=zfp zap (Lib.compact ys) j hj 0 (by decide);rw[Nat.mul_one,Nat.add_zero]at h3;rw[h3]at hu;have hcell:=cell?_putRow (Value.int .i64) (Sort.ahead w q) g 0 ys.toArray _ (holds_ahead _ _ _ _ _ _ hH) hcs j (by rw[hcs];simp;omega);rw[hcell,getElem!_pos _ j (by rw[hcs];simp;omega),List.getElem_toArray,List.getElem_append_left hj];simpa[zby]using hu
  ·have:=Tch.putrow (Value.int .i64) w q g 0 ((Lib.compact ys++List.replicate (ys.length-(Lib.compact ys).length) 0).toArray) #[]
   exact this.mono fun i _ e=>by
    have e:i=g:=e;subst e;exact hF i rfl
theorem zva {w:World} {B t mr mp:Nat} {ps:List Pst} {n:Int} (h:Tly w B t mr mp ps n) (hn:ps.length≤10000) (e a p q:Int):
 Calls Tryz.prog 121 #[.pointer (some ⟨t,0,none⟩),iV e,iV a,iV p,iV q] w fun x w'=>∃u,x=.returned u∧Outs zby 1 3 w w' u (((zbf ps (e,a,p)).filter fun r=>q==0||r.2.1==q).map (·.1)):=by
 have hT:=Lib.hid (zke h hn (e,a,p) q);have HL:=Lib.hid (Nat.le_trans (List.length_filter_le (fun r:Rw3=>q==0||r.2.1==q) _) (zfx ps (e,a,p)));generalize(zbf ps (e,a,p)).filter (fun r=>q==0||r.2.1==q)=l at *;have hl:=HL.out;clear h HL;unfold zez at hT;go_enter Tryz.func121,Tryz.ntmps121;go_wp2_with fail;refine hT.out.mono ?_;rintro _ w1 ⟨u,rfl,hU⟩;clear hT;obtain⟨U,cu,rfl,hu1,hu2⟩:=hU.form;go_wp2_with fail;go_loopw [11,22] (fun out i wr=>∃(j:Nat) (xs:List Int),j≤l.length∧i=.int .i64 j∧(l.take j).map (·.1)=xs∧Outs zby 1 3 w1 wr out xs) (fun _ i _=>l.length-(intOf i).toNat)
 case atStart=>exact⟨0,[],Nat.zero_le _,rfl,rfl,Outs.start _ _ _ (Tch.refl _ _)⟩
 case round=>
  obtain⟨j,xs,hj,rfl,hx,hO⟩:=hrel;obtain⟨O,co,rfl,ho1,ho2⟩:=hO.form;have hxl:xs.length≤j:=by rw[←hx,List.length_map,List.length_take];omega
  have HX:=Lib.hid hx;clear hx;by_cases hlt:j<l.length
  ·have hlt':(j:Int)<(l.length:Int):=by omega
   have hj0:=znn j;obtain⟨g,o,rfl⟩:=hU.row.head (by omega);obtain⟨q0,q1,q2⟩:=Row.three (hU.row.keep hO.tch) zk2 hlt rfl;have HS:=Lib.hid (show(l.take (j+1)).map (·.1)=xs++[l[j].1] by rw[List.take_succ_eq_append_getElem hlt,List.map_append,HX.out];rfl);generalize l[j]=s at *;obtain⟨x,y,m⟩:=s;simp only at q0 q1 q2 HS;have hO:=hO.keep (Tch.alloc _ wr (.cells #[iV x,iV y,iV m] 250));go_wp2_with ((at_builtin;refine apd zaj (hO.own.alloc _) (Go.Gk.Src.one (news:=[iV (x)]) rfl (fun m9 u9 hu9=>by rw[(Blk.new2 (wr) (.cells #[iV x,iV y,iV m] 250) 3 #[iV (x)]).cell m9];simpa using hu9)) (by simp;rfl) ?_;intro v2 w2 ho2 hg2 hl2;have hO2:=hO.step (x:=x) (Tch.alloc _ _ _) ho2 hg2 hl2;obtain⟨O2,co2,rfl,_,_⟩:=zac ho2));go_roundw
   case rel=>exact⟨j+1,_,by omega,by go_num,HS.out,hO2⟩
   case measure=>simp[intOf];omega
  ·obtain rfl:l.length=j:=by omega
   rw[List.take_length]at HX;have tt:=hU.tch;go_wp2;go_ret;rw[HX.out];exact⟨_,rfl,hO.base tt⟩
theorem zvb {w:World} {B t mr mp:Nat} {ps:List Pst} {n:Int} (h:Tly w B t mr mp ps n) (hn:ps.length≤10000) (e a p:Int):
 Calls Tryz.prog 314 #[.pointer (some ⟨t,0,none⟩),iV e,iV a,iV p] w fun x w'=>∃u zs,x=.returned u∧zae zby 1 (fun g=>w.heap.size≤g) w' u zs∧zs.Pairwise (· < ·)∧(∀q,q∈zs↔q∈zf1 ps e a p)∧zs.length≤1000000000∧Tf w w':=by
 have hM:=zh8 h;obtain⟨R,M,ow,m1,m2,f1,f2,o1,o2⟩:=h.ex;have hown:w.ownsRow B 3 1 ((zar M (e,a,0)).getD ze0) (zcd ps e a).length ((zcd ps e a).flatMap zby):=by simpa using f2.at (e,a,0)
 obtain⟨A,c,hv,hc1,hc2,_⟩:=zac hown;rw[hv]at hown;have hlen:=znb ps e a;have hrow:=Row.own (P:=fun _=>True) hown (fun _ _=>trivial);have HV:=Lib.hid hv;have HF:=Lib.hid f1;have HPT:=Lib.hid (show zf1 ps e a p=(zcd ps e a).flatMap (zr7 ps e a p)from rfl);have HRL:=Lib.hid (fun r=>zfx ps (e,a,r));have HPA:=Lib.hid (fun r=>show zr7 ps e a p r=((zbf ps (e,a,r)).filter (zfa p r)).map (·.2.1)from rfl);have hb:=h.blk;obtain⟨q0,q1⟩:=hb.f2;clear f1 f2 o1 o2 hv h hown;generalize zcd ps e a=pers at *;generalize zf1 ps e a p=PT at *
 obtain⟨RF,hRF⟩:∃RF:Int→List Rw3,(fun r=>zbf ps (e,a,r))=RF:=⟨_,rfl⟩
 obtain⟨PF,hPF⟩:∃PF:Int→List Int,zr7 ps e a p=PF:=⟨_,rfl⟩
 have HF2:=Lib.hid (fun r=>show∃A c,(zar R (e,a,r)).getD ze0=.slice A (RF r).length c∧zae zjk 3 (fun _=>True) w (.slice A (RF r).length c) (RF r)∧(RF r).length≤10000 by
  rw[←hRF];have ho:=HF.out (e,a,r);obtain⟨A,c,hv,_,_,_⟩:=zac ho;rw[hv]at ho
  exact⟨A,c,hv,Row.own (P:=fun _=>True) ho (fun _ _=>trivial),Nat.le_trans (HRL.out r) hn⟩)
 have HPA:=Lib.hid (fun r=>show PF r=((RF r).filter (zfa p r)).map (·.2.1) by rw[←hPF,←hRF];exact HPA.out r);have HPT:=Lib.hid (show PT=pers.flatMap PF by rw[←hPF];exact HPT.out);clear hRF hPF HF HRL hb;go_enter Tryz.func314,Tryz.ntmps314;go_wp2_with fail;refine hM.mono ?_;rintro _ _ ⟨rfl,rfl⟩;clear hM;go_wp2_with (refine zh6 rfl _ _ _ false rfl zjn Tryz.underlying173 (zeroPers w) (k:=(e,a,0)) (by rfl) (by rfl) m2.is ?_;refine Hid.out ?_);refine Lib.hid ?_;(try simp only[Bool.false_eq_true,if_false]);rw[show(zar M (e,a,0)).getD (.slice none 0 0)=.slice A pers.length c from HV.out];clear HV m2;go_wp2_with fail;go_loopw [9,26] (fun out i wr=>∃(j:Nat) (xs:List Int),j≤pers.length∧i=.int .i64 j∧(pers.take j).flatMap PF=xs∧xs.length≤j*10000∧Outs zby 1 3 w wr out xs) (fun _ i _=>pers.length-(intOf i).toNat)
 case atStart=>exact⟨0,[],Nat.zero_le _,rfl,rfl,by simp,Outs.start _ _ _ (Tch.refl _ _)⟩
 case round=>
  obtain⟨j,xs,hj,rfl,hx,hxl,hO⟩:=hrel;obtain⟨O,co,rfl,ho1,ho2⟩:=hO.form;have HX:=Lib.hid hx;clear hx;by_cases hlt:j<pers.length
  ·have hlt':(j:Int)<(pers.length:Int):=by omega
   have hj0:=znn j;obtain⟨g,o,rfl⟩:=hrow.head (by omega);have c0:=Row.one (hrow.keep hO.tch) zap hlt rfl;have HS:=Lib.hid (show(pers.take (j+1)).flatMap PF=xs++PF pers[j] by rw[List.take_succ_eq_append_getElem hlt,List.flatMap_append,HX.out];simp);generalize pers[j]=r at *;obtain⟨A2,k2,hv2,hrow2,hl2⟩:=HF2.out r;have HP:=HPA.out r;have HSP:=Lib.hid (show(pers.take (j+1)).flatMap PF=xs++((RF r).filter (zfa p r)).map (·.2.1) by rw[HS.out,HP]);clear HP HS HPA HPT HF2;have HV2:=Lib.hid hv2;clear hv2;have m3:=m1.keep hO.tch id;have d0:=hO.tch.cell_some q0 id;generalize RF r=l at *;go_wp2_with (refine zh6 rfl _ _ _ false rfl zjn Tryz.underlying172 (zk3 wr) (k:=(e,a,r)) (by rfl) (by rfl) m3.is ?_;refine Hid.out ?_);refine Lib.hid ?_;(try simp only[Bool.false_eq_true,if_false]);rw[show(zar R (e,a,r)).getD (.slice none 0 0)=.slice A2 l.length k2 from HV2.out];clear HV2 m3 d0 c0;go_wp2_with fail;go_loopw [9,40] (fun out i wr=>∃(m:Nat) (ys:List Int),m≤l.length∧i=.int .i64 m∧xs++((l.take m).filter (zfa p r)).map (·.2.1)=ys∧ys.length≤xs.length+m∧Outs zby 1 3 w wr out ys) (fun _ i _=>l.length-(intOf i).toNat)
   case atStart=>exact⟨0,xs,Nat.zero_le _,rfl,by simp,by omega,hO⟩
   case round=>
    clear hO ho1 ho2;obtain⟨m,ys,hm,rfl,hy,hyl,hO⟩:=hrel;obtain⟨O,co,rfl,ho1,ho2⟩:=hO.form;have HY:=Lib.hid hy;clear hy;by_cases hml:m<l.length
    ·have hml':(m:Int)<(l.length:Int):=by omega
     have hm0:=znn m;obtain⟨g2,o2,rfl⟩:=hrow2.head (by omega);obtain⟨p0,p1,p2⟩:=Row.three (hrow2.keep hO.tch) zk2 hml rfl
     have HS:=Lib.hid (show xs++((l.take (m+1)).filter (zfa p r)).map (·.2.1)=ys++(if zfa p r l[m]then[l[m].2.1]else[]) by
      rw[List.take_succ_eq_append_getElem hml,List.filter_append,List.map_append,←List.append_assoc,HY.out];congr 1
      by_cases hh:zfa p r l[m]=true<;>simp[hh])
     have HPR:=Lib.hid (show zfa p r l[m]=(decide (r≤p)&&l[m].2.1 !=0)from rfl);generalize l[m]=s at *;obtain⟨x,y,v⟩:=s;simp only at p0 p1 p2 HS HPR;have hO:=hO.keep (Tch.alloc _ wr (.cells #[iV x,iV y,iV v] 250));by_cases hrp:r≤p
     ·by_cases hy0:y=0
      ·have HS2:=Lib.hid (show xs++((l.take (m+1)).filter (zfa p r)).map (·.2.1)=ys by rw[HS.out,HPR.out];simp[hy0]);clear HS HPR;have HS:=HS2;clear HS2;subst hy0;go_wp2;go_roundw
       case rel=>exact⟨m+1,ys,by omega,by go_num,HS.out,by omega,hO⟩
       case measure=>simp[intOf];omega
      ·have HS:=Lib.hid (show xs++((l.take (m+1)).filter (zfa p r)).map (·.2.1)=ys++[y] by rw[HS.out,HPR.out];simp[hy0,hrp]);have hy1:(y !=0)=true:=by simpa using hy0
       clear HPR;go_wp2_with ((at_builtin;refine apd zaj (hO.own.alloc _) (Go.Gk.Src.one (news:=[iV (y)]) rfl (fun m9 u9 hu9=>by rw[(Blk.new2 (wr) (.cells #[iV x,iV y,iV v] 250) 3 #[iV (y)]).cell m9];simpa using hu9)) (by simp;rfl) ?_;intro v2 w2 ho2 hg2 hl2;have hO2:=hO.step (x:=y) (Tch.alloc _ _ _) ho2 hg2 hl2;obtain⟨O2,co2,rfl,_,_⟩:=zac ho2));go_roundw
       case rel=>exact⟨m+1,_,by omega,by go_num,HS.out,by simp;omega,hO2⟩
       case measure=>simp[intOf];omega
     ·have HS:=Lib.hid (show xs++((l.take (m+1)).filter (zfa p r)).map (·.2.1)=ys by rw[HS.out,HPR.out];simp[hrp]);clear HPR;go_wp2;go_roundw
      case rel=>exact⟨m+1,ys,by omega,by go_num,HS.out,by omega,hO⟩
      case measure=>simp[intOf];omega
    ·obtain rfl:l.length=m:=by omega
     rw[List.take_length]at HY;have HX2:=Lib.hid (HSP.out.trans HY.out);go_wp2;go_roundw
     case rel=>exact⟨j+1,ys,by omega,by go_num,HX2.out,by omega,hO⟩
     case measure=>simp[intOf];omega
  ·obtain rfl:pers.length=j:=by omega
   rw[List.take_length]at HX;have HXP:=Lib.hid (show xs=PT by rw[HPT.out,HX.out]);have hxl9:xs.length≤100000000:=by omega
   have HC:=Lib.hid (zu9 hO (by omega));have hown:=hO.own;have ho:=hO.tch;go_wp2_with fail;refine HC.out.mono ?_;rintro _ w5 ⟨rfl,hH,t5⟩;have hp:(xs.mergeSort fun x y=>decide (x≤y)).Perm xs:=List.mergeSort_perm _ _;have HC2:=Lib.hid (zok hH (by rw[hp.length_eq];omega) (F:=fun g=>w.heap.size≤g) (fun g hg=>(hown.lt g hg).1));have HN:=Lib.hid (show(Lib.compact (xs.mergeSort fun x y=>decide (x≤y))).Pairwise (· < ·)from(zhw (zxo xs) _ (Nat.le_refl _)).1);have HMM:=Lib.hid (fun q=>(zlf (xs.mergeSort fun x y=>decide (x≤y)) q).trans hp.mem_iff);have HLE:=Lib.hid (show(xs.mergeSort fun x y=>decide (x≤y)).length≤100000000 by rw[hp.length_eq];exact hxl9);clear hp hH HC;generalize(xs.mergeSort fun x y=>decide (x≤y))=zs at *;go_wp2_with fail;refine HC2.out.mono ?_;rintro _ w6 ⟨u,rfl,hu,hle,t6⟩;have tA:Tf w w6:=ho.trans' (t5.trans t6) (fun i hi=>.inr hi);have h9:=HLE.out;obtain⟨U,cu,rfl,_,_⟩:=hu.form;go_wp2;go_ret;exact⟨_,_,rfl,hu,HN.out,fun q=>by rw[HMM.out,HXP.out],by omega,tA⟩
section
variable {w:World} {bv bi B t mr mp:Nat} {e a s r l n lv:Value} {fs:List Value} {b:Bks} {us:List (Ent×Value)}
theorem zxq (h:Vw w bv bi B t mr mp e a s r l n lv fs b us) (hn:(zay b.entries).length≤10000) (xe xa xp xq:Int):
 Calls Tryz.prog 47 #[.pointer (some ⟨bv,0,none⟩),iV xe,iV xa,iV xp,iV xq] w fun x w'=>∃u,x=.returned u∧Outs zby 1 3 w w' u (((zbf (zay b.entries) (xe,xa,xp)).filter fun r=>xq==0||r.2.1==xq).map (·.1)):=by
 have HC:=Lib.hid (zva h.tally hn xe xa xp xq);generalize((zbf (zay b.entries) (xe,xa,xp)).filter fun r=>xq==0||r.2.1==xq).map (·.1)=L at *;have hM:=zb5 h;have v0:=h.view.at0;have v7:=h.seen.at0;go_enter Tryz.func47,Tryz.ntmps47;go_wp2_with fail;refine hM.mono ?_;rintro _ _ ⟨rfl,rfl⟩;clear hM;go_wp2_with fail;refine HC.out.mono ?_;rintro _ w1 ⟨u,rfl,hO⟩;obtain⟨A,c,rfl,_,_⟩:=hO.form;go_wp2;go_ret;exact⟨_,rfl,hO⟩
theorem zxr (h:Vw w bv bi B t mr mp e a s r l n lv fs b us) (hn:(zay b.entries).length≤10000) (xe xa xp:Int):
 Calls Tryz.prog 282 #[.pointer (some ⟨bv,0,none⟩),iV xe,iV xa,iV xp] w fun x w'=>∃u zs,x=.returned u∧zae zby 1 (fun g=>w.heap.size≤g) w' u zs∧zs.Pairwise (· < ·)∧(∀q,q∈zs↔q∈zf1 (zay b.entries) xe xa xp)∧zs.length≤1000000000∧Tf w w':=by
 have HC:=Lib.hid (zvb h.tally hn xe xa xp);generalize zf1 (zay b.entries) xe xa xp=L at *;have hM:=zb5 h;have v0:=h.view.at0;have v7:=h.seen.at0;go_enter Tryz.func282,Tryz.ntmps282;go_wp2_with fail;refine hM.mono ?_;rintro _ _ ⟨rfl,rfl⟩;clear hM;go_wp2_with fail;refine HC.out.mono ?_;rintro _ w1 ⟨u,zs,rfl,h1,h2,h3,h4,h5⟩;obtain⟨A,c,rfl,_,_⟩:=h1.form;go_wp2;go_ret;exact⟨_,zs,rfl,h1,h2,h3,h4,h5⟩
end
end Go.Proofs.YtnjhfcopphpkpaaGreatDoor
namespace Go.Gk
open Go.RowKit
theorem zvc {b:Bks} (h:BksFew b):(zag b.accs).length≤1000:=by
 have h1:=h.accs;unfold zag;refine Nat.le_trans (List.length_filter_le _ _) ?_;unfold zal;simp;omega
theorem zxs {b:Bks} (h:BksFew b):(zay b.entries).length≤10000:=by
 have h1:=h.entries;have h2:=zd6 b.entries 60 h.lines;have h3:b.entries.length*60≤30*60:=Nat.mul_le_mul_right _ h1;omega
theorem ztj {b:Bks} (h:Bks64 b):∀p∈zay b.entries,I64 p.2.2.2.2:=by
 intro p hp;unfold zay at hp;obtain⟨x,hx,hp⟩:=List.mem_flatMap.1 hp;obtain⟨l,hl,rfl⟩:=List.mem_map.1 hp;exact((h.entries x hx).2.2 l hl).2.2.2
open Go.RowKit
section
variable {P:Program} {ops:Array Oper} {rest:List Oper} {op:Oper} {a:Act} {w:World} {Q:Exit→Act→World→Prop}
theorem zku (hgd:op.guard=none) (ty:TypeId) (x y:Operand) (ho:op.op=.store ty x y) (b o:Nat) (u v:Value) (hx:a.eval x=.pointer (some ⟨b,o,none⟩)) (hy:a.eval y=.agg #[u,v]) (h1:u.oneCell'=true) (h2:v.oneCell'=true) (hi:(P.info? ty).map (·.size)=some 2)
 {t:TypeId} {cs:Array Value} (hb:Blk w b t cs) (hlt:o+1<cs.size) (h:∀W,Blk W b t ((cs.setIfInBounds o u).setIfInBounds (o+1) v)→Tch (fun g=>g=b) w W→wpList P ops Q rest (a.put op.dst undef) W):wpList P ops Q (op::rest) a w:=by
 refine wpList_store_mid hgd ty x y ho b o #[u,v] hx hy (fun j hj=>⟨?_,hb.frozen _⟩) hi (by simp[h1,h2]) ?_
 ·have hj2:j<2:=hj;have hc:=hb.cell (o+j);rw[Array.getElem?_eq_getElem (by omega)]at hc;rw[hc];rfl
 ·exact h _ ((hb.set_ o u).set_ (o+1) v) ((Tch.setCell (F:=fun g=>g=b) w (p:=⟨b,o,none⟩) (.inl rfl) u).trans (Tch.setCell (F:=fun g=>g=b) _ (p:=⟨b,o+1,none⟩) (.inl rfl) v))
end
end Go.Gk
namespace Go.Proofs.YtnjhfcopphpkpaaGreatDoor
open Go.RowKit Go.Gk
section
variable {w:World} {e a s r l n:Value} {b:Bks} {us:List (Ent×Value)}
theorem zed (h:BksAt w e a s r l n b us) (hn:b.accs.length≤100000) (c:Rt6) (lo hi:Int):
 Calls Tryz.prog 108 #[.agg #[e,a,s,r,l,n],zcq c,iV lo,iV hi] w fun x w'=>x=.returned (iV (za7 b c lo hi))∧Tf w w':=by
 have tA:=tal w (.cells #[e,a,s,r,l,n] 29);obtain⟨c1,c2,c3,c4,c5,c6⟩:=c;have tB:=tal (w.alloc (.cells #[e,a,s,r,l,n] 29)) (.cells #[iV c1,iV c2,iV c3,iV c4,iV c5,iV c6] 31);have tw:=tA.trans tB;have hbB:=(Blk.new w 29 #[e,a,s,r,l,n]).keep tB id;have hbC:=Blk.new2 w (.cells #[e,a,s,r,l,n] 29) 31 #[iV c1,iV c2,iV c3,iV c4,iV c5,iV c6];have HM:=Lib.hid (zg8 (h.keep tw) (c1,c2,c3,c4,c5,c6));have HL:=Lib.hid (fun w' (tc:Tf _ w')=>zge ((h.keep tw).keep tc) hn c3)
 obtain⟨m,hm⟩:∃m,za7 b (c1,c2,c3,c4,c5,c6) lo hi=m:=⟨_,rfl⟩
 rw[hm];unfold za7 at hm;simp only at hm;generalize za3 (c1,c2,c3,c4,c5,c6) b.ents.length b.accs.length=k at *;generalize zas b.accs c3=lf at *;have HMM:=Lib.hid hm;unfold zcq at HM⊢;simp only at HM⊢;obtain⟨Ae,ce,rfl,_,_⟩:=h.ents.form;obtain⟨Aa,ca,rfl,_,_⟩:=h.accs.form;obtain⟨As,cs,rfl,_,_⟩:=h.stakes.form;obtain⟨Ar,cr,rfl,_,_⟩:=h.rates.form;obtain⟨Al,cl,rfl,_,_⟩:=h.locks.form;obtain⟨An,cn,rfl,_,_⟩:=h.ent.row.form;clear hm h tA tB;go_enter Tryz.func108,Tryz.ntmps108;go_wp2_with fail;generalize(w.alloc (.cells #[.slice Ae b.ents.length ce,.slice Aa b.accs.length ca,.slice As b.stakes.length cs,.slice Ar b.rates.length cr,.slice Al b.locks.length cl,.slice An us.length cn] 29)).alloc (.cells #[iV c1,iV c2,iV c3,iV c4,iV c5,iV c6] 31)=W at *;generalize w.heap.size=z at *;refine HM.out.mono ?_;rintro _ w1 ⟨rfl,t1⟩;clear HM;have tt:=tw.trans t1;by_cases hk:k=0
 rotate_left
 ·have hk':(k !=0)=true:=by simpa using hk
  obtain rfl:m=k:=by rw[←HMM.out,if_neg hk]
  clear HMM;go_wp2;go_ret;exact⟨rfl,tt⟩
 subst hk;have q0:=(hbC.keep t1 id).at0;have q2:=(hbC.keep t1 id).at2;have hB:=hbB.keep t1 id;obtain⟨g0,g1,g2,g3,g4,g5⟩:=hB.f6;clear hB hbB hbC;by_cases hlo:c1<lo
 ·obtain rfl:m=25:=by rw[←HMM.out,if_pos rfl,if_pos (.inl hlo)]
  clear HMM;go_wp2;go_ret;exact⟨rfl,tt⟩
 by_cases hhi:hi<c1
 ·obtain rfl:m=25:=by rw[←HMM.out,if_pos rfl,if_pos (.inr hhi)]
  clear HMM;go_wp2;go_ret;exact⟨rfl,tt⟩
 have HM2:=Lib.hid (show(if lf=true then(0:Int)else 27)=m by
  have h9:=HMM.out;rw[if_pos rfl,if_neg (show¬(c1<lo∨hi<c1) by omega)]at h9
  exact h9)
 clear HMM;go_wp2_with fail;refine(HL.out w1 t1).mono ?_;rintro _ w2 ⟨rfl,t2⟩;clear HL q0 q2 g0 g1 g2 g3 g4 g5
 cases lf
 ·obtain rfl:m=27:=by rw[←HM2.out];rfl
  go_wp2;go_ret;exact⟨rfl,tt.trans t2⟩
 ·obtain rfl:m=0:=by rw[←HM2.out];rfl
  go_wp2;go_ret;exact⟨rfl,tt.trans t2⟩
