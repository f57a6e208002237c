/-
  Stakes that may be: all of them.
-/
import Derived.Test.YtnjhfcopphpkpaaGreatDoorZ10
import Derived.Test.YtnjhfcopphpkpaaGreatDoorZ9
set_option maxRecDepth 100000
set_option maxHeartbeats 3200000
namespace Go.Gk
open Go.RowKit
theorem RetAt.no {w w':World} {a n:Int} (h:(n==0)=false) (t:Tf w w'):RetAt false w (.returned (.tuple #[.int .i64 a,.int .i64 n])) w':=⟨a,n,rfl,h,t⟩
theorem RetAt.yes {w w':World} {a:Int} (t:Tf w w'):RetAt true w (.returned (.tuple #[.int .i64 a,.int .i64 0])) w':=⟨a,0,rfl,rfl,t⟩
theorem Row.takes' {P:Nat→Prop} {w:World} {α:Type} {f:α→List Value} {size:Nat} (hf:∀a,(f a).length=size) {A:Option Addr} {c:Nat} {l:List α} (h:Row P w (.slice A l.length c) l.length size (l.flatMap f)) {k:Nat} (hk:k≤l.length):RowsOf f size P w (.slice A k c) (l.take k):=by
 have:=h.takes hf hk;unfold RowsOf;rw[List.length_take,Nat.min_eq_left hk];exact this
end Go.Gk
namespace Go.Proofs.YtnjhfcopphpkpaaGreatDoor
open Go.RowKit Go.Gk
theorem stkcheck_any {w:World} {v:Value} {l:List Stk4} (hl:RowsOf int4 4 (fun _=>True) w v l) (hn:l.length≤100000) (n:Int):
 Calls Tryz.prog 81 #[v,.int .i64 n] w (RetAt (stakesOK l n) w):=by
 obtain⟨ok,hok⟩:∃ok,stakesOK l n=ok:=⟨_,rfl⟩
 rw[hok];unfold stakesOK stkAll at hok;have hok:=Lib.hid hok;obtain⟨A,c,rfl,hc1,hc2⟩:=hl.form;by_cases h4:l.length≤400
 rotate_left
 ·have h4':400<(l.length:Int):=by omega
  obtain rfl:ok=false:=by rw[←hok.out,decide_eq_false h4];rfl
  clear hok;go_enter Tryz.func81,Tryz.ntmps81;go_wp2;go_ret2
  exact RetAt.no rfl (Tch.refl _ _)
 have h4':(l.length:Int)≤400:=by omega
 have HOK:=Lib.hid (show((List.range l.length).all fun i=>stkLast (l.take (i+1)) n)=ok by rw[←hok.out,decide_eq_true h4];rfl);clear hok;go_enter Tryz.func81,Tryz.ntmps81;go_wp2_with fail;go_loopw [13] (fun i wr=>∃j:Nat,j≤l.length∧i=.int .i64 j∧((List.range j).all fun i=>stkLast (l.take (i+1)) n)=true∧Tf w wr) (fun i _=>l.length-(intOf i).toNat)
 case atStart=>exact⟨0,by omega,rfl,rfl,Tch.refl _ _⟩
 case round=>
  obtain⟨j,hj,rfl,hall,ht⟩:=hrel;have HA:=Lib.hid hall;clear hall;by_cases hlt:j<l.length
  ·have hlt':(j:Int)<(l.length:Int):=by omega
   have hj0:=znn j;have hjc:((j+1:Nat):Int)≤(c:Int):=by omega
   have HC:=stklast_any (Row.takes' int4_len (hl.keep ht) (show j+1≤l.length by omega)) (by rw[List.length_take];omega) (by rw[List.length_take];omega) n;have hs:=range_all_succ (fun i=>stkLast (l.take (i+1)) n) j;have hno:=fun h=>range_all_no (p:=fun i=>stkLast (l.take (i+1)) n) hlt h
   generalize stkLast (l.take (j+1)) n=rb at *;have HS:=Lib.hid hs;have HN:=Lib.hid hno;clear hs hno;go_wp2_with fail;refine HC.mono ?_;rintro _ w1 ⟨q,rfl,hq,t1⟩;clear HC
   cases rb
   ·obtain rfl:ok=false:=by rw[←HOK.out,HN.out rfl]
    have hq':(q !=0)=true:=by simpa using hq
    have HQ:=Lib.hid hq;clear hq;go_wp2;go_ret2
    exact RetAt.no HQ.out (ht.trans t1)
   ·obtain rfl:q=0:=by simpa using hq
    clear hq;go_wp2;go_roundw
    case rel=>exact⟨j+1,by omega,by go_num,by rw[HS.out,HA.out];rfl,ht.trans t1⟩
    case measure=>simp[intOf];omega
  ·obtain rfl:l.length=j:=by omega
   obtain rfl:ok=true:=by rw[←HOK.out,HA.out]
   go_wp2;go_ret2
   exact RetAt.yes ht
open Go.RowKit Go.Gk
theorem sleqaccs_any {w:World} {u v:Value} {k l:List Acc} (hk:RowsOf acc4 4 (fun _=>True) w u k) (hl:RowsOf acc4 4 (fun _=>True) w v l) (hnk:k.length≤100000) (hnl:l.length≤100000):
 Calls Tryz.prog 154 #[u,v] w (RetB (decide (k=l)) w):=by
 obtain⟨R,hR⟩:∃R,decide (k=l)=R:=⟨_,rfl⟩
 rw[hR];have HR:=Lib.hid hR;clear hR;obtain⟨A,c,rfl,hc1,hc2⟩:=hk.form;obtain⟨A',c',rfl,hc1',hc2'⟩:=hl.form;by_cases hlen:k.length=l.length
 rotate_left
 ·obtain rfl:R=false:=by rw[←HR.out];exact decide_eq_false fun e=>hlen (congrArg List.length e)
  have h1:((k.length:Int)==(l.length:Int))=false:=beq_eq_false_iff_ne.2 (by omega);have h2:((k.length:Int) !=(l.length:Int))=true:=bne_iff_ne.2 (by omega);have h3:(k.length==l.length)=false:=by simpa using hlen
  have h4:(k.length !=l.length)=true:=by simpa using hlen
  clear HR hk hl;go_enter Tryz.func154,Tryz.ntmps154;go_wp2;go_ret;exact⟨rfl,Tch.refl _ _⟩
 have HL:=Lib.hid hlen;rw[←hlen]at hc1'⊢;clear hlen;go_enter Tryz.func154,Tryz.ntmps154;go_wp2_with fail;go_loopw [13] (fun i wr=>∃j:Nat,j≤k.length∧i=.int .i64 j∧k.take j=l.take j∧Tf w wr) (fun i _=>k.length-(intOf i).toNat)
 case atStart=>exact⟨0,Nat.zero_le _,rfl,rfl,Tch.refl _ _⟩
 case round=>
  obtain⟨j,hj,rfl,he,ht⟩:=hrel;have HE:=Lib.hid he;clear he;by_cases hlt:j<k.length
  ·have hlt2:j<l.length:=by have:=HL.out;omega
   have hlt':(j:Int)<(k.length:Int):=by omega
   have hj0:=znn j;obtain⟨g,o,rfl⟩:=hk.head (by omega);obtain⟨g',o',rfl⟩:=hl.head (by omega);obtain⟨q0,q1,q2,q3⟩:=Row.four (hk.keep ht) acc4_len hlt rfl;obtain⟨p0,p1,p2,p3⟩:=Row.four (hl.keep ht) acc4_len hlt2 rfl;have hs:k[j]=l[j]→k.take (j+1)=l.take (j+1):=fun e=>by rw[List.take_succ_eq_append_getElem hlt,List.take_succ_eq_append_getElem hlt2,HE.out,e]
   have hno:¬k[j]=l[j]→R=false:=fun e=>by rw[←HR.out];exact decide_eq_false fun h=>e (by subst h;rfl)
   rw[HL.out]at hj hlt hlt'
   have hx:k[j]=l[j]↔(k[j].1==l[j].1&&k[j].2.1==l[j].2.1&&k[j].2.2.1==l[j].2.2.1&&k[j].2.2.2==l[j].2.2.2)=true:=by
    simp only[Bool.and_eq_true,beq_iff_eq,Prod.ext_iff,and_assoc]
   have HX:=Lib.hid hx;have HS:=Lib.hid hs;have HN:=Lib.hid hno;clear hx hs hno;generalize k[j]=x at *;generalize l[j]=y at *;have hq:=fun w'=>run_ne_Acc (x.1) (x.2.1) (x.2.2.1) (x.2.2.2) (y.1) (y.2.1) (y.2.2.1) (y.2.2.2) w'
   generalize(x.1==y.1&&x.2.1==y.2.1&&x.2.2.1==y.2.2.1&&x.2.2.2==y.2.2.2)=b at *;have c0:=within_cell (F:=fun _=>False) q0 id;have d0:=within_cell (F:=fun _=>False) p0 id;have c1:=within_cell (F:=fun _=>False) q1 id;have d1:=within_cell (F:=fun _=>False) p1 id;have c2:=within_cell (F:=fun _=>False) q2 id;have d2:=within_cell (F:=fun _=>False) p2 id;have c3:=within_cell (F:=fun _=>False) q3 id;have d3:=within_cell (F:=fun _=>False) p3 id;rw[←HL.out]at hj hlt hlt';go_wp2_with fail;refine wp_touch (fun _=>False) [] 8 [] [] ?_ ?_
   ·exact trivial
   intro bef _;iterate 8 (refine t_dq ?_;(try simp only[putS]))
   refine t_nil ?_;intro w1 hr hp1 hap;have t1:=ht.trans ((Tch.drew _ wr).trans hr);clear hap hp1 hr c0 d0 q0 p0 c1 d1 q1 p1 c2 d2 q2 p2 c3 d3 q3 p3
   cases b
   ·obtain rfl:R=false:=HN.out (fun e=>by have:=HX.out.1 e;simp at this);go_wp2;go_ret;exact⟨rfl,t1⟩
   ·have HS:=Lib.hid (HS.out (HX.out.2 rfl));go_wp2;go_roundw
    case rel=>exact⟨j+1,by omega,by go_num,HS.out,t1⟩
    case measure=>simp[intOf];omega
  ·obtain rfl:k.length=j:=by omega
   obtain rfl:R=true:=by
    rw[←HR.out];have e:=HE.out;rw[List.take_length,HL.out,List.take_length]at e;exact decide_eq_true e
   go_wp2;go_ret;exact⟨rfl,ht⟩
theorem sleqlines_any {w:World} {u v:Value} {k l:List Ln4} (hk:RowsOf int4 4 (fun _=>True) w u k) (hl:RowsOf int4 4 (fun _=>True) w v l) (hnk:k.length≤100000) (hnl:l.length≤100000):
 Calls Tryz.prog 232 #[u,v] w (RetB (decide (k=l)) w):=by
 obtain⟨R,hR⟩:∃R,decide (k=l)=R:=⟨_,rfl⟩
 rw[hR];have HR:=Lib.hid hR;clear hR;obtain⟨A,c,rfl,hc1,hc2⟩:=hk.form;obtain⟨A',c',rfl,hc1',hc2'⟩:=hl.form;by_cases hlen:k.length=l.length
 rotate_left
 ·obtain rfl:R=false:=by rw[←HR.out];exact decide_eq_false fun e=>hlen (congrArg List.length e)
  have h1:((k.length:Int)==(l.length:Int))=false:=beq_eq_false_iff_ne.2 (by omega);have h2:((k.length:Int) !=(l.length:Int))=true:=bne_iff_ne.2 (by omega);have h3:(k.length==l.length)=false:=by simpa using hlen
  have h4:(k.length !=l.length)=true:=by simpa using hlen
  clear HR hk hl;go_enter Tryz.func232,Tryz.ntmps232;go_wp2;go_ret;exact⟨rfl,Tch.refl _ _⟩
 have HL:=Lib.hid hlen;rw[←hlen]at hc1'⊢;clear hlen;go_enter Tryz.func232,Tryz.ntmps232;go_wp2_with fail;go_loopw [13] (fun i wr=>∃j:Nat,j≤k.length∧i=.int .i64 j∧k.take j=l.take j∧Tf w wr) (fun i _=>k.length-(intOf i).toNat)
 case atStart=>exact⟨0,Nat.zero_le _,rfl,rfl,Tch.refl _ _⟩
 case round=>
  obtain⟨j,hj,rfl,he,ht⟩:=hrel;have HE:=Lib.hid he;clear he;by_cases hlt:j<k.length
  ·have hlt2:j<l.length:=by have:=HL.out;omega
   have hlt':(j:Int)<(k.length:Int):=by omega
   have hj0:=znn j;obtain⟨g,o,rfl⟩:=hk.head (by omega);obtain⟨g',o',rfl⟩:=hl.head (by omega);obtain⟨q0,q1,q2,q3⟩:=Row.four (hk.keep ht) int4_len hlt rfl;obtain⟨p0,p1,p2,p3⟩:=Row.four (hl.keep ht) int4_len hlt2 rfl;have hs:k[j]=l[j]→k.take (j+1)=l.take (j+1):=fun e=>by rw[List.take_succ_eq_append_getElem hlt,List.take_succ_eq_append_getElem hlt2,HE.out,e]
   have hno:¬k[j]=l[j]→R=false:=fun e=>by rw[←HR.out];exact decide_eq_false fun h=>e (by subst h;rfl)
   rw[HL.out]at hj hlt hlt'
   have hx:k[j]=l[j]↔(k[j].1==l[j].1&&k[j].2.1==l[j].2.1&&k[j].2.2.1==l[j].2.2.1&&k[j].2.2.2==l[j].2.2.2)=true:=by
    simp only[Bool.and_eq_true,beq_iff_eq,Prod.ext_iff,and_assoc]
   have HX:=Lib.hid hx;have HS:=Lib.hid hs;have HN:=Lib.hid hno;clear hx hs hno;generalize k[j]=x at *;generalize l[j]=y at *;have hq:=fun w'=>run_ne_Line (x.1) (x.2.1) (x.2.2.1) (x.2.2.2) (y.1) (y.2.1) (y.2.2.1) (y.2.2.2) w'
   generalize(x.1==y.1&&x.2.1==y.2.1&&x.2.2.1==y.2.2.1&&x.2.2.2==y.2.2.2)=b at *;have c0:=within_cell (F:=fun _=>False) q0 id;have d0:=within_cell (F:=fun _=>False) p0 id;have c1:=within_cell (F:=fun _=>False) q1 id;have d1:=within_cell (F:=fun _=>False) p1 id;have c2:=within_cell (F:=fun _=>False) q2 id;have d2:=within_cell (F:=fun _=>False) p2 id;have c3:=within_cell (F:=fun _=>False) q3 id;have d3:=within_cell (F:=fun _=>False) p3 id;rw[←HL.out]at hj hlt hlt';go_wp2_with fail;refine wp_touch (fun _=>False) [] 8 [] [] ?_ ?_
   ·exact trivial
   intro bef _;iterate 8 (refine t_dq ?_;(try simp only[putS]))
   refine t_nil ?_;intro w1 hr hp1 hap;have t1:=ht.trans ((Tch.drew _ wr).trans hr);clear hap hp1 hr c0 d0 q0 p0 c1 d1 q1 p1 c2 d2 q2 p2 c3 d3 q3 p3
   cases b
   ·obtain rfl:R=false:=HN.out (fun e=>by have:=HX.out.1 e;simp at this);go_wp2;go_ret;exact⟨rfl,t1⟩
   ·have HS:=Lib.hid (HS.out (HX.out.2 rfl));go_wp2;go_roundw
    case rel=>exact⟨j+1,by omega,by go_num,HS.out,t1⟩
    case measure=>simp[intOf];omega
  ·obtain rfl:k.length=j:=by omega
   obtain rfl:R=true:=by
    rw[←HR.out];have e:=HE.out;rw[List.take_length,HL.out,List.take_length]at e;exact decide_eq_true e
   go_wp2;go_ret;exact⟨rfl,ht⟩
end Go.Proofs.YtnjhfcopphpkpaaGreatDoor
namespace Go.Gk
open Go.RowKit
theorem accUp_at {l:List Acc} {k:Nat} (h:k<l.length):accUp l ((k:Int)+1)=l[k].1:=by
 unfold accUp;rw[show((k:Int)+1-1).toNat=k by omega,List.getElem?_eq_getElem h];rfl
theorem accTurn_at {l:List Acc} {a x:Int} {j:Nat} (h:j<l.length):
 accTurn l a (l.length-j) x=if accUp l x==a|| !accIs l (accUp l x)then accUp l x else accTurn l a (l.length-(j+1)) (accUp l x):=by
 obtain⟨n,hn⟩:∃n,l.length-j=n+1:=⟨l.length-j-1,by omega⟩
 rw[hn,show l.length-(j+1)=n by omega];rfl
end Go.Gk
namespace Go.Proofs.YtnjhfcopphpkpaaGreatDoor
open Go.RowKit Go.Gk
theorem accplace_any (p n:Int) (w:World):Calls Tryz.prog 156 #[.int .i64 p,.int .i64 n] w (RetOk (placeOK p n) w):=by
 obtain⟨ok,hok⟩:∃ok,placeOK p n=ok:=⟨_,rfl⟩
 rw[hok];unfold placeOK at hok;have HOK:=Lib.hid hok;clear hok;by_cases h1:0≤p
 rotate_left
 ·obtain rfl:ok=false:=by rw[←HOK.out];simp[h1]
  go_enter Tryz.func156,Tryz.ntmps156;go_wp2;all_goals(go_ret;exact RetOk.no rfl (Tch.refl _ _))
 by_cases h2:p≤n
 rotate_left
 ·obtain rfl:ok=false:=by rw[←HOK.out];simp[h2]
  go_enter Tryz.func156,Tryz.ntmps156;go_wp2;all_goals(go_ret;exact RetOk.no rfl (Tch.refl _ _))
 by_cases h3:1≤p
 rotate_left
 ·obtain rfl:ok=true:=by rw[←HOK.out];simp[h1,h2,h3]
  go_enter Tryz.func156,Tryz.ntmps156;go_wp2;all_goals(go_ret;exact RetOk.yes (Tch.refl _ _))
 by_cases h4:p≤3
 ·obtain rfl:ok=false:=by rw[←HOK.out];simp[h3,h4]
  go_enter Tryz.func156,Tryz.ntmps156;go_wp2;all_goals(go_ret;exact RetOk.no rfl (Tch.refl _ _))
 ·obtain rfl:ok=true:=by rw[←HOK.out];simp[h1,h2,h4]
  go_enter Tryz.func156,Tryz.ntmps156;go_wp2;all_goals(go_ret;exact RetOk.yes (Tch.refl _ _))
theorem acckind_any (p k:Int) (s q:Bool) (w:World):Calls Tryz.prog 157 #[.agg #[.int .i64 p,.int .i64 k,.bool s,.bool q]] w (RetOk (kindOK (p,k,s,q)) w):=by
 obtain⟨ok,hok⟩:∃ok,kindOK (p,k,s,q)=ok:=⟨_,rfl⟩
 rw[hok];unfold kindOK at hok;simp only at hok;have HOK:=Lib.hid hok;clear hok;have tw:=tal w (.cells #[.int .i64 p,.int .i64 k,.bool s,.bool q] 81);by_cases h1:1≤k
 rotate_left
 ·obtain rfl:ok=false:=by rw[←HOK.out];simp[h1]
  go_enter Tryz.func157,Tryz.ntmps157;go_wp2;all_goals(go_ret;exact RetOk.no rfl tw)
 by_cases h2:k≤3
 rotate_left
 ·obtain rfl:ok=false:=by rw[←HOK.out];simp[h2]
  go_enter Tryz.func157,Tryz.ntmps157;go_wp2;all_goals(go_ret;exact RetOk.no rfl tw)
 cases s
 ·obtain rfl:ok=true:=by rw[←HOK.out];simp[h1,h2]
  go_enter Tryz.func157,Tryz.ntmps157;go_wp2;all_goals(go_ret;exact RetOk.yes tw)
 cases q
 ·obtain rfl:ok=true:=by rw[←HOK.out];simp[h1,h2]
  go_enter Tryz.func157,Tryz.ntmps157;go_wp2;all_goals(go_ret;exact RetOk.yes tw)
 ·obtain rfl:ok=false:=by rw[←HOK.out];simp
  go_enter Tryz.func157,Tryz.ntmps157;go_wp2;all_goals(go_ret;exact RetOk.no rfl tw)
theorem accround_any {w:World} {v:Value} {l:List Acc} (hl:RowsOf acc4 4 (fun _=>True) w v l) (hn:l.length≤100000) (a:Int) (h1:1≤a) (h2:a≤l.length):
 Calls Tryz.prog 158 #[v,.int .i64 a] w (RetB (accRound l a) w):=by
 obtain⟨R,hR⟩:∃R,accTurn l a (l.length-0) a=R:=⟨_,rfl⟩
 have hRR:accRound l a=(R==a):=by rw[←hR];rfl
 rw[hRR];have HR:=Lib.hid hR;clear hR hRR;obtain⟨A,c,rfl,hc1,hc2⟩:=hl.form
 obtain⟨k,hk,rfl⟩:∃k:Nat,k<l.length∧a=(k:Int)+1:=⟨(a-1).toNat,by omega,by omega⟩
 have hle:(l.length:Int)≤100000:=by omega
 obtain⟨a,ha⟩:∃a:Int,(k:Int)+1=a:=⟨_,rfl⟩
 rw[ha]at HR h1 h2⊢;have HK:=Lib.hid ha;clear ha;go_enter Tryz.func158,Tryz.ntmps158;go_wp2_with fail;go_loopw [5,9] (fun at' i wr=>∃(j k:Nat),j≤l.length∧i=.int .i64 j∧k<l.length∧at'=.int .i64 ((k:Int)+1)∧accTurn l a (l.length-j) ((k:Int)+1)=R∧Tf w wr) (fun _ i _=>l.length-(intOf i).toNat)
 case atStart=>exact⟨0,k,by omega,rfl,hk,by rw[HK.out],by rw[HK.out];exact HR.out,Tch.refl _ _⟩
 case round=>
  obtain⟨j,m,hj,rfl,hm,rfl,hT,ht⟩:=hrel;by_cases hlt:j<l.length
  ·obtain⟨g,o,rfl⟩:=hl.head (by omega);obtain⟨q0,q1,q2,q3⟩:=Row.four (hl.keep ht) acc4_len hm rfl;rw[accTurn_at hlt,accUp_at hm]at hT;have hlt':(j:Int)<(l.length:Int):=by omega
   have hj0:=znn j;have hm0:=znn m;have hm1:(m:Int)<(l.length:Int):=by omega
   have HT:=Lib.hid hT;have HIS:=Lib.hid (accis_any (hl.keep ht) l[m].1);clear hT q1 q2 q3;generalize l[m].1=y at *;by_cases he:y=a
   ·have HF:=Lib.hid (show R=y by rw[←HT.out,he];simp);have he1:(y==a)=true:=by simpa using he
    have HE:=Lib.hid he;clear HT he;go_wp2;go_ret;exact⟨by show Ending.returned (.bool true)=_;rw[HF.out,HE.out];simp,ht⟩
   have he1:(y==a)=false:=by simpa using he
   have he2:(y !=a)=true:=by simpa using he
   rw[he1]at HT;go_wp2_with fail;refine HIS.out.mono ?_;rintro _ _ ⟨rfl,rfl⟩;clear HIS
   cases hb:accIs l y
   ·rw[hb]at HT;have HF:=Lib.hid (show R=y by rw[←HT.out];rfl);clear hb HT;go_wp2;go_ret;exact⟨by show Ending.returned (.bool false)=_;rw[HF.out,he1],ht⟩
   ·rw[hb]at HT
    obtain⟨m',hm',rfl⟩:∃m':Nat,m'<l.length∧y=(m':Int)+1:=by
     unfold accIs at hb;simp only[Bool.and_eq_true,decide_eq_true_eq]at hb;exact⟨(y-1).toNat,by omega,by omega⟩
    have HF:=Lib.hid (show accTurn l a (l.length-(j+1)) ((m':Int)+1)=R by rw[←HT.out];rfl);clear hb HT;go_wp2;go_roundw
    case rel=>exact⟨j+1,m',by omega,by go_num,hm',rfl,HF.out,ht⟩
    case measure=>simp[intOf];omega
  ·obtain rfl:l.length=j:=by omega
   have HF:=Lib.hid (show R=(m:Int)+1 by rw[←hT,Nat.sub_self];rfl);clear hT;by_cases he:(m:Int)+1=a
   ·have he1:((m:Int)+1==a)=true:=by simpa using he
    have HE:=Lib.hid he;clear he;go_wp2;go_ret;exact⟨by show Ending.returned (.bool true)=_;rw[HF.out,HE.out];simp,ht⟩
   ·have he1:((m:Int)+1==a)=false:=by simpa using he
    go_wp2;go_ret;exact⟨by show Ending.returned (.bool false)=_;rw[HF.out,he1],ht⟩
theorem accnew_any (w:World):Calls Tryz.prog 155 #[] w fun e w'=>∃u,e=.returned u∧RowsOf acc4 4 (fun _=>True) w' u ownAccs∧Tf w w':=by
 have hb:=Blk.new2 (w.alloc (.cells #[.int .i64 0,.int .i64 1,.bool false,.bool false] 81)) (.cells #[.int .i64 0,.int .i64 1,.bool true,.bool false] 81) 81 #[.int .i64 0,.int .i64 1,.bool true,.bool false,.int .i64 0,.int .i64 1,.bool false,.bool false,.int .i64 0,.int .i64 1,.bool false,.bool false];rw[World.size_alloc]at hb;have hr:=Lib.hid (Row.blk (B:=fun _=>True) hb trivial (n:=3) (size:=4) rfl (by unfold maxLen;omega));clear hb;go_enter Tryz.func155,Tryz.ntmps155;go_wp2;go_ret;exact⟨_,rfl,hr.out,((Tch.alloc _ _ _).trans (Tch.alloc _ _ _)).trans (Tch.alloc _ _ _)⟩
def accOK (l:List Acc) (x:Acc):Bool:=placeOK x.1 l.length&&kindOK x
theorem acccheck_any {w:World} {v:Value} {l:List Acc} (hl:RowsOf acc4 4 (fun _=>True) w v l) (hn:l.length≤100000):
 Calls Tryz.prog 79 #[v] w (RetAt (accsOK l) w):=by
 obtain⟨ok,hok⟩:∃ok,accsOK l=ok:=⟨_,rfl⟩
 rw[hok];unfold accsOK at hok;rw[show(fun x:Acc=>placeOK x.1 l.length&&kindOK x)=accOK l from rfl]at hok;have HOK:=Lib.hid hok;clear hok;obtain⟨A,c,rfl,hc1,hc2⟩:=hl.form;by_cases h4:l.length≤60
 rotate_left
 ·have h4':60<(l.length:Int):=by omega
  obtain rfl:ok=false:=by rw[←HOK.out,decide_eq_false h4];rfl
  clear HOK;go_enter Tryz.func79,Tryz.ntmps79;go_wp2;go_ret2
  exact RetAt.no rfl (Tch.refl _ _)
 have h4':(l.length:Int)≤60:=by omega
 rw[decide_eq_true h4,Bool.true_and]at HOK;by_cases h3:3≤l.length
 rotate_left
 ·have h3':(l.length:Int)<3:=by omega
  obtain rfl:ok=false:=by rw[←HOK.out,decide_eq_false h3];rfl
  clear HOK;go_enter Tryz.func79,Tryz.ntmps79;go_wp2_with fail;refine wp_touch (fun _=>False) [] 7 [(6,.inr fun _ _=>True)] [] ?_ ?_
  ·exact⟨fun _ _ _ _ _=>trivial,trivial⟩
  intro bef _;iterate 4 (refine t_dq ?_;(try simp only[putS]))
  iterate 3 (refine t_skip (by rfl) ?_;(try simp only[putS]))
  refine t_nil ?_;intro w1 hr hp1 hap;have t1:=(Tch.drew _ w).trans hr;clear hap hp1 hr;go_wp2;go_ret2
  exact RetAt.no rfl t1
 have h3':3≤(l.length:Int):=by omega
 have h3c:(3:Int)≤(c:Int):=by omega
 have h3n:¬(l.length:Int)<3:=by omega
 have h3d:decide ((l.length:Int)<3)=false:=decide_eq_false h3n;rw[decide_eq_true h3,Bool.true_and]at HOK;go_enter Tryz.func79,Tryz.ntmps79;go_wp2_with fail;refine wp_touch (fun _=>False) [] 7 [(6,.inr fun u w'=>RowsOf acc4 4 (fun _=>True) w' u ownAccs)] [] ?_ ?_
 ·exact⟨fun u a b hr h=>h.keep hr,trivial⟩
 intro bef _;iterate 6 (refine t_dq ?_;(try simp only[putS]))
 refine t_loose (by rfl) (by rfl) (fun w1 hr hf=>?_) (fun d=>?_)
 ·refine yields_of_wp (d:=21) rfl (by simp) (fun K hK=>?_);go_step;refine(accnew_any w1).mono ?_;rintro _ w2 ⟨u,rfl,hu,t2⟩;exact hK _ _ ⟨⟨hu,t2⟩,newAt_no⟩
 simp only[putS];refine t_nil ?_;intro w1 hr hp hap;have hd:=hp _ (List.mem_singleton.2 rfl);dsimp only at hd
 have t1:=(Tch.drew _ w).trans hr;have hC:=sleqaccs_any (Row.takes' acc4_len (hl.keep t1) h3) hd (by rw[List.length_take];omega) (by decide);obtain⟨Ad,cd,rfl,_,_⟩:=hd.form;clear hap hp hr hd;go_wp2_with fail;refine hC.mono ?_;rintro _ w2 ⟨rfl,t2⟩;have t3:=t1.trans t2;clear hC t1 t2;clear h3n h3d;generalize hb:decide (l.take 3=ownAccs)=b at *;clear hb
 cases b
 ·obtain rfl:ok=false:=by rw[←HOK.out];rfl
  clear HOK;go_wp2;go_ret2
  exact RetAt.no rfl t3
 rw[Bool.true_and]at HOK;go_wp2_with fail;clear h3c;go_loopw [27] (fun i wr=>∃j:Nat,j≤l.length∧i=.int .i64 j∧(l.take j).all (accOK l)=true∧Tf w wr) (fun i _=>l.length-(intOf i).toNat)
 case atStart=>exact⟨0,by omega,rfl,rfl,t3⟩
 case round=>
  obtain⟨j,hj,rfl,hall,ht⟩:=hrel;have HA:=Lib.hid hall;clear hall t3;by_cases hlt:j<l.length
  ·have hlt':(j:Int)<(l.length:Int):=by omega
   have hj0:=znn j;obtain⟨g,o,rfl⟩:=hl.head (by omega);obtain⟨q0,q1,q2,q3⟩:=Row.four (hl.keep ht) acc4_len hlt rfl;have hs:=all_take_succ (p:=accOK l) hlt;have hno:=fun h=>all_no (p:=accOK l) hlt h
   have ha:accOK l l[j]=(placeOK l[j].1 l.length&&kindOK l[j]):=rfl;generalize accOK l l[j]=oj at *;generalize l[j]=s at *;obtain⟨p,k,sp,pt⟩:=s;simp only at q0 q1 q2 q3 ha;have HP:=Lib.hid (fun w'=>accplace_any p l.length w');have HK:=Lib.hid (fun w'=>acckind_any p k sp pt w');generalize placeOK p l.length=b1 at *;generalize kindOK (p,k,sp,pt)=b2 at *;have HS:=Lib.hid hs;have HN:=Lib.hid hno;have HAJ:=Lib.hid ha;clear hs hno ha;go_wp2_with fail;have tA:=ht.trans (tal wr (.cells #[.int .i64 p,.int .i64 k,.bool sp,.bool pt] 81));have hbs:=Blk.new wr 81 #[.int .i64 p,.int .i64 k,.bool sp,.bool pt];generalize wr.alloc (.cells #[.int .i64 p,.int .i64 k,.bool sp,.bool pt] 81)=W2 at *;generalize wr.heap.size=N at *;refine(HP.out _).mono ?_;rintro _ w3 ⟨q,rfl,hq,t4⟩;have t5:=tA.trans t4;have hb3:=hbs.keep t4 id;clear HP t4 tA hbs
   cases b1
   ·obtain rfl:ok=false:=by rw[←HOK.out,HN.out (by rw[HAJ.out];rfl)];rfl
    have hq':(q !=0)=true:=by simpa using hq
    have HQ:=Lib.hid hq;clear hq hb3;go_wp2;go_ret2
    exact RetAt.no HQ.out t5
   obtain rfl:q=0:=by simpa using hq
   clear hq;obtain⟨c0,c1,c2,c3⟩:=hb3.f4;clear hb3;go_wp2_with fail;refine(HK.out _).mono ?_;rintro _ w4 ⟨q,rfl,hq,t6⟩;have t7:=t5.trans t6;clear HK t6 t5 c0 c1 c2 c3
   cases b2
   ·obtain rfl:ok=false:=by rw[←HOK.out,HN.out (by rw[HAJ.out];rfl)];rfl
    have hq':(q !=0)=true:=by simpa using hq
    have HQ:=Lib.hid hq;clear hq;go_wp2;go_ret2
    exact RetAt.no HQ.out t7
   obtain rfl:q=0:=by simpa using hq
   clear hq;go_wp2;go_roundw
   case rel=>exact⟨j+1,by omega,by go_num,by rw[HS.out,HA.out,HAJ.out];rfl,t7⟩
   case measure=>simp[intOf];omega
  ·obtain rfl:l.length=j:=by omega
   rw[List.take_length]at HA;rw[HA.out,Bool.true_and]at HOK;have HT:=Lib.hid (accthose_any (hl.keep ht) hn (accRound l) 158 #[.slice A l.length c] #[] (enters_of Tryz.func158 (by kernel_rfl) rfl) (fun x w' h1 h2 t=>accround_any ((hl.keep ht).keep t) hn x h1 h2));generalize hbad:(accIds l.length).filter (accRound l)=bad at *;have hbl:bad.length≤60:=by rw[←hbad];exact Nat.le_trans (List.length_filter_le _ _) (by rw[accIds_len];exact h4)
   clear hbad;go_wp2_with fail;refine HT.out.mono ?_;rintro _ w3 ⟨u,rfl,hO⟩;have t4:=ht.trans hO.tch;obtain⟨U,cu,rfl,hu1,hu2⟩:=hO.form
   cases bad with
   |nil=>
    obtain rfl:ok=true:=by rw[←HOK.out];rfl
    simp only[List.length_nil];go_wp2;go_ret2
    exact RetAt.yes t4
   |cons b0 br=>
    obtain rfl:ok=false:=by rw[←HOK.out];rfl
    obtain⟨g,o,rfl⟩:=hO.row.head (by simp);have q0:=Row.one hO.row int1_len (i:=0) (by simp) rfl;simp only[List.length_cons,Nat.add_zero]at q0⊢;go_wp2;go_ret2
    exact RetAt.no rfl t4
end Go.Proofs.YtnjhfcopphpkpaaGreatDoor
namespace Go.Gk
open Go.RowKit
def lineBrk (x:Ln4) (ne na:Int):Nat→Bool
 |0=>!(decide (1≤x.1)&&decide (x.1≤ne))
 |1=>!(decide (1≤x.2.1)&&decide (x.2.1≤na))
 |2=>!((decide (0≤x.2.2.1)&&decide (x.2.2.1≤ne))&& !(x.2.2.1==x.1))
 |_=>x.2.2.2==0
theorem lineOK_eq (x:Ln4) (ne na:Int):lineOK x ne na=(List.range 4).all fun k=>!lineBrk x ne na k:=by
 have e:List.range 4=[0,1,2,3]:=rfl;rw[e];simp only[List.all_cons,List.all_nil,lineBrk,Bool.not_not,lineOK,Bool.and_true,Bool.and_assoc]
end Go.Gk
namespace Go.Proofs.YtnjhfcopphpkpaaGreatDoor
open Go.RowKit Go.Gk
theorem rule1_any (a b p m n:Int) {w:World} {g:Nat} (hg:w.cell? ⟨g,0,none⟩=some (.int .i64 n)):
 Calls Tryz.prog 266 #[.agg #[.int .i64 a,.int .i64 b,.int .i64 p,.int .i64 m],.pointer (some ⟨g,0,none⟩)] w (RetB (lineBrk (a,b,p,m) n 0 0) w):=by
 have tw:=tal w (.cells #[.int .i64 a,.int .i64 b,.int .i64 p,.int .i64 m] 150);have hg1:=tw.cell_some hg id
 obtain⟨R,hR⟩:∃R,lineBrk (a,b,p,m) n 0 0=R:=⟨_,rfl⟩
 rw[hR];unfold lineBrk at hR;simp only at hR;have HR:=Lib.hid hR;clear hR;by_cases h1:1≤a
 rotate_left
 ·obtain rfl:R=true:=by rw[←HR.out];simp[h1]
  clear HR;go_enter Tryz.func266,Tryz.ntmps266;go_wp2;all_goals(go_ret;exact⟨by first|rfl|(simp;omega),tw⟩)
 by_cases h2:a≤n
 rotate_left
 ·obtain rfl:R=true:=by rw[←HR.out];simp[h2]
  clear HR;go_enter Tryz.func266,Tryz.ntmps266;go_wp2;all_goals(go_ret;exact⟨by first|rfl|(simp;omega),tw⟩)
 obtain rfl:R=false:=by rw[←HR.out];simp[h1,h2]
 clear HR;go_enter Tryz.func266,Tryz.ntmps266;go_wp2;all_goals(go_ret;exact⟨by first|rfl|(simp;omega),tw⟩)
theorem rule2_any (a b p m n:Int) {w:World} {g:Nat} (hg:w.cell? ⟨g,0,none⟩=some (.int .i64 n)):
 Calls Tryz.prog 267 #[.agg #[.int .i64 a,.int .i64 b,.int .i64 p,.int .i64 m],.pointer (some ⟨g,0,none⟩)] w (RetB (lineBrk (a,b,p,m) 0 n 1) w):=by
 have tw:=tal w (.cells #[.int .i64 a,.int .i64 b,.int .i64 p,.int .i64 m] 150);have hg1:=tw.cell_some hg id
 obtain⟨R,hR⟩:∃R,lineBrk (a,b,p,m) 0 n 1=R:=⟨_,rfl⟩
 rw[hR];unfold lineBrk at hR;simp only at hR;have HR:=Lib.hid hR;clear hR;by_cases h1:1≤b
 rotate_left
 ·obtain rfl:R=true:=by rw[←HR.out];simp[h1]
  clear HR;go_enter Tryz.func267,Tryz.ntmps267;go_wp2;all_goals(go_ret;exact⟨by first|rfl|(simp;omega),tw⟩)
 by_cases h2:b≤n
 rotate_left
 ·obtain rfl:R=true:=by rw[←HR.out];simp[h2]
  clear HR;go_enter Tryz.func267,Tryz.ntmps267;go_wp2;all_goals(go_ret;exact⟨by first|rfl|(simp;omega),tw⟩)
 obtain rfl:R=false:=by rw[←HR.out];simp[h1,h2]
 clear HR;go_enter Tryz.func267,Tryz.ntmps267;go_wp2;all_goals(go_ret;exact⟨by first|rfl|(simp;omega),tw⟩)
theorem rule3_any (a b p m n:Int) {w:World} {g:Nat} (hg:w.cell? ⟨g,0,none⟩=some (.int .i64 n)):
 Calls Tryz.prog 268 #[.agg #[.int .i64 a,.int .i64 b,.int .i64 p,.int .i64 m],.pointer (some ⟨g,0,none⟩)] w (RetB (lineBrk (a,b,p,m) n 0 2) w):=by
 have tw:=tal w (.cells #[.int .i64 a,.int .i64 b,.int .i64 p,.int .i64 m] 150);have hg1:=tw.cell_some hg id
 obtain⟨R,hR⟩:∃R,lineBrk (a,b,p,m) n 0 2=R:=⟨_,rfl⟩
 rw[hR];unfold lineBrk at hR;simp only at hR;have HR:=Lib.hid hR;clear hR;by_cases h1:0≤p
 rotate_left
 ·obtain rfl:R=true:=by rw[←HR.out];simp[h1]
  clear HR;go_enter Tryz.func268,Tryz.ntmps268;go_wp2;all_goals(go_ret;exact⟨by first|rfl|(simp;omega),tw⟩)
 by_cases h2:p≤n
 rotate_left
 ·obtain rfl:R=true:=by rw[←HR.out];simp[h2]
  clear HR;go_enter Tryz.func268,Tryz.ntmps268;go_wp2;all_goals(go_ret;exact⟨by first|rfl|(simp;omega),tw⟩)
 by_cases h9:p=a
 ·subst h9;obtain rfl:R=true:=by rw[←HR.out];simp
  clear HR;go_enter Tryz.func268,Tryz.ntmps268;go_wp2;all_goals(go_ret;exact⟨by first|rfl|(simp;omega),tw⟩)
 have h9':(p==a)=false:=by simpa using h9
 obtain rfl:R=false:=by rw[←HR.out];simp[h1,h2,h9]
 clear HR;go_enter Tryz.func268,Tryz.ntmps268;go_wp2;all_goals(go_ret;exact⟨by first|rfl|(simp;omega),tw⟩)
theorem rule4_any (a b p m:Int) (w:World):
 Calls Tryz.prog 269 #[.agg #[.int .i64 a,.int .i64 b,.int .i64 p,.int .i64 m]] w (RetB (lineBrk (a,b,p,m) 0 0 3) w):=by
 have tw:=tal w (.cells #[.int .i64 a,.int .i64 b,.int .i64 p,.int .i64 m] 150);show Calls Tryz.prog 269 _ w (RetB (m==0) w);go_enter Tryz.func269,Tryz.ntmps269;go_wp2;go_ret;exact⟨rfl,tw⟩
def ruleRow (be ba:Nat):Array Value:= #[.func (.func 266) #[] #[.pointer (some ⟨be,0,none⟩)],.int .i64 20,.func (.func 267) #[] #[.pointer (some ⟨ba,0,none⟩)],.int .i64 21,.func (.func 268) #[] #[.pointer (some ⟨be,0,none⟩)],.int .i64 24,.func (.func 269) #[] #[],.int .i64 31]
theorem rules_any (ne na:Int) (w:World):
 Calls Tryz.prog 224 #[.int .i64 ne,.int .i64 na] w fun e w'=>∃be ba br:Nat,e=.returned (.slice (some ⟨br,0,none⟩) 4 4)∧Blk w' be 3 #[.int .i64 ne]∧Blk w' ba 3 #[.int .i64 na]∧Blk w' br 299 (ruleRow be ba)∧Tf w w':=by
 have h1:=((Blk.new w 3 #[.int .i64 ne]).alloc (.cells #[.int .i64 na] 3)).alloc (.cells (ruleRow w.heap.size (w.heap.size+1)) 299);have h2:=(Blk.new2 w (.cells #[.int .i64 ne] 3) 3 #[.int .i64 na]).alloc (.cells (ruleRow w.heap.size (w.heap.size+1)) 299);have h3:=Blk.new2 (w.alloc (.cells #[.int .i64 ne] 3)) (.cells #[.int .i64 na] 3) 299 (ruleRow w.heap.size (w.heap.size+1));rw[World.size_alloc]at h3;have H1:=Lib.hid h1;have H2:=Lib.hid h2;have H3:=Lib.hid h3;clear h1 h2 h3;go_enter Tryz.func224,Tryz.ntmps224;go_wp2;go_ret;exact⟨_,_,_,rfl,H1.out,H2.out,H3.out,((Tch.alloc _ _ _).trans (Tch.alloc _ _ _)).trans (Tch.alloc _ _ _)⟩
theorem entities_any (p r:Int) {w:World} {v:Value} {l:List Ln4} (hl:RowsOf int4 4 (fun _=>True) w v l) (hn:l.length≤1000):
 Calls Tryz.prog 225 #[.agg #[.int .i64 p,.int .i64 r,v]] w fun e w'=>∃u zs,e=.returned u∧RowsOf int1 1 (fun _=>True) w' u zs∧(∀x,x∈zs↔x∈l.map (·.1))∧zs.length≤l.length∧Tf w w':=by
 obtain⟨A,c,rfl,hc1,hc2⟩:=hl.form;have hb:=Blk.new w 146 #[.int .i64 p,.int .i64 r,.slice A l.length c];have tw:=tal w (.cells #[.int .i64 p,.int .i64 r,.slice A l.length c] 146);have hl1:=hl.keep tw;go_enter Tryz.func225,Tryz.ntmps225;go_wp2_with fail;generalize w.alloc (.cells #[.int .i64 p,.int .i64 r,.slice A l.length c] 146)=W at *;go_loopw [3,9] (fun out i wr=>∃(j:Nat) (xs:List Int),j≤l.length∧i=.int .i64 j∧(l.take j).map (·.1)=xs∧OutI W wr out xs) (fun _ i _=>l.length-(intOf i).toNat)
 case atStart=>exact⟨0,[],Nat.zero_le _,rfl,rfl,Outs.start _ _ _ (Tch.refl _ _)⟩
 case round=>
  obtain⟨j,xs,hj,rfl,hx,hO⟩:=hrel;obtain⟨O,co,rfl,ho1,ho2⟩:=hO.form;have hxl:xs.length≤j:=by rw[←hx,List.length_map,List.length_take];omega
  have HX:=Lib.hid hx;clear hx;by_cases hlt:j<l.length
  ·have hlt':(j:Int)<(l.length:Int):=by omega
   have hj0:=znn j;obtain⟨g,o,rfl⟩:=hl1.head (by omega);obtain⟨q0,q1,q2,q3⟩:=Row.four (hl1.keep hO.tch) int4_len hlt rfl;have HS:=Lib.hid (show(l.take (j+1)).map (·.1)=xs++[l[j].1] by rw[List.take_succ_eq_append_getElem hlt,List.map_append,HX.out];rfl);generalize l[j]=s at *;obtain⟨x,b,d,m⟩:=s;simp only at q0 q1 q2 q3 HS;have hO:=hO.keep (Tch.alloc _ wr (.cells #[.int .i64 x,.int .i64 b,.int .i64 d,.int .i64 m] 150));go_wp2_with ((at_builtin;refine apd rowInts (hO.own.alloc _) (Go.Gk.Src.one (news:=[.int .i64 (x)]) rfl (fun m9 u9 hu9=>by rw[(Blk.new2 (wr) (.cells #[.int .i64 x,.int .i64 b,.int .i64 d,.int .i64 m] 150) 3 #[.int .i64 (x)]).cell m9];simpa using hu9)) (by simp;rfl) ?_;intro v2 w2 ho2 hg2 hl2;have hO2:=hO.step (x:=x) (Tch.alloc _ _ _) ho2 hg2 hl2;obtain⟨O2,co2,rfl,_,_⟩:=own_form ho2));go_roundw
   case rel=>exact⟨j+1,_,by omega,by go_num,HS.out,hO2⟩
   case measure=>simp[intOf];omega
  ·obtain rfl:l.length=j:=by omega
   rw[List.take_length]at HX;have HC:=Lib.hid (sort_any hO (by omega));go_wp2_with fail;refine HC.out.mono ?_;rintro _ w1 ⟨rfl,ys,hy1,hy2,hH,t1⟩;have HC2:=Lib.hid (compact_any hH (by omega) (F:=fun g=>W.heap.size≤g) (fun g hg=>(hO.own.lt g hg).1));clear HC;go_wp2_with fail;refine HC2.out.mono ?_;rintro _ w2 ⟨u,zs,rfl,hz,hz1,hz2,t2⟩;clear HC2;obtain⟨U,cu,rfl,hu1,hu2⟩:=hz.form;have tt:=(tw.trans hO.tch).trans' (t1.trans t2) (fun i hi=>.inr (Nat.le_trans tw.size hi));have HZ:=Lib.hid (show∀x,x∈zs↔x∈l.map (·.1)from fun x=>by rw[hz1,hy2,HX.out]);have hle:zs.length≤l.length:=by omega
   clear hz1 hy2;go_wp2;go_ret;exact⟨_,zs,rfl,hz,HZ.out,hle,tt⟩
open Go.RowKit Go.Gk
theorem entotal_any (p r e:Int) {w:World} {v:Value} {l:List Ln4} (hl:RowsOf int4 4 (fun _=>True) w v l) (h64:∀x∈l,I64 x.2.2.2) (hn:l.length≤1000):
 Calls Tryz.prog 226 #[.agg #[.int .i64 p,.int .i64 r,v],.int .i64 e] w fun x w'=>x=.returned (asTold (lineSum l e))∧Tf w w':=by
 obtain⟨A,c,rfl,hc1,hc2⟩:=hl.form;have hb:=Blk.new w 146 #[.int .i64 p,.int .i64 r,.slice A l.length c];have tw:=tal w (.cells #[.int .i64 p,.int .i64 r,.slice A l.length c] 146);have hl1:=hl.keep tw;obtain⟨n,q,eq⟩:=asTold_form (lineSum l e);rw[eq];have HEQ:=Lib.hid eq;clear eq;go_enter Tryz.func226,Tryz.ntmps226;go_wp2_with fail;generalize w.alloc (.cells #[.int .i64 p,.int .i64 r,.slice A l.length c] 146)=W at *;go_loopw [6,12] (fun out i wr=>∃(j:Nat) (xs:List Int),j≤l.length∧i=.int .i64 j∧((l.take j).filter fun x=>x.1==e).map (·.2.2.2)=xs∧OutI W wr out xs) (fun _ i _=>l.length-(intOf i).toNat)
 case atStart=>exact⟨0,[],Nat.zero_le _,rfl,rfl,Outs.start _ _ _ (Tch.refl _ _)⟩
 case round=>
  obtain⟨j,xs,hj,rfl,hx,hO⟩:=hrel;obtain⟨O,co,rfl,ho1,ho2⟩:=hO.form;have hxl:xs.length≤j:=by rw[←hx,List.length_map];exact Nat.le_trans (List.length_filter_le _ _) (by rw[List.length_take];omega)
  have HX:=Lib.hid hx;clear hx;by_cases hlt:j<l.length
  ·have hlt':(j:Int)<(l.length:Int):=by omega
   have hj0:=znn j;obtain⟨g,o,rfl⟩:=hl1.head (by omega);obtain⟨q0,q1,q2,q3⟩:=Row.four (hl1.keep hO.tch) int4_len hlt rfl
   have HS:=Lib.hid (show((l.take (j+1)).filter fun x=>x.1==e).map (·.2.2.2)=xs++(if l[j].1==e then[l[j].2.2.2]else[]) by
    rw[List.take_succ_eq_append_getElem hlt,List.filter_append,List.map_append,HX.out];congr 1
    by_cases hh:(l[j].1==e)=true<;>simp[hh])
   generalize l[j]=s at *;obtain⟨x,b,d,m⟩:=s;simp only at q0 q1 q2 q3 HS;have hO:=hO.keep (Tch.alloc _ wr (.cells #[.int .i64 x,.int .i64 b,.int .i64 d,.int .i64 m] 150))
   cases hb:(x==e)
   ·rw[hb]at HS;have HS:=Lib.hid (show((l.take (j+1)).filter fun x=>x.1==e).map (·.2.2.2)=xs by rw[HS.out];simp);go_wp2;go_roundw
    case rel=>exact⟨j+1,xs,by omega,by go_num,HS.out,hO⟩
    case measure=>simp[intOf];omega
   ·rw[hb]at HS;go_wp2_with ((at_builtin;refine apd rowInts (hO.own.alloc _) (Go.Gk.Src.one (news:=[.int .i64 (m)]) rfl (fun m9 u9 hu9=>by rw[(Blk.new2 (wr) (.cells #[.int .i64 x,.int .i64 b,.int .i64 d,.int .i64 m] 150) 3 #[.int .i64 (m)]).cell m9];simpa using hu9)) (by simp;rfl) ?_;intro v2 w2 ho2 hg2 hl2;have hO2:=hO.step (x:=m) (Tch.alloc _ _ _) ho2 hg2 hl2;obtain⟨O2,co2,rfl,_,_⟩:=own_form ho2));go_roundw
    case rel=>exact⟨j+1,_,by omega,by go_num,HS.out,hO2⟩
    case measure=>simp[intOf];omega
  ·obtain rfl:l.length=j:=by omega
   rw[List.take_length]at HX;have HT:=Lib.hid (show xs.sum=lineSum l e by rw[←HX.out];rfl)
   have HC:=numsum_any hO.row (fun x hx=>by
    rw[←HX.out]at hx;obtain⟨y,hy,rfl⟩:=List.mem_map.1 hx
    exact h64 y (List.mem_filter.1 hy).1) (by omega)
   rw[HT.out,HEQ.out]at HC;clear HT HX;have HC:=Lib.hid HC;have tt:=tw.trans hO.tch;go_wp2_with fail;refine HC.out.mono ?_;rintro _ w1 ⟨rfl,t1⟩;clear HC;go_wp2;go_ret2
   exact⟨rfl,tt.trans t1⟩
