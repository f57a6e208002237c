/-
  Stakes that may be: all of them.
-/
import Derived.Test.YtoegobjnjljegaaGreatDoorZ10
import Derived.Test.YtoegobjnjljegaaGreatDoorZ9
import Derived.Lib.SliceRun
set_option maxRecDepth 100000
set_option maxHeartbeats 3200000
namespace Go.Gk
open Go.RowKit
theorem RetAt.no {w w':World} {a n:Int} (h:(n==0)=false) (t:Tf w w'):RetAt false w (.returned (.tuple #[iV a,iV n])) w':=⟨a,n,rfl,h,t⟩
theorem RetAt.yes {w w':World} {a:Int} (t:Tf w w'):RetAt true w (.returned (.tuple #[iV a,iV 0])) w':=⟨a,0,rfl,rfl,t⟩
theorem Row.takes' {P:Nat→Prop} {w:World} {α:Type} {f:α→List Value} {size:Nat} (hf:∀a,(f a).length=size) {A:Option Addr} {c:Nat} {l:List α} (h:Row P w (.slice A l.length c) l.length size (l.flatMap f)) {k:Nat} (hk:k≤l.length):zae f size P w (.slice A k c) (l.take k):=by
 have:=h.takes hf hk;unfold zae;rw[List.length_take,Nat.min_eq_left hk];exact this
end Go.Gk
namespace Go.Proofs.YtoegobjnjljegaaGreatDoor
open Go.RowKit Go.Gk
theorem zkf {w:World} {v:Value} {l:List zbv} (hl:zae zdr 4 (fun _=>True) w v l) (hn:l.length≤100000) (n:Int):
 Calls Tryz.prog 127 #[v,iV n] w (RetAt (zan l n) w):=by
 obtain⟨ok,hok⟩:∃ok,zan l n=ok:=⟨_,rfl⟩
 rw[hok];unfold zan zsz at hok;have hok:=Lib.hid hok;obtain⟨A,c,rfl,hc1,hc2⟩:=hl.form;by_cases h4:l.length≤400
 rotate_left
 ·have h4':400<(l.length:Int):=by omega
  obtain rfl:ok=false:=by rw[←hok.out,decide_eq_false h4];rfl
  clear hok;go_enter Tryz.func127,Tryz.ntmps127;go_wp2;go_ret2
  exact RetAt.no rfl (Tch.refl _ _)
 have h4':(l.length:Int)≤400:=by omega
 have HOK:=Lib.hid (show((List.range l.length).all fun i=>zfm (l.take (i+1)) n)=ok by rw[←hok.out,decide_eq_true h4];rfl);clear hok;go_enter Tryz.func127,Tryz.ntmps127;go_wp2_with fail;go_loopw [13] (fun i wr=>∃j:Nat,j≤l.length∧i=.int .i64 j∧((List.range j).all fun i=>zfm (l.take (i+1)) n)=true∧Tf w wr) (fun i _=>l.length-(intOf i).toNat)
 case atStart=>exact⟨0,by omega,rfl,rfl,Tch.refl _ _⟩
 case round=>
  obtain⟨j,hj,rfl,hall,ht⟩:=hrel;have HA:=Lib.hid hall;clear hall;by_cases hlt:j<l.length
  ·have hlt':(j:Int)<(l.length:Int):=by omega
   have hj0:=znn j;have hjc:((j+1:Nat):Int)≤(c:Int):=by omega
   have HC:=zrw (Row.takes' zbg (hl.keep ht) (show j+1≤l.length by omega)) (by rw[List.length_take];omega) (by rw[List.length_take];omega) n;have hs:=zch (fun i=>zfm (l.take (i+1)) n) j;have hno:=fun h=>zcu (p:=fun i=>zfm (l.take (i+1)) n) hlt h
   generalize zfm (l.take (j+1)) n=rb at *;have HS:=Lib.hid hs;have HN:=Lib.hid hno;clear hs hno;go_wp2_with fail;refine HC.mono ?_;rintro _ w1 ⟨q,rfl,hq,t1⟩;clear HC
   cases rb
   ·obtain rfl:ok=false:=by rw[←HOK.out,HN.out rfl]
    have hq':(q !=0)=true:=by simpa using hq
    have HQ:=Lib.hid hq;clear hq;go_wp2;go_ret2
    exact RetAt.no HQ.out (ht.trans t1)
   ·obtain rfl:q=0:=by simpa using hq
    clear hq;go_wp2;go_roundw
    case rel=>exact⟨j+1,by omega,by go_num,by rw[HS.out,HA.out];rfl,ht.trans t1⟩
    case measure=>simp[intOf];omega
  ·obtain rfl:l.length=j:=by omega
   obtain rfl:ok=true:=by rw[←HOK.out,HA.out]
   go_wp2;go_ret2
   exact RetAt.yes ht
open Go.RowKit Go.Gk
theorem zpl {w:World} {u v:Value} {k l:List Acc} (hk:zae zfq 4 (fun _=>True) w u k) (hl:zae zfq 4 (fun _=>True) w v l) (hnk:k.length≤100000) (hnl:l.length≤100000):
 Calls Tryz.prog 198 #[u,v] w (zgr (decide (k=l)) w):=by
 obtain⟨R,hR⟩:∃R,decide (k=l)=R:=⟨_,rfl⟩
 rw[hR];have HR:=Lib.hid hR;clear hR;obtain⟨A,c,rfl,hc1,hc2⟩:=hk.form;obtain⟨A',c',rfl,hc1',hc2'⟩:=hl.form;by_cases hlen:k.length=l.length
 rotate_left
 ·obtain rfl:R=false:=by rw[←HR.out];exact decide_eq_false fun e=>hlen (congrArg List.length e)
  have h1:((k.length:Int)==(l.length:Int))=false:=beq_eq_false_iff_ne.2 (by omega);have h2:((k.length:Int) !=(l.length:Int))=true:=bne_iff_ne.2 (by omega);have h3:(k.length==l.length)=false:=by simpa using hlen
  have h4:(k.length !=l.length)=true:=by simpa using hlen
  clear HR hk hl;go_enter Tryz.func198,Tryz.ntmps198;go_wp2;go_ret;exact⟨rfl,Tch.refl _ _⟩
 have HL:=Lib.hid hlen;rw[←hlen]at hc1'⊢;clear hlen;go_enter Tryz.func198,Tryz.ntmps198;go_wp2_with fail;go_loopw [13] (fun i wr=>∃j:Nat,j≤k.length∧i=.int .i64 j∧k.take j=l.take j∧Tf w wr) (fun i _=>k.length-(intOf i).toNat)
 case atStart=>exact⟨0,Nat.zero_le _,rfl,rfl,Tch.refl _ _⟩
 case round=>
  obtain⟨j,hj,rfl,he,ht⟩:=hrel;have HE:=Lib.hid he;clear he;by_cases hlt:j<k.length
  ·have hlt2:j<l.length:=by have:=HL.out;omega
   have hlt':(j:Int)<(k.length:Int):=by omega
   have hj0:=znn j;obtain⟨g,o,rfl⟩:=hk.head (by omega);obtain⟨g',o',rfl⟩:=hl.head (by omega);obtain⟨q0,q1,q2,q3⟩:=Row.four (hk.keep ht) zcm hlt rfl;obtain⟨p0,p1,p2,p3⟩:=Row.four (hl.keep ht) zcm hlt2 rfl;have hs:k[j]=l[j]→k.take (j+1)=l.take (j+1):=fun e=>by rw[List.take_succ_eq_append_getElem hlt,List.take_succ_eq_append_getElem hlt2,HE.out,e]
   have hno:¬k[j]=l[j]→R=false:=fun e=>by rw[←HR.out];exact decide_eq_false fun h=>e (by subst h;rfl)
   rw[HL.out]at hj hlt hlt'
   have hx:k[j]=l[j]↔(k[j].1==l[j].1&&k[j].2.1==l[j].2.1&&k[j].2.2.1==l[j].2.2.1&&k[j].2.2.2==l[j].2.2.2)=true:=by
    simp only[Bool.and_eq_true,beq_iff_eq,Prod.ext_iff,and_assoc]
   have HX:=Lib.hid hx;have HS:=Lib.hid hs;have HN:=Lib.hid hno;clear hx hs hno;generalize k[j]=x at *;generalize l[j]=y at *;have hq:=fun w'=>zt7 (x.1) (x.2.1) (x.2.2.1) (x.2.2.2) (y.1) (y.2.1) (y.2.2.1) (y.2.2.2) w'
   generalize(x.1==y.1&&x.2.1==y.2.1&&x.2.2.1==y.2.2.1&&x.2.2.2==y.2.2.2)=b at *;have c0:=wc0 q0;have d0:=wc0 p0;have c1:=wc0 q1;have d1:=wc0 p1;have c2:=wc0 q2;have d2:=wc0 p2;have c3:=wc0 q3;have d3:=wc0 p3;rw[←HL.out]at hj hlt hlt';go_wp2_with fail;refine zai (fun _=>False) [] 8 [] [] ?_ ?_
   ·exact trivial
   intro bef _;iterate 8 (refine zbt ?_;(try simp only[zaw]))
   refine za6 ?_;intro w1 hr hp1 hap;have t1:=ht.trans ((Tch.drew _ wr).trans hr);clear hap hp1 hr c0 d0 q0 p0 c1 d1 q1 p1 c2 d2 q2 p2 c3 d3 q3 p3
   cases b
   ·obtain rfl:R=false:=HN.out (fun e=>by have:=HX.out.1 e;simp at this);go_wp2;go_ret;exact⟨rfl,t1⟩
   ·have HS:=Lib.hid (HS.out (HX.out.2 rfl));go_wp2;go_roundw
    case rel=>exact⟨j+1,by omega,by go_num,HS.out,t1⟩
    case measure=>simp[intOf];omega
  ·obtain rfl:k.length=j:=by omega
   obtain rfl:R=true:=by
    rw[←HR.out];have e:=HE.out;rw[List.take_length,HL.out,List.take_length]at e;exact decide_eq_true e
   go_wp2;go_ret;exact⟨rfl,ht⟩
theorem zn8 {w:World} {u v:Value} {k l:List Ln4} (hk:zae zdr 4 (fun _=>True) w u k) (hl:zae zdr 4 (fun _=>True) w v l) (hnk:k.length≤100000) (hnl:l.length≤100000):
 Calls Tryz.prog 282 #[u,v] w (zgr (decide (k=l)) w):=by
 obtain⟨R,hR⟩:∃R,decide (k=l)=R:=⟨_,rfl⟩
 rw[hR];have HR:=Lib.hid hR;clear hR;obtain⟨A,c,rfl,hc1,hc2⟩:=hk.form;obtain⟨A',c',rfl,hc1',hc2'⟩:=hl.form;by_cases hlen:k.length=l.length
 rotate_left
 ·obtain rfl:R=false:=by rw[←HR.out];exact decide_eq_false fun e=>hlen (congrArg List.length e)
  have h1:((k.length:Int)==(l.length:Int))=false:=beq_eq_false_iff_ne.2 (by omega);have h2:((k.length:Int) !=(l.length:Int))=true:=bne_iff_ne.2 (by omega);have h3:(k.length==l.length)=false:=by simpa using hlen
  have h4:(k.length !=l.length)=true:=by simpa using hlen
  clear HR hk hl;go_enter Tryz.func282,Tryz.ntmps282;go_wp2;go_ret;exact⟨rfl,Tch.refl _ _⟩
 have HL:=Lib.hid hlen;rw[←hlen]at hc1'⊢;clear hlen;go_enter Tryz.func282,Tryz.ntmps282;go_wp2_with fail;go_loopw [13] (fun i wr=>∃j:Nat,j≤k.length∧i=.int .i64 j∧k.take j=l.take j∧Tf w wr) (fun i _=>k.length-(intOf i).toNat)
 case atStart=>exact⟨0,Nat.zero_le _,rfl,rfl,Tch.refl _ _⟩
 case round=>
  obtain⟨j,hj,rfl,he,ht⟩:=hrel;have HE:=Lib.hid he;clear he;by_cases hlt:j<k.length
  ·have hlt2:j<l.length:=by have:=HL.out;omega
   have hlt':(j:Int)<(k.length:Int):=by omega
   have hj0:=znn j;obtain⟨g,o,rfl⟩:=hk.head (by omega);obtain⟨g',o',rfl⟩:=hl.head (by omega);obtain⟨q0,q1,q2,q3⟩:=Row.four (hk.keep ht) zbg hlt rfl;obtain⟨p0,p1,p2,p3⟩:=Row.four (hl.keep ht) zbg hlt2 rfl;have hs:k[j]=l[j]→k.take (j+1)=l.take (j+1):=fun e=>by rw[List.take_succ_eq_append_getElem hlt,List.take_succ_eq_append_getElem hlt2,HE.out,e]
   have hno:¬k[j]=l[j]→R=false:=fun e=>by rw[←HR.out];exact decide_eq_false fun h=>e (by subst h;rfl)
   rw[HL.out]at hj hlt hlt'
   have hx:k[j]=l[j]↔(k[j].1==l[j].1&&k[j].2.1==l[j].2.1&&k[j].2.2.1==l[j].2.2.1&&k[j].2.2.2==l[j].2.2.2)=true:=by
    simp only[Bool.and_eq_true,beq_iff_eq,Prod.ext_iff,and_assoc]
   have HX:=Lib.hid hx;have HS:=Lib.hid hs;have HN:=Lib.hid hno;clear hx hs hno;generalize k[j]=x at *;generalize l[j]=y at *;have hq:=fun w'=>zrh (x.1) (x.2.1) (x.2.2.1) (x.2.2.2) (y.1) (y.2.1) (y.2.2.1) (y.2.2.2) w'
   generalize(x.1==y.1&&x.2.1==y.2.1&&x.2.2.1==y.2.2.1&&x.2.2.2==y.2.2.2)=b at *;have c0:=wc0 q0;have d0:=wc0 p0;have c1:=wc0 q1;have d1:=wc0 p1;have c2:=wc0 q2;have d2:=wc0 p2;have c3:=wc0 q3;have d3:=wc0 p3;rw[←HL.out]at hj hlt hlt';go_wp2_with fail;refine zai (fun _=>False) [] 8 [] [] ?_ ?_
   ·exact trivial
   intro bef _;iterate 8 (refine zbt ?_;(try simp only[zaw]))
   refine za6 ?_;intro w1 hr hp1 hap;have t1:=ht.trans ((Tch.drew _ wr).trans hr);clear hap hp1 hr c0 d0 q0 p0 c1 d1 q1 p1 c2 d2 q2 p2 c3 d3 q3 p3
   cases b
   ·obtain rfl:R=false:=HN.out (fun e=>by have:=HX.out.1 e;simp at this);go_wp2;go_ret;exact⟨rfl,t1⟩
   ·have HS:=Lib.hid (HS.out (HX.out.2 rfl));go_wp2;go_roundw
    case rel=>exact⟨j+1,by omega,by go_num,HS.out,t1⟩
    case measure=>simp[intOf];omega
  ·obtain rfl:k.length=j:=by omega
   obtain rfl:R=true:=by
    rw[←HR.out];have e:=HE.out;rw[List.take_length,HL.out,List.take_length]at e;exact decide_eq_true e
   go_wp2;go_ret;exact⟨rfl,ht⟩
end Go.Proofs.YtoegobjnjljegaaGreatDoor
namespace Go.Gk
open Go.RowKit
theorem accUp_at {l:List Acc} {k:Nat} (h:k<l.length):zgl l ((k:Int)+1)=l[k].1:=by
 unfold zgl;rw[show((k:Int)+1-1).toNat=k by omega,List.getElem?_eq_getElem h];rfl
theorem zum {l:List Acc} {a x:Int} {j:Nat} (h:j<l.length):
 zh2 l a (l.length-j) x=if zgl l x==a|| !zdb l (zgl l x)then zgl l x else zh2 l a (l.length-(j+1)) (zgl l x):=by
 obtain⟨n,hn⟩:∃n,l.length-j=n+1:=⟨l.length-j-1,by omega⟩
 rw[hn,show l.length-(j+1)=n by omega];rfl
end Go.Gk
namespace Go.Proofs.YtoegobjnjljegaaGreatDoor
open Go.RowKit Go.Gk
theorem zpm (p n:Int) (w:World):Calls Tryz.prog 200 #[iV p,iV n] w (RetOk (zgp p n) w):=by
 obtain⟨ok,hok⟩:∃ok,zgp p n=ok:=⟨_,rfl⟩
 rw[hok];unfold zgp at hok;have HOK:=Lib.hid hok;clear hok;by_cases h1:0≤p
 rotate_left
 ·obtain rfl:ok=false:=by rw[←HOK.out];simp[h1]
  go_enter Tryz.func200,Tryz.ntmps200;go_wp2;all_goals(go_ret;exact RetOk.no rfl (Tch.refl _ _))
 by_cases h2:p≤n
 rotate_left
 ·obtain rfl:ok=false:=by rw[←HOK.out];simp[h2]
  go_enter Tryz.func200,Tryz.ntmps200;go_wp2;all_goals(go_ret;exact RetOk.no rfl (Tch.refl _ _))
 by_cases h3:1≤p
 rotate_left
 ·obtain rfl:ok=true:=by rw[←HOK.out];simp[h1,h2,h3]
  go_enter Tryz.func200,Tryz.ntmps200;go_wp2;all_goals(go_ret;exact RetOk.yes (Tch.refl _ _))
 by_cases h4:p≤3
 ·obtain rfl:ok=false:=by rw[←HOK.out];simp[h3,h4]
  go_enter Tryz.func200,Tryz.ntmps200;go_wp2;all_goals(go_ret;exact RetOk.no rfl (Tch.refl _ _))
 ·obtain rfl:ok=true:=by rw[←HOK.out];simp[h1,h2,h4]
  go_enter Tryz.func200,Tryz.ntmps200;go_wp2;all_goals(go_ret;exact RetOk.yes (Tch.refl _ _))
theorem zrp (p k:Int) (s q:Bool) (w:World):Calls Tryz.prog 201 #[.agg #[iV p,iV k,.bool s,.bool q]] w (RetOk (zj1 (p,k,s,q)) w):=by
 obtain⟨ok,hok⟩:∃ok,zj1 (p,k,s,q)=ok:=⟨_,rfl⟩
 rw[hok];unfold zj1 at hok;simp only at hok;have HOK:=Lib.hid hok;clear hok;have tw:=tal w (.cells #[iV p,iV k,.bool s,.bool q] 91);by_cases h1:1≤k
 rotate_left
 ·obtain rfl:ok=false:=by rw[←HOK.out];simp[h1]
  go_enter Tryz.func201,Tryz.ntmps201;go_wp2;all_goals(go_ret;exact RetOk.no rfl tw)
 by_cases h2:k≤3
 rotate_left
 ·obtain rfl:ok=false:=by rw[←HOK.out];simp[h2]
  go_enter Tryz.func201,Tryz.ntmps201;go_wp2;all_goals(go_ret;exact RetOk.no rfl tw)
 cases s
 ·obtain rfl:ok=true:=by rw[←HOK.out];simp[h1,h2]
  go_enter Tryz.func201,Tryz.ntmps201;go_wp2;all_goals(go_ret;exact RetOk.yes tw)
 cases q
 ·obtain rfl:ok=true:=by rw[←HOK.out];simp[h1,h2]
  go_enter Tryz.func201,Tryz.ntmps201;go_wp2;all_goals(go_ret;exact RetOk.yes tw)
 ·obtain rfl:ok=false:=by rw[←HOK.out];simp
  go_enter Tryz.func201,Tryz.ntmps201;go_wp2;all_goals(go_ret;exact RetOk.no rfl tw)
theorem zpn {w:World} {v:Value} {l:List Acc} (hl:zae zfq 4 (fun _=>True) w v l) (hn:l.length≤100000) (a:Int) (h1:1≤a) (h2:a≤l.length):
 Calls Tryz.prog 202 #[v,iV a] w (zgr (zih l a) w):=by
 obtain⟨R,hR⟩:∃R,zh2 l a (l.length-0) a=R:=⟨_,rfl⟩
 have hRR:zih l a=(R==a):=by rw[←hR];rfl
 rw[hRR];have HR:=Lib.hid hR;clear hR hRR;obtain⟨A,c,rfl,hc1,hc2⟩:=hl.form
 obtain⟨k,hk,rfl⟩:∃k:Nat,k<l.length∧a=(k:Int)+1:=⟨(a-1).toNat,by omega,by omega⟩
 have hle:(l.length:Int)≤100000:=by omega
 obtain⟨a,ha⟩:∃a:Int,(k:Int)+1=a:=⟨_,rfl⟩
 rw[ha]at HR h1 h2⊢;have HK:=Lib.hid ha;clear ha;go_enter Tryz.func202,Tryz.ntmps202;go_wp2_with fail;go_loopw [5,9] (fun at' i wr=>∃(j k:Nat),j≤l.length∧i=.int .i64 j∧k<l.length∧at'=.int .i64 ((k:Int)+1)∧zh2 l a (l.length-j) ((k:Int)+1)=R∧Tf w wr) (fun _ i _=>l.length-(intOf i).toNat)
 case atStart=>exact⟨0,k,by omega,rfl,hk,by rw[HK.out],by rw[HK.out];exact HR.out,Tch.refl _ _⟩
 case round=>
  obtain⟨j,m,hj,rfl,hm,rfl,hT,ht⟩:=hrel;by_cases hlt:j<l.length
  ·obtain⟨g,o,rfl⟩:=hl.head (by omega);obtain⟨q0,q1,q2,q3⟩:=Row.four (hl.keep ht) zcm hm rfl;rw[zum hlt,accUp_at hm]at hT;have hlt':(j:Int)<(l.length:Int):=by omega
   have hj0:=znn j;have hm0:=znn m;have hm1:(m:Int)<(l.length:Int):=by omega
   have HT:=Lib.hid hT;have HIS:=Lib.hid (zls (hl.keep ht) l[m].1);clear hT q1 q2 q3;generalize l[m].1=y at *;by_cases he:y=a
   ·have HF:=Lib.hid (show R=y by rw[←HT.out,he];simp);have he1:(y==a)=true:=by simpa using he
    have HE:=Lib.hid he;clear HT he;go_wp2;go_ret;exact⟨by show Ending.returned (.bool true)=_;rw[HF.out,HE.out];simp,ht⟩
   have he1:(y==a)=false:=by simpa using he
   have he2:(y !=a)=true:=by simpa using he
   rw[he1]at HT;go_wp2_with fail;refine HIS.out.mono ?_;rintro _ _ ⟨rfl,rfl⟩;clear HIS
   cases hb:zdb l y
   ·rw[hb]at HT;have HF:=Lib.hid (show R=y by rw[←HT.out];rfl);clear hb HT;go_wp2;go_ret;exact⟨by show Ending.returned (.bool false)=_;rw[HF.out,he1],ht⟩
   ·rw[hb]at HT
    obtain⟨m',hm',rfl⟩:∃m':Nat,m'<l.length∧y=(m':Int)+1:=by
     unfold zdb at hb;simp only[Bool.and_eq_true,decide_eq_true_eq]at hb;exact⟨(y-1).toNat,by omega,by omega⟩
    have HF:=Lib.hid (show zh2 l a (l.length-(j+1)) ((m':Int)+1)=R by rw[←HT.out];rfl);clear hb HT;go_wp2;go_roundw
    case rel=>exact⟨j+1,m',by omega,by go_num,hm',rfl,HF.out,ht⟩
    case measure=>simp[intOf];omega
  ·obtain rfl:l.length=j:=by omega
   have HF:=Lib.hid (show R=(m:Int)+1 by rw[←hT,Nat.sub_self];rfl);clear hT;by_cases he:(m:Int)+1=a
   ·have he1:((m:Int)+1==a)=true:=by simpa using he
    have HE:=Lib.hid he;clear he;go_wp2;go_ret;exact⟨by show Ending.returned (.bool true)=_;rw[HF.out,HE.out];simp,ht⟩
   ·have he1:((m:Int)+1==a)=false:=by simpa using he
    go_wp2;go_ret;exact⟨by show Ending.returned (.bool false)=_;rw[HF.out,he1],ht⟩
theorem zun (w:World):Calls Tryz.prog 199 #[] w fun e w'=>∃u,e=.returned u∧zae zfq 4 (fun _=>True) w' u zef∧Tf w w':=by
 have hb:=Blk.new2 (w.alloc (.cells #[iV 0,iV 1,.bool false,.bool false] 91)) (.cells #[iV 0,iV 1,.bool true,.bool false] 91) 91 #[iV 0,iV 1,.bool true,.bool false,iV 0,iV 1,.bool false,.bool false,iV 0,iV 1,.bool false,.bool false];rw[World.size_alloc]at hb;have hr:=Lib.hid (Row.blk (B:=fun _=>True) hb trivial (n:=3) (size:=4) rfl (by unfold maxLen;omega));clear hb;go_enter Tryz.func199,Tryz.ntmps199;go_wp2;go_ret;exact⟨_,rfl,hr.out,((Tch.alloc _ _ _).trans (Tch.alloc _ _ _)).trans (Tch.alloc _ _ _)⟩
def zuo (l:List Acc) (x:Acc):Bool:=zgp x.1 l.length&&zj1 x
theorem zpo {w:World} {v:Value} {l:List Acc} (hl:zae zfq 4 (fun _=>True) w v l) (hn:l.length≤100000):
 Calls Tryz.prog 125 #[v] w (RetAt (zj2 l) w):=by
 obtain⟨ok,hok⟩:∃ok,zj2 l=ok:=⟨_,rfl⟩
 rw[hok];unfold zj2 at hok;rw[show(fun x:Acc=>zgp x.1 l.length&&zj1 x)=zuo l from rfl]at hok;have HOK:=Lib.hid hok;clear hok;obtain⟨A,c,rfl,hc1,hc2⟩:=hl.form;by_cases h4:l.length≤60
 rotate_left
 ·have h4':60<(l.length:Int):=by omega
  obtain rfl:ok=false:=by rw[←HOK.out,decide_eq_false h4];rfl
  clear HOK;go_enter Tryz.func125,Tryz.ntmps125;go_wp2;go_ret2
  exact RetAt.no rfl (Tch.refl _ _)
 have h4':(l.length:Int)≤60:=by omega
 rw[decide_eq_true h4,Bool.true_and]at HOK;by_cases h3:3≤l.length
 rotate_left
 ·have h3':(l.length:Int)<3:=by omega
  obtain rfl:ok=false:=by rw[←HOK.out,decide_eq_false h3];rfl
  clear HOK;go_enter Tryz.func125,Tryz.ntmps125;go_wp2_with fail;refine zai (fun _=>False) [] 7 [(6,.inr fun _ _=>True)] [] ?_ ?_
  ·exact⟨fun _ _ _ _ _=>trivial,trivial⟩
  intro bef _;iterate 4 (refine zbt ?_;(try simp only[zaw]))
  iterate 3 (refine zm8 (by rfl) ?_;(try simp only[zaw]))
  refine za6 ?_;intro w1 hr hp1 hap;have t1:=(Tch.drew _ w).trans hr;clear hap hp1 hr;go_wp2;go_ret2
  exact RetAt.no rfl t1
 have h3':3≤(l.length:Int):=by omega
 have h3c:(3:Int)≤(c:Int):=by omega
 have h3n:¬(l.length:Int)<3:=by omega
 have h3d:decide ((l.length:Int)<3)=false:=decide_eq_false h3n;rw[decide_eq_true h3,Bool.true_and]at HOK;go_enter Tryz.func125,Tryz.ntmps125;go_wp2_with fail;refine zai (fun _=>False) [] 7 [(6,.inr fun u w'=>zae zfq 4 (fun _=>True) w' u zef)] [] ?_ ?_
 ·exact⟨fun u a b hr h=>h.keep hr,trivial⟩
 intro bef _;iterate 6 (refine zbt ?_;(try simp only[zaw]))
 refine zaq (by rfl) (by rfl) (fun w1 hr hf=>?_) (fun d=>?_)
 ·refine zaa (d:=21) rfl (by simp) (fun K hK=>?_);go_step;refine(zun w1).mono ?_;rintro _ w2 ⟨u,rfl,hu,t2⟩;exact hK _ _ ⟨⟨hu,t2⟩,zaf⟩
 simp only[zaw];refine za6 ?_;intro w1 hr hp hap;have hd:=hp _ (List.mem_singleton.2 rfl);dsimp only at hd
 have t1:=(Tch.drew _ w).trans hr;have hC:=zpl (Row.takes' zcm (hl.keep t1) h3) hd (by rw[List.length_take];omega) (by decide);obtain⟨Ad,cd,rfl,_,_⟩:=hd.form;clear hap hp hr hd;go_wp2_with fail;refine hC.mono ?_;rintro _ w2 ⟨rfl,t2⟩;have t3:=t1.trans t2;clear hC t1 t2;clear h3n h3d;generalize hb:decide (l.take 3=zef)=b at *;clear hb
 cases b
 ·obtain rfl:ok=false:=by rw[←HOK.out];rfl
  clear HOK;go_wp2;go_ret2
  exact RetAt.no rfl t3
 rw[Bool.true_and]at HOK;go_wp2_with fail;clear h3c;go_loopw [27] (fun i wr=>∃j:Nat,j≤l.length∧i=.int .i64 j∧(l.take j).all (zuo l)=true∧Tf w wr) (fun i _=>l.length-(intOf i).toNat)
 case atStart=>exact⟨0,by omega,rfl,rfl,t3⟩
 case round=>
  obtain⟨j,hj,rfl,hall,ht⟩:=hrel;have HA:=Lib.hid hall;clear hall t3;by_cases hlt:j<l.length
  ·have hlt':(j:Int)<(l.length:Int):=by omega
   have hj0:=znn j;obtain⟨g,o,rfl⟩:=hl.head (by omega);obtain⟨q0,q1,q2,q3⟩:=Row.four (hl.keep ht) zcm hlt rfl;have hs:=zek (p:=zuo l) hlt;have hno:=fun h=>zs3 (p:=zuo l) hlt h
   have ha:zuo l l[j]=(zgp l[j].1 l.length&&zj1 l[j]):=rfl;generalize zuo l l[j]=oj at *;generalize l[j]=s at *;obtain⟨p,k,sp,pt⟩:=s;simp only at q0 q1 q2 q3 ha;have HP:=Lib.hid (fun w'=>zpm p l.length w');have HK:=Lib.hid (fun w'=>zrp p k sp pt w');generalize zgp p l.length=b1 at *;generalize zj1 (p,k,sp,pt)=b2 at *;have HS:=Lib.hid hs;have HN:=Lib.hid hno;have HAJ:=Lib.hid ha;clear hs hno ha;go_wp2_with fail;have tA:=ht.trans (tal wr (.cells #[iV p,iV k,.bool sp,.bool pt] 91));have hbs:=Blk.new wr 91 #[iV p,iV k,.bool sp,.bool pt];generalize wr.alloc (.cells #[iV p,iV k,.bool sp,.bool pt] 91)=W2 at *;generalize wr.heap.size=N at *;refine(HP.out _).mono ?_;rintro _ w3 ⟨q,rfl,hq,t4⟩;have t5:=tA.trans t4;have hb3:=hbs.keep t4 id;clear HP t4 tA hbs
   cases b1
   ·obtain rfl:ok=false:=by rw[←HOK.out,HN.out (by rw[HAJ.out];rfl)];rfl
    have hq':(q !=0)=true:=by simpa using hq
    have HQ:=Lib.hid hq;clear hq hb3;go_wp2;go_ret2
    exact RetAt.no HQ.out t5
   obtain rfl:q=0:=by simpa using hq
   clear hq;obtain⟨c0,c1,c2,c3⟩:=hb3.f4;clear hb3;go_wp2_with fail;refine(HK.out _).mono ?_;rintro _ w4 ⟨q,rfl,hq,t6⟩;have t7:=t5.trans t6;clear HK t6 t5 c0 c1 c2 c3
   cases b2
   ·obtain rfl:ok=false:=by rw[←HOK.out,HN.out (by rw[HAJ.out];rfl)];rfl
    have hq':(q !=0)=true:=by simpa using hq
    have HQ:=Lib.hid hq;clear hq;go_wp2;go_ret2
    exact RetAt.no HQ.out t7
   obtain rfl:q=0:=by simpa using hq
   clear hq;go_wp2;go_roundw
   case rel=>exact⟨j+1,by omega,by go_num,by rw[HS.out,HA.out,HAJ.out];rfl,t7⟩
   case measure=>simp[intOf];omega
  ·obtain rfl:l.length=j:=by omega
   rw[List.take_length]at HA;rw[HA.out,Bool.true_and]at HOK;have HT:=Lib.hid (zgz (hl.keep ht) hn (zih l) 202 #[.slice A l.length c] #[] (enters_of Tryz.func202 (by kernel_rfl) rfl) (fun x w' h1 h2 t=>zpn ((hl.keep ht).keep t) hn x h1 h2));generalize hbad:(zal l.length).filter (zih l)=bad at *;have hbl:bad.length≤60:=by rw[←hbad];exact Nat.le_trans (List.length_filter_le _ _) (by rw[za5];exact h4)
   clear hbad;go_wp2_with fail;refine HT.out.mono ?_;rintro _ w3 ⟨u,rfl,hO⟩;have t4:=ht.trans hO.tch;obtain⟨U,cu,rfl,hu1,hu2⟩:=hO.form
   cases bad with
   |nil=>
    obtain rfl:ok=true:=by rw[←HOK.out];rfl
    simp only[List.length_nil];go_wp2;go_ret2
    exact RetAt.yes t4
   |cons b0 br=>
    obtain rfl:ok=false:=by rw[←HOK.out];rfl
    obtain⟨g,o,rfl⟩:=hO.row.head (by simp);have q0:=Row.one hO.row zap (i:=0) (by simp) rfl;simp only[List.length_cons,Nat.add_zero]at q0⊢;go_wp2;go_ret2
    exact RetAt.no rfl t4
end Go.Proofs.YtoegobjnjljegaaGreatDoor
namespace Go.Gk
open Go.RowKit
def zct (x:Ln4) (ne na:Int):Nat→Bool
 |0=>!(decide (1≤x.1)&&decide (x.1≤ne))
 |1=>!(decide (1≤x.2.1)&&decide (x.2.1≤na))
 |2=>!((decide (0≤x.2.2.1)&&decide (x.2.2.1≤ne))&& !(x.2.2.1==x.1))
 |_=>x.2.2.2==0
theorem zpp (x:Ln4) (ne na:Int):zgj x ne na=(List.range 4).all fun k=>!zct x ne na k:=by
 have e:List.range 4=[0,1,2,3]:=rfl;rw[e];simp only[List.all_cons,List.all_nil,zct,Bool.not_not,zgj,Bool.and_true,Bool.and_assoc]
end Go.Gk
namespace Go.Proofs.YtoegobjnjljegaaGreatDoor
open Go.RowKit Go.Gk
theorem zwz (a b p m n:Int) {w:World} {g:Nat} (hg:w.cell? ⟨g,0,none⟩=some (iV n)):
 Calls Tryz.prog 314 #[.agg #[iV a,iV b,iV p,iV m],.pointer (some ⟨g,0,none⟩)] w (zgr (zct (a,b,p,m) n 0 0) w):=by
 have tw:=tal w (.cells #[iV a,iV b,iV p,iV m] 60);have hg1:=tw.cell_some hg id
 obtain⟨R,hR⟩:∃R,zct (a,b,p,m) n 0 0=R:=⟨_,rfl⟩
 rw[hR];unfold zct at hR;simp only at hR;have HR:=Lib.hid hR;clear hR;by_cases h1:1≤a
 rotate_left
 ·obtain rfl:R=true:=by rw[←HR.out];simp[h1]
  clear HR;go_enter Tryz.func314,Tryz.ntmps314;go_wp2;all_goals(go_ret;exact⟨by first|rfl|(simp;omega),tw⟩)
 by_cases h2:a≤n
 rotate_left
 ·obtain rfl:R=true:=by rw[←HR.out];simp[h2]
  clear HR;go_enter Tryz.func314,Tryz.ntmps314;go_wp2;all_goals(go_ret;exact⟨by first|rfl|(simp;omega),tw⟩)
 obtain rfl:R=false:=by rw[←HR.out];simp[h1,h2]
 clear HR;go_enter Tryz.func314,Tryz.ntmps314;go_wp2;all_goals(go_ret;exact⟨by first|rfl|(simp;omega),tw⟩)
theorem zw0 (a b p m n:Int) {w:World} {g:Nat} (hg:w.cell? ⟨g,0,none⟩=some (iV n)):
 Calls Tryz.prog 315 #[.agg #[iV a,iV b,iV p,iV m],.pointer (some ⟨g,0,none⟩)] w (zgr (zct (a,b,p,m) 0 n 1) w):=by
 have tw:=tal w (.cells #[iV a,iV b,iV p,iV m] 60);have hg1:=tw.cell_some hg id
 obtain⟨R,hR⟩:∃R,zct (a,b,p,m) 0 n 1=R:=⟨_,rfl⟩
 rw[hR];unfold zct at hR;simp only at hR;have HR:=Lib.hid hR;clear hR;by_cases h1:1≤b
 rotate_left
 ·obtain rfl:R=true:=by rw[←HR.out];simp[h1]
  clear HR;go_enter Tryz.func315,Tryz.ntmps315;go_wp2;all_goals(go_ret;exact⟨by first|rfl|(simp;omega),tw⟩)
 by_cases h2:b≤n
 rotate_left
 ·obtain rfl:R=true:=by rw[←HR.out];simp[h2]
  clear HR;go_enter Tryz.func315,Tryz.ntmps315;go_wp2;all_goals(go_ret;exact⟨by first|rfl|(simp;omega),tw⟩)
 obtain rfl:R=false:=by rw[←HR.out];simp[h1,h2]
 clear HR;go_enter Tryz.func315,Tryz.ntmps315;go_wp2;all_goals(go_ret;exact⟨by first|rfl|(simp;omega),tw⟩)
theorem zw1 (a b p m n:Int) {w:World} {g:Nat} (hg:w.cell? ⟨g,0,none⟩=some (iV n)):
 Calls Tryz.prog 316 #[.agg #[iV a,iV b,iV p,iV m],.pointer (some ⟨g,0,none⟩)] w (zgr (zct (a,b,p,m) n 0 2) w):=by
 have tw:=tal w (.cells #[iV a,iV b,iV p,iV m] 60);have hg1:=tw.cell_some hg id
 obtain⟨R,hR⟩:∃R,zct (a,b,p,m) n 0 2=R:=⟨_,rfl⟩
 rw[hR];unfold zct at hR;simp only at hR;have HR:=Lib.hid hR;clear hR;by_cases h1:0≤p
 rotate_left
 ·obtain rfl:R=true:=by rw[←HR.out];simp[h1]
  clear HR;go_enter Tryz.func316,Tryz.ntmps316;go_wp2;all_goals(go_ret;exact⟨by first|rfl|(simp;omega),tw⟩)
 by_cases h2:p≤n
 rotate_left
 ·obtain rfl:R=true:=by rw[←HR.out];simp[h2]
  clear HR;go_enter Tryz.func316,Tryz.ntmps316;go_wp2;all_goals(go_ret;exact⟨by first|rfl|(simp;omega),tw⟩)
 by_cases h9:p=a
 ·subst h9;obtain rfl:R=true:=by rw[←HR.out];simp
  clear HR;go_enter Tryz.func316,Tryz.ntmps316;go_wp2;all_goals(go_ret;exact⟨by first|rfl|(simp;omega),tw⟩)
 have h9':(p==a)=false:=by simpa using h9
 obtain rfl:R=false:=by rw[←HR.out];simp[h1,h2,h9]
 clear HR;go_enter Tryz.func316,Tryz.ntmps316;go_wp2;all_goals(go_ret;exact⟨by first|rfl|(simp;omega),tw⟩)
theorem zw2 (a b p m:Int) (w:World):
 Calls Tryz.prog 317 #[.agg #[iV a,iV b,iV p,iV m]] w (zgr (zct (a,b,p,m) 0 0 3) w):=by
 have tw:=tal w (.cells #[iV a,iV b,iV p,iV m] 60);show Calls Tryz.prog 317 _ w (zgr (m==0) w);go_enter Tryz.func317,Tryz.ntmps317;go_wp2;go_ret;exact⟨rfl,tw⟩
def zgx (be ba:Nat):Array Value:= #[.func (.func 314) #[] #[.pointer (some ⟨be,0,none⟩)],iV 20,.func (.func 315) #[] #[.pointer (some ⟨ba,0,none⟩)],iV 21,.func (.func 316) #[] #[.pointer (some ⟨be,0,none⟩)],iV 24,.func (.func 317) #[] #[],iV 31]
theorem zw3 (ne na:Int) (w:World):
 Calls Tryz.prog 274 #[iV ne,iV na] w fun e w'=>∃be ba br:Nat,e=.returned (.slice (some ⟨br,0,none⟩) 4 4)∧Blk w' be 3 #[iV ne]∧Blk w' ba 3 #[iV na]∧Blk w' br 339 (zgx be ba)∧Tf w w':=by
 have h1:=((Blk.new w 3 #[iV ne]).alloc (.cells #[iV na] 3)).alloc (.cells (zgx w.heap.size (w.heap.size+1)) 339);have h2:=(Blk.new2 w (.cells #[iV ne] 3) 3 #[iV na]).alloc (.cells (zgx w.heap.size (w.heap.size+1)) 339);have h3:=Blk.new2 (w.alloc (.cells #[iV ne] 3)) (.cells #[iV na] 3) 339 (zgx w.heap.size (w.heap.size+1));rw[World.size_alloc]at h3;have H1:=Lib.hid h1;have H2:=Lib.hid h2;have H3:=Lib.hid h3;clear h1 h2 h3;go_enter Tryz.func274,Tryz.ntmps274;go_wp2;go_ret;exact⟨_,_,_,rfl,H1.out,H2.out,H3.out,((Tch.alloc _ _ _).trans (Tch.alloc _ _ _)).trans (Tch.alloc _ _ _)⟩
theorem zpq (p r:Int) {w:World} {v:Value} {l:List Ln4} (hl:zae zdr 4 (fun _=>True) w v l) (hn:l.length≤1000):
 Calls Tryz.prog 275 #[.agg #[iV p,iV r,v]] w fun e w'=>∃u zs,e=.returned u∧zae zby 1 (fun _=>True) w' u zs∧(∀x,x∈zs↔x∈l.map (·.1))∧zs.length≤l.length∧Tf w w':=by
 obtain⟨A,c,rfl,hc1,hc2⟩:=hl.form;have hb:=Blk.new w 207 #[.int .i64 p,.int .i64 r,.slice A l.length c];have tw:=tal w (.cells #[.int .i64 p,.int .i64 r,.slice A l.length c] 207);have hl1:=hl.keep tw;go_enter Tryz.func275,Tryz.ntmps275;go_wp2_with fail;generalize w.alloc (.cells #[.int .i64 p,.int .i64 r,.slice A l.length c] 207)=W at *;go_loopw [3,9] (fun out i wr=>∃(j:Nat) (xs:List Int),j≤l.length∧i=.int .i64 j∧(l.take j).map (·.1)=xs∧zet W wr out xs) (fun _ i _=>l.length-(intOf i).toNat)
 case atStart=>exact⟨0,[],Nat.zero_le _,rfl,rfl,Outs.start _ _ _ (Tch.refl _ _)⟩
 case round=>
  obtain⟨j,xs,hj,rfl,hx,hO⟩:=hrel;obtain⟨O,co,rfl,ho1,ho2⟩:=hO.form;have hxl:xs.length≤j:=by rw[←hx,List.length_map,List.length_take];omega
  have HX:=Lib.hid hx;clear hx;by_cases hlt:j<l.length
  ·have hlt':(j:Int)<(l.length:Int):=by omega
   have hj0:=znn j;obtain⟨g,o,rfl⟩:=hl1.head (by omega);obtain⟨q0,q1,q2,q3⟩:=Row.four (hl1.keep hO.tch) zbg hlt rfl;have HS:=Lib.hid (show(l.take (j+1)).map (·.1)=xs++[l[j].1] by rw[List.take_succ_eq_append_getElem hlt,List.map_append,HX.out];rfl);generalize l[j]=s at *;obtain⟨x,b,d,m⟩:=s;simp only at q0 q1 q2 q3 HS;have hO:=hO.keep (Tch.alloc _ wr (.cells #[iV x,iV b,iV d,iV m] 60));go_wp2_with ((at_builtin;refine apd zaj (hO.own.alloc _) (Go.Gk.Src.one (news:=[iV (x)]) rfl (fun m9 u9 hu9=>by rw[(Blk.new2 (wr) (.cells #[iV x,iV b,iV d,iV m] 60) 3 #[iV (x)]).cell m9];simpa using hu9)) (by simp;rfl) ?_;intro v2 w2 ho2 hg2 hl2;have hO2:=hO.step (x:=x) (Tch.alloc _ _ _) ho2 hg2 hl2;obtain⟨O2,co2,rfl,_,_⟩:=zac ho2));go_roundw
   case rel=>exact⟨j+1,_,by omega,by go_num,HS.out,hO2⟩
   case measure=>simp[intOf];omega
  ·obtain rfl:l.length=j:=by omega
   rw[List.take_length]at HX;have HC:=Lib.hid (sort_any hO (by omega));go_wp2_with fail;refine HC.out.mono ?_;rintro _ w1 ⟨rfl,ys,hy1,hy2,hH,t1⟩;have HC2:=Lib.hid (zq8 hH (by omega) (F:=fun g=>W.heap.size≤g) (fun g hg=>(hO.own.lt g hg).1));clear HC;go_wp2_with fail;refine HC2.out.mono ?_;rintro _ w2 ⟨u,zs,rfl,hz,hz1,hz2,t2⟩;clear HC2;obtain⟨U,cu,rfl,hu1,hu2⟩:=hz.form;have tt:=(tw.trans hO.tch).trans' (t1.trans t2) (fun i hi=>.inr (Nat.le_trans tw.size hi));have HZ:=Lib.hid (show∀x,x∈zs↔x∈l.map (·.1)from fun x=>by rw[hz1,hy2,HX.out]);have hle:zs.length≤l.length:=by omega
   clear hz1 hy2;go_wp2;go_ret;exact⟨_,zs,rfl,hz,HZ.out,hle,tt⟩
open Go.RowKit Go.Gk
theorem zrq (p r e:Int) {w:World} {v:Value} {l:List Ln4} (hl:zae zdr 4 (fun _=>True) w v l) (h64:∀x∈l,I64 x.2.2.2) (hn:l.length≤1000):
 Calls Tryz.prog 276 #[.agg #[iV p,iV r,v],iV e] w fun x w'=>x=.returned (zex (zfn l e))∧Tf w w':=by
 obtain⟨A,c,rfl,hc1,hc2⟩:=hl.form;have hb:=Blk.new w 207 #[.int .i64 p,.int .i64 r,.slice A l.length c];have tw:=tal w (.cells #[.int .i64 p,.int .i64 r,.slice A l.length c] 207);have hl1:=hl.keep tw;obtain⟨n,q,eq⟩:=zdu (zfn l e);rw[eq];have HEQ:=Lib.hid eq;clear eq;go_enter Tryz.func276,Tryz.ntmps276;go_wp2_with fail;generalize w.alloc (.cells #[.int .i64 p,.int .i64 r,.slice A l.length c] 207)=W at *;go_loopw [6,12] (fun out i wr=>∃(j:Nat) (xs:List Int),j≤l.length∧i=.int .i64 j∧((l.take j).filter fun x=>x.1==e).map (·.2.2.2)=xs∧zet W wr out xs) (fun _ i _=>l.length-(intOf i).toNat)
 case atStart=>exact⟨0,[],Nat.zero_le _,rfl,rfl,Outs.start _ _ _ (Tch.refl _ _)⟩
 case round=>
  obtain⟨j,xs,hj,rfl,hx,hO⟩:=hrel;obtain⟨O,co,rfl,ho1,ho2⟩:=hO.form;have hxl:xs.length≤j:=by rw[←hx,List.length_map];exact Nat.le_trans (List.length_filter_le _ _) (by rw[List.length_take];omega)
  have HX:=Lib.hid hx;clear hx;by_cases hlt:j<l.length
  ·have hlt':(j:Int)<(l.length:Int):=by omega
   have hj0:=znn j;obtain⟨g,o,rfl⟩:=hl1.head (by omega);obtain⟨q0,q1,q2,q3⟩:=Row.four (hl1.keep hO.tch) zbg hlt rfl
   have HS:=Lib.hid (show((l.take (j+1)).filter fun x=>x.1==e).map (·.2.2.2)=xs++(if l[j].1==e then[l[j].2.2.2]else[]) by
    rw[List.take_succ_eq_append_getElem hlt,List.filter_append,List.map_append,HX.out];congr 1
    by_cases hh:(l[j].1==e)=true<;>simp[hh])
   generalize l[j]=s at *;obtain⟨x,b,d,m⟩:=s;simp only at q0 q1 q2 q3 HS;have hO:=hO.keep (Tch.alloc _ wr (.cells #[iV x,iV b,iV d,iV m] 60))
   cases hb:(x==e)
   ·rw[hb]at HS;have HS:=Lib.hid (show((l.take (j+1)).filter fun x=>x.1==e).map (·.2.2.2)=xs by rw[HS.out];simp);go_wp2;go_roundw
    case rel=>exact⟨j+1,xs,by omega,by go_num,HS.out,hO⟩
    case measure=>simp[intOf];omega
   ·rw[hb]at HS;go_wp2_with ((at_builtin;refine apd zaj (hO.own.alloc _) (Go.Gk.Src.one (news:=[iV (m)]) rfl (fun m9 u9 hu9=>by rw[(Blk.new2 (wr) (.cells #[iV x,iV b,iV d,iV m] 60) 3 #[iV (m)]).cell m9];simpa using hu9)) (by simp;rfl) ?_;intro v2 w2 ho2 hg2 hl2;have hO2:=hO.step (x:=m) (Tch.alloc _ _ _) ho2 hg2 hl2;obtain⟨O2,co2,rfl,_,_⟩:=zac ho2));go_roundw
    case rel=>exact⟨j+1,_,by omega,by go_num,HS.out,hO2⟩
    case measure=>simp[intOf];omega
  ·obtain rfl:l.length=j:=by omega
   rw[List.take_length]at HX;have HT:=Lib.hid (show xs.sum=zfn l e by rw[←HX.out];rfl)
   have HC:=zm4 hO.row (fun x hx=>by
    rw[←HX.out]at hx;obtain⟨y,hy,rfl⟩:=List.mem_map.1 hx
    exact h64 y (List.mem_filter.1 hy).1) (by omega)
   rw[HT.out,HEQ.out]at HC;clear HT HX;have HC:=Lib.hid HC;have tt:=tw.trans hO.tch;go_wp2_with fail;refine HC.out.mono ?_;rintro _ w1 ⟨rfl,t1⟩;clear HC;go_wp2;go_ret2
   exact⟨rfl,tt.trans t1⟩
end Go.Proofs.YtoegobjnjljegaaGreatDoor
namespace Go.Gk
end Go.Gk
namespace Go.Proofs.YtoegobjnjljegaaGreatDoor
open Go.RowKit Go.Gk
theorem zw4 (x:Ln4) (ne na:Int) {w:World} {be ba:Nat} (hbe:Blk w be 3 #[iV ne]) (hba:Blk w ba 3 #[iV na]) (k:Nat) (hk:k<4) (g:Nat) (lb:Array Value) (hg:(zgx be ba)[k*2]?=some (.func (.func g) #[] lb)):
 Calls Tryz.prog g (#[.agg #[iV x.1,iV x.2.1,iV x.2.2.1,iV x.2.2.2]]++lb) w (zgr (zct x ne na k) w):=by
 obtain⟨a,b,p,m⟩:=x;rcases(by omega:k=0∨k=1∨k=2∨k=3)with rfl|rfl|rfl|rfl<;>(simp[zgx]at hg;obtain⟨rfl,rfl⟩:=hg)
 ·exact zwz a b p m ne (hbe.cell 0)
 ·exact zw0 a b p m na (hba.cell 0)
 ·exact zw1 a b p m ne (hbe.cell 0)
 ·exact zw2 a b p m w
theorem zup (be ba k:Nat) (hk:k<4):∃(g:Nat) (lb:Array Value) (n:Int),(zgx be ba)[k*2]?=some (.func (.func g) #[] lb)∧(zgx be ba)[k*2+1]?=some (iV n)∧(n==0)=false∧∀args w,(callFunc g args).run Tryz.prog w=.ok (.enter g args) w:=by
 rcases(by omega:k=0∨k=1∨k=2∨k=3)with rfl|rfl|rfl|rfl
 ·exact⟨_,_,_,rfl,rfl,rfl,enters_of Tryz.func314 (by kernel_rfl) rfl⟩
 ·exact⟨_,_,_,rfl,rfl,rfl,enters_of Tryz.func315 (by kernel_rfl) rfl⟩
 ·exact⟨_,_,_,rfl,rfl,rfl,enters_of Tryz.func316 (by kernel_rfl) rfl⟩
 ·exact⟨_,_,_,rfl,rfl,rfl,enters_of Tryz.func317 (by kernel_rfl) rfl⟩
theorem zn9 (p r ne na:Int) {w:World} {v:Value} {l:List Ln4} (hl:zae zdr 4 (fun _=>True) w v l) (h64:∀x∈l,I64 x.2.2.2) (hn:l.length≤1000):
 Calls Tryz.prog 206 #[.agg #[iV p,iV r,v],iV ne,iV na] w (RetAt (zh5 ⟨p,r,l⟩ ne na) w):=by
 obtain⟨ok,hok⟩:∃ok,zh5 ⟨p,r,l⟩ ne na=ok:=⟨_,rfl⟩
 rw[hok];unfold zh5 at hok;simp only at hok;have HOK:=Lib.hid hok;clear hok;obtain⟨A,c,rfl,hc1,hc2⟩:=hl.form;have hb:=Blk.new w 207 #[iV p,iV r,.slice A l.length c];have tw:=tal w (.cells #[iV p,iV r,.slice A l.length c] 207);have hl1:=hl.keep tw;by_cases h1:0≤p
 rotate_left
 ·obtain rfl:ok=false:=by rw[←HOK.out];simp[h1]
  clear HOK;go_enter Tryz.func206,Tryz.ntmps206;go_wp2;go_ret2
  exact RetAt.no rfl tw
 by_cases h2:p<24
 rotate_left
 ·obtain rfl:ok=false:=by rw[←HOK.out];simp[h2]
  clear HOK;go_enter Tryz.func206,Tryz.ntmps206;go_wp2;go_ret2
  exact RetAt.no rfl tw
 by_cases h3:2≤l.length
 rotate_left
 ·obtain rfl:ok=false:=by rw[←HOK.out];simp[h3]
  have h3':(l.length:Int)<2:=by omega
  clear HOK;go_enter Tryz.func206,Tryz.ntmps206;go_wp2;go_ret2
  exact RetAt.no rfl tw
 by_cases h4:l.length≤50
 rotate_left
 ·obtain rfl:ok=false:=by rw[←HOK.out];simp[h4]
  have h3':(2:Int)≤(l.length:Int):=by omega
  have h4':50<(l.length:Int):=by omega
  clear HOK;go_enter Tryz.func206,Tryz.ntmps206;go_wp2;go_ret2
  exact RetAt.no rfl tw
 have h3':(2:Int)≤(l.length:Int):=by omega
 have h4':(l.length:Int)≤50:=by omega
 have HOK:=Lib.hid (show((l.all fun x=>zgj x ne na)&&l.all fun x=>zfn l x.1==0)=ok by rw[←HOK.out];simp[h1,h2,h3,h4]);go_enter Tryz.func206,Tryz.ntmps206;go_wp2_with fail;generalize w.alloc (.cells #[.int .i64 p,.int .i64 r,.slice A l.length c] 207)=W at *;generalize w.heap.size=z at *;refine(zw3 ne na W).mono ?_;rintro _ w1 ⟨be,ba,br,rfl,hbe,hba,hbr,t1⟩;have tw1:=tw.trans t1;have hl2:=hl1.keep t1;have hb1:=hb.keep t1 id;obtain⟨f0,f1,f2⟩:=hb1.f3;go_wp2_with fail;clear f0 f1 f2;go_loopw [43] (fun i wr=>∃j:Nat,j≤l.length∧i=.int .i64 j∧(l.take j).all (fun x=>zgj x ne na)=true∧Tf w1 wr) (fun i _=>l.length-(intOf i).toNat)
 case atStart=>exact⟨0,by omega,rfl,rfl,Tch.refl _ _⟩
 case round=>
  obtain⟨j,hj,rfl,hall,ht⟩:=hrel;have HA:=Lib.hid hall;clear hall;by_cases hlt:j<l.length
  ·have hlt':(j:Int)<(l.length:Int):=by omega
   have hj0:=znn j;obtain⟨g,o,rfl⟩:=hl.head (by omega);obtain⟨q0,q1,q2,q3⟩:=Row.four (hl2.keep ht) zbg hlt rfl;have HS:=Lib.hid (zek (p:=fun x=>zgj x ne na) hlt);have HN:=Lib.hid (fun h=>zs3 (p:=fun x=>zgj x ne na) hlt h);generalize l[j]=s at *;obtain⟨x,b,d,m⟩:=s;simp only at q0 q1 q2 q3;have hbs:=Blk.new wr 60 #[.int .i64 x,.int .i64 b,.int .i64 d,.int .i64 m];have t2:=ht.trans (tal wr (.cells #[.int .i64 x,.int .i64 b,.int .i64 d,.int .i64 m] 60));go_wp2_with fail;generalize wr.alloc (.cells #[.int .i64 x,.int .i64 b,.int .i64 d,.int .i64 m] 60)=W2 at *;generalize wr.heap.size=N at *;go_loopw [50] (fun i wr=>∃k:Nat,k≤4∧i=.int .i64 k∧(∀q,q<k→zct (x,b,d,m) ne na q=false)∧Tf W2 wr) (fun i _=>4-(intOf i).toNat)
   case atStart=>exact⟨0,by omega,rfl,(fun q hq=>by omega),Tch.refl _ _⟩
   case round=>
    obtain⟨k,hk,rfl,hbrk,hs⟩:=hrel;have HB:=Lib.hid hbrk;clear hbrk;have ts:=t2.trans hs;by_cases hk4:k<4
    ·have hk4':(k:Int)<4:=by omega
     have hk0:=znn k;obtain⟨gf,lb,n,e1,e2,hn0,eg⟩:=zup be ba k hk4;have hbr2:=hbr.keep ts id;have d0:=hbr2.cell (k*2);have d1:=hbr2.cell (k*2+1);rw[e1]at d0;rw[e2]at d1;have HR:=Lib.hid (fun w' (t:Tf wr w')=>zw4 (x,b,d,m) ne na (hbe.keep (ts.trans t) id) (hba.keep (ts.trans t) id) k hk4 gf lb e1);clear e1 e2;have tq:=tal wr (.cells #[.func (.func gf) #[] lb,iV n] 339);obtain⟨g0,g1,g2,g3⟩:=(hbs.keep (hs.trans tq) id).f4;have hbq:=Blk.new wr 339 #[.func (.func gf) #[] lb,iV n];have hst:∀(a:Addr) (m:Mode) (w':World),(store a (.func (.func gf) #[] lb) m).run Tryz.prog w'=stored Tryz.prog w' a (.func (.func gf) #[] lb) m:=fun a m w'=>run_store Tryz.prog w' a _ m rfl
     go_wp2_with fail;clear hst;have hq1:=hbq.at1;have tsq:=ts.trans tq;clear hbq d0 d1 g0 g1 g2 g3;generalize wr.alloc (.cells #[.func (.func gf) #[] lb,iV n] 339)=W3 at *;generalize wr.heap.size=N3 at *;refine(HR.out W3 tq).mono ?_;rintro _ w4 ⟨rfl,t4⟩;clear HR;have hq4:=t4.cell_some hq1 id
     cases hbk:zct (x,b,d,m) ne na k
     ·have HB2:=Lib.hid (show∀q,q<k+1→zct (x,b,d,m) ne na q=false from fun q hq=>by
       rcases Nat.lt_succ_iff_lt_or_eq.1 hq with h|h
       ·exact HB.out q h
       ·subst h;exact hbk)
      clear hbk;go_wp2;go_roundw
      case rel=>exact⟨k+1,by omega,by go_num,HB2.out,hs.trans (tq.trans t4)⟩
      case measure=>simp[intOf];omega
     ·have hlo:zgj (x,b,d,m) ne na=false:=by
       rw[zpp];exact zcu (p:=fun k=>!zct (x,b,d,m) ne na k) hk4 (by simp[hbk])
      obtain rfl:ok=false:=by rw[←HOK.out,HN.out hlo];rfl
      clear hbk;go_wp2_with fail;have hq5:=wc0 hq4;refine zai (fun _=>False) [] 4 [] [] ?_ ?_
      ·exact trivial
      intro bef _;iterate 4 (refine zbt ?_;(try simp only[zaw]))
      refine za6 ?_;intro w5 hr hp1 hap;have t5:=(tw1.trans (tsq.trans t4)).trans ((Tch.drew _ w4).trans hr);clear hap hp1 hr hq5 hq4 hq1;go_wp2;go_ret2
      exact RetAt.no hn0 t5
    ·obtain rfl:k=4:=by omega
     have hlo:zgj (x,b,d,m) ne na=true:=by
      rw[zpp,List.all_eq_true];intro q hq;rw[HB.out q (List.mem_range.1 hq)];rfl
     have HS:=Lib.hid (show(l.take (j+1)).all (fun x=>zgj x ne na)=true by rw[HS.out,HA.out,hlo];rfl);go_wp2;go_roundw
     case rel=>exact⟨j+1,by omega,by go_num,HS.out,ts⟩
     case measure=>simp[intOf];omega
  ·obtain rfl:l.length=j:=by omega
   rw[List.take_length]at HA;rw[HA.out,Bool.true_and]at HOK;have tq:=tw1.trans ht;obtain⟨f0,f1,f2⟩:=(hb1.keep ht id).f3;have HE:=Lib.hid (zpq p r (hl2.keep ht) (by omega));go_wp2_with fail;refine HE.out.mono ?_;rintro _ w2 ⟨u,zs,rfl,hu,hmem,hzl,t2⟩;obtain⟨U,cu,rfl,hu1,hu2⟩:=hu.form;have HM:=Lib.hid hmem;clear HE f0 f1 f2 hmem;have t12:=ht.trans t2;go_wp2_with fail;go_loopw [66] (fun i wr=>∃q:Nat,q≤zs.length∧i=.int .i64 q∧(∀e (h:e<q) (h2:e<zs.length),zfn l zs[e]=0)∧Tf w2 wr) (fun i _=>zs.length-(intOf i).toNat)
   case atStart=>exact⟨0,by omega,rfl,(fun e h=>by omega),Tch.refl _ _⟩
   case round=>
    obtain⟨q,hq,rfl,hsum,hs⟩:=hrel;have HSM:=Lib.hid hsum;clear hsum;have ts:=t12.trans hs;by_cases hqt:q<zs.length
    ·have hqt':(q:Int)<(zs.length:Int):=by omega
     have hq0:=znn q;obtain⟨g,o,rfl⟩:=hu.head (by omega);have d0:=Row.one (hu.keep hs) zap hqt rfl;obtain⟨f0,f1,f2⟩:=(hb1.keep ts id).f3;have HX:=Lib.hid ((HM.out zs[q]).1 (List.getElem_mem _));have HT:=zrq p r zs[q] (hl2.keep ts) h64 hn
     have HZ:=Lib.hid (show zfn l zs[q]=0→∀e (h:e<q+1) (h2:e<zs.length),zfn l zs[e]=0 from fun h0 e h h2=>by
      rcases Nat.lt_succ_iff_lt_or_eq.1 h with h|h
      ·exact HSM.out e h h2
      ·subst h;exact h0)
     generalize zs[q]=y at *;by_cases hy:zfn l y=0
     ·rw[hy]at HT;have HT:Hid (Calls Tryz.prog 276 #[.agg #[iV p,iV r,.slice A l.length c],iV y] wr fun x w'=>x=.returned (.tuple #[iV 0,iV 0])∧Tf wr w'):=Lib.hid HT;have HZ:=Lib.hid (HZ.out hy);clear hy;go_wp2_with fail;refine HT.out.mono ?_;rintro _ w5 ⟨rfl,t5⟩;clear HT f0 f1 f2 d0;go_wp2;go_roundw
      case rel=>exact⟨q+1,by omega,by go_num,HZ.out,hs.trans t5⟩
      case measure=>simp[intOf];omega
     ·obtain rfl:ok=false:=by
       obtain⟨e,he,rfl⟩:=List.mem_map.1 HX.out;rw[←HOK.out,List.all_eq_false];exact⟨e,he,by simpa using hy⟩
      obtain⟨n1,n2,hn12,e12⟩:∃n1 n2:Int,(n1=0→(n2 !=0)=true)∧zex (zfn l y)=.tuple #[iV n1,iV n2]:=by
       unfold zex;split
       ·exact⟨_,_,fun h=>absurd h hy,rfl⟩
       ·exact⟨_,_,fun _=>rfl,rfl⟩
      rw[e12]at HT;have HT:=Lib.hid HT;have H12:=Lib.hid hn12;clear hn12 e12 HZ hy;go_wp2_with fail;refine HT.out.mono ?_;rintro _ w5 ⟨rfl,t5⟩;clear HT f0 f1 f2 d0;have tt:=tw1.trans (ts.trans t5);by_cases h0:n1=0
      ·subst h0;have h02:=H12.out rfl;go_wp2;go_ret2
       exact RetAt.no rfl tt
      ·have h01:(n1 !=0)=true:=by simpa using h0
       go_wp2;go_ret2
       exact RetAt.no rfl tt
    ·obtain rfl:zs.length=q:=by omega
     obtain rfl:ok=true:=by
      rw[←HOK.out,List.all_eq_true];intro e he;obtain⟨i,hi,hie⟩:=List.mem_iff_getElem.1 ((HM.out e.1).2 (List.mem_map_of_mem he));have:=HSM.out i hi hi;rw[hie]at this;simpa using this
     have tt:=tw1.trans ts;have f2:=(hb1.keep ts id).at2;go_wp2;go_ret2
     exact RetAt.yes tt
open Go.RowKit Go.Gk
theorem zw5 {w:World} {v:Value} {l:List Int} (hl:zae zby 1 (fun _=>True) w v l) (hn:l.length≤100000) (x:Int):
 Calls Tryz.prog 194 #[v,iV x] w (zo8 (l.any fun y=>x==y) w):=by
 obtain⟨A,c,rfl,hc1,hc2⟩:=hl.form;go_enter Tryz.func194,Tryz.ntmps194;go_wp2_with fail;go_loopw [8] (fun i wr=>∃j:Nat,j≤l.length∧i=.int .i64 j∧(l.take j).any (fun y=>x==y)=false∧Tf w wr) (fun i _=>l.length-(intOf i).toNat)
 case atStart=>exact⟨0,Nat.zero_le _,rfl,rfl,Tch.refl _ _⟩
 case round=>
  obtain⟨j,hj,rfl,h2,ht⟩:=hrel;have H2:=Lib.hid h2;clear h2;by_cases hlt:j<l.length
  ·obtain⟨g',o,rfl⟩:=hl.head (by omega);have q0:=Row.one (hl.keep ht) zap hlt rfl;have HS:=Lib.hid (zcx (p:=fun y=>x==y) hlt);have HY:=Lib.hid (fun h=>zjh (p:=fun y=>x==y) hlt h);generalize l[j]=y at *;have hlt':(j:Int)<(l.length:Int):=by omega
   have hj0:=znn j
   cases hb:(x==y)
   ·rw[hb]at HS;clear HY;go_wp2;go_roundw
    case rel=>exact⟨j+1,by omega,by go_num,by rw[HS.out,H2.out];rfl,ht⟩
    case measure=>simp[intOf];omega
   ·have hy:=HY.out hb;clear HY;go_wp2;go_ret;exact⟨j,rfl,by omega,by omega,by rw[hy];simp,ht⟩
  ·obtain rfl:l.length=j:=by omega
   rw[List.take_length]at H2;go_wp2;go_ret;exact⟨-1,rfl,by omega,by omega,by rw[H2.out];rfl,ht⟩
theorem zgy {w:World} {v:Value} {l:List Int} (hl:zae zby 1 (fun _=>True) w v l) (hn:l.length≤100000) (x:Int):
 Calls Tryz.prog 121 #[v,iV x] w (zgr (l.contains x) w):=by
 have hi:=zw5 hl hn x;rw[←List.contains_eq_any_beq]at hi;obtain⟨A,c,rfl,hc1,hc2⟩:=hl.form;generalize l.contains x=b at *;have HI:=Lib.hid hi;clear hi hl hn;go_enter Tryz.func121,Tryz.ntmps121;go_wp2_with fail;refine HI.out.mono ?_;rintro _ w1 ⟨i,rfl,h1,h2,h3,t⟩
 cases b
 ·have h0:¬0≤i:=by simpa using h3
  clear h3;go_wp2;go_ret;exact⟨by first|(simp;done)|(simpa using h0),t⟩
 ·have h0:0≤i:=by simpa using h3
  clear h3;go_wp2;go_ret;exact⟨by first|(simp;done)|(simpa using h0),t⟩
theorem zrr {w:World} {v:Value} {l:List Ln4} (hl:zae zdr 4 (fun _=>True) w v l) (hn:l.length≤100000) (p:Ln4→Bool) (g:Nat) (lb:Array Value) (eg:∀args w,(callFunc g args).run Tryz.prog w=.ok (.enter g args) w)
 (hp:∀(x:Ln4) w',Tf w w'→Calls Tryz.prog g (#[.agg #[iV x.1,iV x.2.1,iV x.2.2.1,iV x.2.2.2]]++lb) w' (zgr (p x) w')):
 Calls Tryz.prog 319 #[v,.func (.func g) #[] lb] w (zo8 (l.any p) w):=by
 obtain⟨A,c,rfl,hc1,hc2⟩:=hl.form;have HP:=Lib.hid hp;clear hp;go_enter Tryz.func319,Tryz.ntmps319;go_wp2_with fail;go_loopw [8] (fun i wr=>∃j:Nat,j≤l.length∧i=.int .i64 j∧(l.take j).any p=false∧Tf w wr) (fun i _=>l.length-(intOf i).toNat)
 case atStart=>exact⟨0,Nat.zero_le _,rfl,rfl,Tch.refl _ _⟩
 case round=>
  obtain⟨j,hj,rfl,h2,ht⟩:=hrel;have H2:=Lib.hid h2;clear h2;by_cases hlt:j<l.length
  ·obtain⟨g',o,rfl⟩:=hl.head (by omega);obtain⟨q0,q1,q2,q3⟩:=Row.four (hl.keep ht) zbg hlt rfl;have hs:=zcx (p:=p) hlt;have hy:=fun h=>zjh (p:=p) hlt h
   have HC:=Lib.hid (HP.out l[j] wr ht);have HS:=Lib.hid hs;have HY:=Lib.hid hy;clear hs hy;generalize l[j]=x at *;have hlt':(j:Int)<(l.length:Int):=by omega
   have hj0:=znn j;go_wp2_with fail;refine HC.out.mono ?_;rintro _ w2 ⟨rfl,t2⟩;clear HC
   cases hb:p x
   ·rw[hb]at HS;clear hb HY;go_wp2;go_roundw
    case rel=>exact⟨j+1,by omega,by go_num,by rw[HS.out,H2.out];rfl,ht.trans t2⟩
    case measure=>simp[intOf];omega
   ·have hy:=HY.out hb;clear hb HY;go_wp2;go_ret;exact⟨j,rfl,by omega,by omega,by rw[hy];simp,ht.trans t2⟩
  ·obtain rfl:l.length=j:=by omega
   rw[List.take_length]at H2;go_wp2;go_ret;exact⟨-1,rfl,by omega,by omega,by rw[H2.out];rfl,ht⟩
theorem zlq {w:World} {v:Value} {l:List Ln4} (hl:zae zdr 4 (fun _=>True) w v l) (hn:l.length≤100000) (p:Ln4→Bool) (g:Nat) (lb:Array Value) (eg:∀args w,(callFunc g args).run Tryz.prog w=.ok (.enter g args) w)
 (hp:∀(x:Ln4) w',Tf w w'→Calls Tryz.prog g (#[.agg #[iV x.1,iV x.2.1,iV x.2.2.1,iV x.2.2.2]]++lb) w' (zgr (p x) w')):
 Calls Tryz.prog 279 #[v,.func (.func g) #[] lb] w (zgr (l.any p) w):=by
 have hi:=zrr hl hn p g lb eg hp;obtain⟨A,c,rfl,hc1,hc2⟩:=hl.form;generalize l.any p=b at *;have HI:=Lib.hid hi;clear hi hp hl hn;go_enter Tryz.func279,Tryz.ntmps279;go_wp2_with fail;refine HI.out.mono ?_;rintro _ w1 ⟨i,rfl,h1,h2,h3,t⟩
 cases b
 ·have h0:¬0≤i:=by simpa using h3
  clear h3;go_wp2;go_ret;exact⟨by first|(simp;done)|(simpa using h0),t⟩
 ·have h0:0≤i:=by simpa using h3
  clear h3;go_wp2;go_ret;exact⟨by first|(simp;done)|(simpa using h0),t⟩
theorem zrs (a b p m:Int) (w:World):
 Calls Tryz.prog 277 #[.agg #[iV a,iV b,iV p,iV m]] w (zgr (decide (b≤3)) w):=by
 have tw:=tal w (.cells #[iV a,iV b,iV p,iV m] 60);by_cases h:b≤3
 ·rw[decide_eq_true h];go_enter Tryz.func277,Tryz.ntmps277;go_wp2;go_ret;exact⟨by simp,tw⟩
 ·rw[decide_eq_false h];go_enter Tryz.func277,Tryz.ntmps277;go_wp2;go_ret;exact⟨by simp,tw⟩
theorem zrt (a b p m:Int) {w:World} {g:Nat} {v:Value} {l:List Int} (hg:w.cell? ⟨g,0,none⟩=some v) (hl:zae zby 1 (fun _=>True) w v l) (hn:l.length≤100000):
 Calls Tryz.prog 278 #[.agg #[iV a,iV b,iV p,iV m],.pointer (some ⟨g,0,none⟩)] w (zgr (!l.contains b) w):=by
 obtain⟨A,c,rfl,hc1,hc2⟩:=hl.form;have tw:=tal w (.cells #[iV a,iV b,iV p,iV m] 60);have hg1:=tw.cell_some hg id;have HC:=Lib.hid (zgy (hl.keep tw) hn b);generalize l.contains b=R at *;clear hl;go_enter Tryz.func278,Tryz.ntmps278;go_wp2_with fail;refine HC.out.mono ?_;rintro _ w1 ⟨rfl,t1⟩;go_wp2;go_ret;exact⟨rfl,tw.trans t1⟩
theorem zuq (p r:Int) {w:World} {u v:Value} {l:List Ln4} {k:List Int} (hl:zae zdr 4 (fun _=>True) w u l) (hk:zae zby 1 (fun _=>True) w v k) (hn:l.length≤1000) (hkn:k.length≤1000):
 Calls Tryz.prog 207 #[.agg #[iV p,iV r,u],v] w (RetOk (zik ⟨p,r,l⟩ k) w):=by
 obtain⟨A,c,rfl,hc1,hc2⟩:=hl.form;obtain⟨A',c',rfl,hc1',hc2'⟩:=hk.form
 obtain⟨W,hW⟩:∃W,(w.alloc (.cells #[iV p,iV r,.slice A l.length c] 207)).alloc (.cells #[.slice A' k.length c'] 22)=W:=⟨_,rfl⟩
 have tw:Tf w W:=hW▸(Tch.alloc _ _ _).trans (Tch.alloc _ _ _);have hb1:Blk W w.heap.size 207 #[iV p,iV r,.slice A l.length c]:=hW▸(Blk.new w 207 _).alloc _;have hb2:Blk W (w.heap.size+1) 22 #[.slice A' k.length c']:=hW▸Blk.new2 w _ 22 _;have h1:=zlq (hl.keep tw) (by omega) (fun x=>decide (x.2.1≤3)) 277 #[] (enters_of Tryz.func277 (by kernel_rfl) rfl) (fun x w' _=>zrs x.1 x.2.1 x.2.2.1 x.2.2.2 w');have h2:=fun w1 (t:Tf W w1)=>zlq ((hl.keep tw).keep t) (by omega) (fun x=>!k.contains x.2.1) 278 #[.pointer (some ⟨w.heap.size+1,0,none⟩)] (enters_of Tryz.func278 (by kernel_rfl) rfl) (fun x w' t'=>zrt x.1 x.2.1 x.2.2.1 x.2.2.2 ((hb2.keep (t.trans t') id).cell 0) ((hk.keep tw).keep (t.trans t')) (by omega))
 have q2:=hb1.at2;have HB:=Lib.hid hb1;unfold zik;simp only;generalize(l.any fun x=>decide (x.2.1≤3))=b1 at *;generalize(l.any fun x=>!k.contains x.2.1)=b2 at *;have H1:=Lib.hid h1;have H2:=Lib.hid h2;have HW:=Lib.hid hW;clear h1 h2 hW hb2 hl hk hb1;go_enter Tryz.func207,Tryz.ntmps207;go_wp2_with fail;rw[HW.out];generalize w.heap.size=z at *;refine H1.out.mono ?_;rintro _ w1 ⟨rfl,t1⟩;clear H1
 cases b1
 ·have q3:=(HB.out.keep t1 id).at2;go_wp2_with fail;refine(H2.out w1 t1).mono ?_;rintro _ w2 ⟨rfl,t2⟩;clear H2;have tt:=tw.trans (t1.trans t2)
  cases b2
  ·go_wp2;go_ret;exact RetOk.yes tt
  ·go_wp2;go_ret;exact RetOk.no rfl tt
 ·go_wp2;go_ret;exact RetOk.no rfl (tw.trans t1)
end Go.Proofs.YtoegobjnjljegaaGreatDoor
namespace Go.Gk
open Go.RowKit
theorem zw6 {w:World} {base:Nat} {e:TypeId} {size n c g:Nat} {xs:List Value} (h:w.ownsRow base e size (.slice (some ⟨g,0,none⟩) n c) n xs) (j:Nat) (u:Value):(w.setCell ⟨g,j,none⟩ u).ownsRow base e size (.slice (some ⟨g,0,none⟩) n c) n (xs.set j u):=by
 refine⟨by rw[List.length_set];exact h.1,?_⟩
 rcases h.2 with⟨h,_⟩|⟨g',cap,cur,h1,h2,h3,h4,h5,h6,h7⟩
 ·cases h
 ·injection h1 with e1 e2 e3;injection e1 with e1;injection e1 with e1;subst e1 e3;have hb:Blk w g e cur:=h3;have hb':=hb.set_ j u;refine .inr ⟨g,c,_,rfl,h2,hb',h4,h5,by simpa using h6,?_⟩;rw[←h7,Array.toList_setIfInBounds,List.take_set]
theorem zjo {w:World} {base:Nat} {e:TypeId} {size n c g:Nat} {xs:List Value} (h:w.ownsRow base e size (.slice (some ⟨g,0,none⟩) n c) n xs) (j:Nat):w.frozen? ⟨g,j,none⟩=false:=by
 rcases h.2 with⟨h,_⟩|⟨g',cap,cur,h1,h2,h3,_⟩
 ·cases h
 ·injection h1 with e1 e2 e3;injection e1 with e1;injection e1 with e1;subst e1;exact(show Blk w g e cur from h3).frozen j
theorem zoa {α:Type} {f:α→List Value} {size:Nat} (hf:∀a,(f a).length=size):∀(l:List α) (i j:Nat) (u:Value) (a':α) (hi:i<l.length),j<size→f a'=(f l[i]).set j u→(l.flatMap f).set (i*size+j) u=(l.set i a').flatMap f
 |b::r,0,j,u,a',_,hj,h=>by
  simp only[List.getElem_cons_zero]at h;simp only[List.flatMap_cons,List.set_cons_zero,Nat.zero_mul,Nat.zero_add];rw[List.set_append_left _ _ (by rw[hf];exact hj),h]
 |b::r,i+1,j,u,a',hi,hj,h=>by
  have ih:=zoa hf r i j u a' (by simpa using hi) hj (by simpa using h);simp only[List.flatMap_cons,List.set_cons_succ];rw[List.set_append_right _ _ (by rw[hf,Nat.add_mul];omega),hf,show(i+1)*size+j-size=i*size+j by rw[Nat.add_mul];omega,ih]
theorem zlr {P:Program} {fn:Func} {p u:Tmp} {ty:TypeId} (h:fn.results= #[.cell p ty,.tmp u]) (tmps:Array Value) (w:World) (g:Nat) (t:TypeId) (cs:Array Value) (fr:Nat×Nat) (d:TypeDesc)
 (hp:tmps.getD p undef=.pointer (some ⟨g,0,none⟩)) (hg:w.heap[g]?=some (.cells cs t fr))
 (hu:P.underlying ty=some d) (hd:(match d with | .struct _| .array _ _=>true|_=>false)=true) (hi:(P.info? ty).map (·.size)=some cs.size):
 (results fn tmps).run P w=.ok (.tuple #[.agg cs,tmps.getD u undef]) w:=by
 rw[results_cell_tmp h,hp];simp[asAddr,run_loadVar_row w g t ty cs fr d hg hu hd hi,Result.andThen]
theorem zbi {P:Program} {fn:Func} {R:Ending→World→Prop} {a:Act} {w:World} {p u:Tmp} {ty:TypeId} {g:Nat} {t:TypeId} {cs:Array Value} (hg:Blk w g t cs) (hR:R (.returned (.tuple #[.agg cs,a.tmps.getD u undef])) w) (h:fn.results= #[.cell p ty,.tmp u]:=by rfl) (hp:a.tmps.getD p undef=.pointer (some ⟨g,0,none⟩):=by rfl)
 (hu:isRow P ty=true:=by kernel_rfl) (hi:(P.info? ty).map (·.size)=some cs.size:=by kernel_rfl) (hd:a.defers=[]:=by rfl):bodyPost P fn R .ret a w:=by
 obtain⟨d,h1,h2⟩:=zm9 hu;exact bodyPost_ret (zlr h _ _ g t cs (0,0) d hp hg h1 (by cases d<;>first|rfl|cases h2) hi) hd hR
theorem Tch.sets3 (w:World) (z:Nat) (a b c:Value):Tch (fun g=>g=z) w (((w.setCell ⟨z,0,none⟩ a).setCell ⟨z,1,none⟩ b).setCell ⟨z,2,none⟩ c):=
 ((Tch.setCell (F:=fun k=>k=z) w (p:=⟨z,0,none⟩) (.inl rfl) a).trans (Tch.setCell (F:=fun k=>k=z) _ (p:=⟨z,1,none⟩) (.inl rfl) b)).trans (Tch.setCell (F:=fun k=>k=z) _ (p:=⟨z,2,none⟩) (.inl rfl) c)
theorem ztb (l:List (Int×Int×Int×Int)):∀u∈l.flatMap zdr,u.oneCell'=true:=fun u hu=>by
 obtain⟨x,_,hx⟩:=List.mem_flatMap.1 hu;simp[zdr]at hx;rcases hx with rfl|rfl|rfl|rfl<;>rfl
theorem one_int1 (l:List Int):∀u∈l.flatMap zby,u.oneCell'=true:=fun u hu=>by
 obtain⟨x,_,hx⟩:=List.mem_flatMap.1 hu;simp[zby]at hx;subst hx;rfl
theorem one_int2 (l:List (Int×Int)):∀u∈l.flatMap zn0,u.oneCell'=true:=fun u hu=>by
 obtain⟨x,_,hx⟩:=List.mem_flatMap.1 hu;simp[zn0]at hx;rcases hx with rfl|rfl<;>rfl
theorem ziv (l:List Rt6):∀u∈l.flatMap za2,u.oneCell'=true:=fun u hu=>by
 obtain⟨x,_,hx⟩:=List.mem_flatMap.1 hu;simp[za2]at hx;rcases hx with rfl|rfl|rfl|rfl|rfl|rfl<;>rfl
theorem one_acc4 (l:List Acc):∀u∈l.flatMap zfq,u.oneCell'=true:=fun u hu=>by
 obtain⟨x,_,hx⟩:=List.mem_flatMap.1 hu;simp[zfq]at hx;rcases hx with rfl|rfl|rfl|rfl<;>rfl
theorem one_entC (l:List (Ent×Value)) (h:∀p∈l,p.2.oneCell'=true):∀u∈l.flatMap zvp,u.oneCell'=true:=fun u hu=>by
 obtain⟨x,hx0,hx⟩:=List.mem_flatMap.1 hu;simp[zvp]at hx;rcases hx with rfl|rfl|rfl
 ·rfl
 ·rfl
 ·exact h x hx0
end Go.Gk
namespace Go.Proofs.YtoegobjnjljegaaGreatDoor
open Go.RowKit Go.Gk
theorem ziw {w:World} {v:Value} {l:List Int} (hl:zae zby 1 (fun _=>True) w v l) (hn:l.length≤100000):
 Calls Tryz.prog 81 #[v] w fun e w'=>∃u,e=.returned u∧Outs zby 1 3 w w' u l:=by
 obtain⟨A,c,rfl,hc1,hc2⟩:=hl.form;have hq:∀(w:World) (a:Option Addr) (n c n' c':Nat),(binOp .eql 22 (.slice a n c) (.slice none n' c')).run Tryz.prog w=.ok (.bool a.isNone) w:=fun w a n c n' c'=>Lib.run_eql_slice_nil w _ _ a n c n' c' Tryz.underlying22
 cases A with
 |none=>
  obtain⟨h0,rfl⟩:=hl.src.nil rfl;obtain rfl:l=[]:=List.eq_nil_of_length_eq_zero h0;clear hl;go_enter Tryz.func81,Tryz.ntmps81;go_wp2;go_ret;exact⟨_,rfl,Outs.start _ _ _ (Tch.refl _ _)⟩
 |some a=>
  have tw:=tal w (.cells #[] 3);have hs:=hl.src.keep tw (fun _ _=>id);have h1':=one_int1 l;go_enter Tryz.func81,Tryz.ntmps81;go_wp2_with (at_builtin;refine apd zaj (zel w 3 1 0 #[] (Nat.zero_le _) rfl) hs h1' ?_;intro v2 w2 ho2 hg2 hl2);go_ret;rw[List.nil_append,Nat.zero_add]at ho2;refine⟨_,rfl,zbk ho2 fun g hg=>?_,tw.trans' (Tch.grown (F:=fun k=>w.heap.size≤k) hg2 fun k hk=>.inl (by have:=zaz hk;omega)) fun i hi=>.inr hi⟩;rcases hl2 g hg with h1|h1
  ·have:=zaz h1;omega
  ·simp at h1;omega
theorem zia:RowTy Tryz.prog 23 91 (.agg #[iV 0,iV 0,.bool false,.bool false]) 4 24:=⟨Tryz.underlying23,by kernel_rfl,rfl,by decide⟩
theorem zob {w:World} {v:Value} {l:List Acc} (hl:zae zfq 4 (fun _=>True) w v l) (hn:l.length≤100000):
 Calls Tryz.prog 134 #[v] w fun e w'=>∃u,e=.returned u∧Outs zfq 4 91 w w' u l:=by
 obtain⟨A,c,rfl,hc1,hc2⟩:=hl.form;have hq:∀(w:World) (a:Option Addr) (n c n' c':Nat),(binOp .eql 23 (.slice a n c) (.slice none n' c')).run Tryz.prog w=.ok (.bool a.isNone) w:=fun w a n c n' c'=>Lib.run_eql_slice_nil w _ _ a n c n' c' Tryz.underlying23
 cases A with
 |none=>
  obtain⟨h0,rfl⟩:=hl.src.nil rfl;obtain rfl:l=[]:=List.eq_nil_of_length_eq_zero h0;clear hl;go_enter Tryz.func134,Tryz.ntmps134;go_wp2;go_ret;exact⟨_,rfl,Outs.start _ _ _ (Tch.refl _ _)⟩
 |some a=>
  have tw:=tal w (.cells #[] 91);have hs:=hl.src.keep tw (fun _ _=>id);have h1':=one_acc4 l;go_enter Tryz.func134,Tryz.ntmps134;go_wp2_with (at_builtin;refine apd zia (zel w 91 4 0 #[] (Nat.zero_le _) rfl) hs h1' ?_;intro v2 w2 ho2 hg2 hl2);go_ret;rw[List.nil_append,Nat.zero_add]at ho2;refine⟨_,rfl,zbk ho2 fun g hg=>?_,tw.trans' (Tch.grown (F:=fun k=>w.heap.size≤k) hg2 fun k hk=>.inl (by have:=zaz hk;omega)) fun i hi=>.inr hi⟩;rcases hl2 g hg with h1|h1
  ·have:=zaz h1;omega
  ·simp at h1;omega
theorem zw7:RowTy Tryz.prog 24 224 (.agg #[iV 0,iV 0,iV 0,iV 0]) 4 32:=⟨Tryz.underlying24,by kernel_rfl,rfl,by decide⟩
theorem zoc {w:World} {v:Value} {l:List zbv} (hl:zae zdr 4 (fun _=>True) w v l) (hn:l.length≤100000):
 Calls Tryz.prog 135 #[v] w fun e w'=>∃u,e=.returned u∧Outs zdr 4 224 w w' u l:=by
 obtain⟨A,c,rfl,hc1,hc2⟩:=hl.form;have hq:∀(w:World) (a:Option Addr) (n c n' c':Nat),(binOp .eql 24 (.slice a n c) (.slice none n' c')).run Tryz.prog w=.ok (.bool a.isNone) w:=fun w a n c n' c'=>Lib.run_eql_slice_nil w _ _ a n c n' c' Tryz.underlying24
 cases A with
 |none=>
  obtain⟨h0,rfl⟩:=hl.src.nil rfl;obtain rfl:l=[]:=List.eq_nil_of_length_eq_zero h0;clear hl;go_enter Tryz.func135,Tryz.ntmps135;go_wp2;go_ret;exact⟨_,rfl,Outs.start _ _ _ (Tch.refl _ _)⟩
 |some a=>
  have tw:=tal w (.cells #[] 224);have hs:=hl.src.keep tw (fun _ _=>id);have h1':=ztb l;go_enter Tryz.func135,Tryz.ntmps135;go_wp2_with (at_builtin;refine apd zw7 (zel w 224 4 0 #[] (Nat.zero_le _) rfl) hs h1' ?_;intro v2 w2 ho2 hg2 hl2);go_ret;rw[List.nil_append,Nat.zero_add]at ho2;refine⟨_,rfl,zbk ho2 fun g hg=>?_,tw.trans' (Tch.grown (F:=fun k=>w.heap.size≤k) hg2 fun k hk=>.inl (by have:=zaz hk;omega)) fun i hi=>.inr hi⟩;rcases hl2 g hg with h1|h1
  ·have:=zaz h1;omega
  ·simp at h1;omega
theorem rowRates:RowTy Tryz.prog 25 115 (.agg #[iV 0,iV 0,iV 0,iV 0,iV 0,iV 0]) 6 48:=⟨Tryz.underlying25,by kernel_rfl,rfl,by decide⟩
theorem zmq {w:World} {v:Value} {l:List Rt6} (hl:zae za2 6 (fun _=>True) w v l) (hn:l.length≤100000):
 Calls Tryz.prog 136 #[v] w fun e w'=>∃u,e=.returned u∧Outs za2 6 115 w w' u l:=by
 obtain⟨A,c,rfl,hc1,hc2⟩:=hl.form;have hq:∀(w:World) (a:Option Addr) (n c n' c':Nat),(binOp .eql 25 (.slice a n c) (.slice none n' c')).run Tryz.prog w=.ok (.bool a.isNone) w:=fun w a n c n' c'=>Lib.run_eql_slice_nil w _ _ a n c n' c' Tryz.underlying25
 cases A with
 |none=>
  obtain⟨h0,rfl⟩:=hl.src.nil rfl;obtain rfl:l=[]:=List.eq_nil_of_length_eq_zero h0;clear hl;go_enter Tryz.func136,Tryz.ntmps136;go_wp2;go_ret;exact⟨_,rfl,Outs.start _ _ _ (Tch.refl _ _)⟩
 |some a=>
  have tw:=tal w (.cells #[] 115);have hs:=hl.src.keep tw (fun _ _=>id);have h1':=ziv l;go_enter Tryz.func136,Tryz.ntmps136;go_wp2_with (at_builtin;refine apd rowRates (zel w 115 6 0 #[] (Nat.zero_le _) rfl) hs h1' ?_;intro v2 w2 ho2 hg2 hl2);go_ret;rw[List.nil_append,Nat.zero_add]at ho2;refine⟨_,rfl,zbk ho2 fun g hg=>?_,tw.trans' (Tch.grown (F:=fun k=>w.heap.size≤k) hg2 fun k hk=>.inl (by have:=zaz hk;omega)) fun i hi=>.inr hi⟩;rcases hl2 g hg with h1|h1
  ·have:=zaz h1;omega
  ·simp at h1;omega
theorem rowLocks:RowTy Tryz.prog 26 227 (.agg #[iV 0,iV 0]) 2 16:=⟨Tryz.underlying26,by kernel_rfl,rfl,by decide⟩
theorem zmr {w:World} {v:Value} {l:List Lk2} (hl:zae zn0 2 (fun _=>True) w v l) (hn:l.length≤100000):
 Calls Tryz.prog 137 #[v] w fun e w'=>∃u,e=.returned u∧Outs zn0 2 227 w w' u l:=by
 obtain⟨A,c,rfl,hc1,hc2⟩:=hl.form;have hq:∀(w:World) (a:Option Addr) (n c n' c':Nat),(binOp .eql 26 (.slice a n c) (.slice none n' c')).run Tryz.prog w=.ok (.bool a.isNone) w:=fun w a n c n' c'=>Lib.run_eql_slice_nil w _ _ a n c n' c' Tryz.underlying26
 cases A with
 |none=>
  obtain⟨h0,rfl⟩:=hl.src.nil rfl;obtain rfl:l=[]:=List.eq_nil_of_length_eq_zero h0;clear hl;go_enter Tryz.func137,Tryz.ntmps137;go_wp2;go_ret;exact⟨_,rfl,Outs.start _ _ _ (Tch.refl _ _)⟩
 |some a=>
  have tw:=tal w (.cells #[] 227);have hs:=hl.src.keep tw (fun _ _=>id);have h1':=one_int2 l;go_enter Tryz.func137,Tryz.ntmps137;go_wp2_with (at_builtin;refine apd rowLocks (zel w 227 2 0 #[] (Nat.zero_le _) rfl) hs h1' ?_;intro v2 w2 ho2 hg2 hl2);go_ret;rw[List.nil_append,Nat.zero_add]at ho2;refine⟨_,rfl,zbk ho2 fun g hg=>?_,tw.trans' (Tch.grown (F:=fun k=>w.heap.size≤k) hg2 fun k hk=>.inl (by have:=zaz hk;omega)) fun i hi=>.inr hi⟩;rcases hl2 g hg with h1|h1
  ·have:=zaz h1;omega
  ·simp at h1;omega
theorem rowLines:RowTy Tryz.prog 204 60 (.agg #[iV 0,iV 0,iV 0,iV 0]) 4 32:=⟨Tryz.underlying204,by kernel_rfl,rfl,by decide⟩
theorem zhv {w:World} {v:Value} {l:List Ln4} (hl:zae zdr 4 (fun _=>True) w v l) (hn:l.length≤100000):
 Calls Tryz.prog 139 #[v] w fun e w'=>∃u,e=.returned u∧Outs zdr 4 60 w w' u l:=by
 obtain⟨A,c,rfl,hc1,hc2⟩:=hl.form;have hq:∀(w:World) (a:Option Addr) (n c n' c':Nat),(binOp .eql 204 (.slice a n c) (.slice none n' c')).run Tryz.prog w=.ok (.bool a.isNone) w:=fun w a n c n' c'=>Lib.run_eql_slice_nil w _ _ a n c n' c' Tryz.underlying204
 cases A with
 |none=>
  obtain⟨h0,rfl⟩:=hl.src.nil rfl;obtain rfl:l=[]:=List.eq_nil_of_length_eq_zero h0;clear hl;go_enter Tryz.func139,Tryz.ntmps139;go_wp2;go_ret;exact⟨_,rfl,Outs.start _ _ _ (Tch.refl _ _)⟩
 |some a=>
  have tw:=tal w (.cells #[] 60);have hs:=hl.src.keep tw (fun _ _=>id);have h1':=ztb l;go_enter Tryz.func139,Tryz.ntmps139;go_wp2_with (at_builtin;refine apd rowLines (zel w 60 4 0 #[] (Nat.zero_le _) rfl) hs h1' ?_;intro v2 w2 ho2 hg2 hl2);go_ret;rw[List.nil_append,Nat.zero_add]at ho2;refine⟨_,rfl,zbk ho2 fun g hg=>?_,tw.trans' (Tch.grown (F:=fun k=>w.heap.size≤k) hg2 fun k hk=>.inl (by have:=zaz hk;omega)) fun i hi=>.inr hi⟩;rcases hl2 g hg with h1|h1
  ·have:=zaz h1;omega
  ·simp at h1;omega
theorem zur:RowTy Tryz.prog 27 207 (.agg #[iV 0,iV 0,.slice none 0 0]) 3 40:=⟨Tryz.underlying27,by kernel_rfl,rfl,by decide⟩
theorem zod {w:World} {v:Value} {l:List (Ent×Value)} (hl:zae zvp 3 (fun _=>True) w v l) (hn:l.length≤100000) (h1:∀p∈l,p.2.oneCell'=true):
 Calls Tryz.prog 138 #[v] w fun e w'=>∃u,e=.returned u∧Outs zvp 3 207 w w' u l:=by
 obtain⟨A,c,rfl,hc1,hc2⟩:=hl.form;have hq:∀(w:World) (a:Option Addr) (n c n' c':Nat),(binOp .eql 27 (.slice a n c) (.slice none n' c')).run Tryz.prog w=.ok (.bool a.isNone) w:=fun w a n c n' c'=>Lib.run_eql_slice_nil w _ _ a n c n' c' Tryz.underlying27
 cases A with
 |none=>
  obtain⟨h0,rfl⟩:=hl.src.nil rfl;obtain rfl:l=[]:=List.eq_nil_of_length_eq_zero h0;clear hl;go_enter Tryz.func138,Tryz.ntmps138;go_wp2;go_ret;exact⟨_,rfl,Outs.start _ _ _ (Tch.refl _ _)⟩
 |some a=>
  have tw:=tal w (.cells #[] 207);have hs:=hl.src.keep tw (fun _ _=>id);have h1':=one_entC l h1;go_enter Tryz.func138,Tryz.ntmps138;go_wp2_with (at_builtin;refine apd zur (zel w 207 3 0 #[] (Nat.zero_le _) rfl) hs h1' ?_;intro v2 w2 ho2 hg2 hl2);go_ret;rw[List.nil_append,Nat.zero_add]at ho2;refine⟨_,rfl,zbk ho2 fun g hg=>?_,tw.trans' (Tch.grown (F:=fun k=>w.heap.size≤k) hg2 fun k hk=>.inl (by have:=zaz hk;omega)) fun i hi=>.inr hi⟩;rcases hl2 g hg with h1|h1
  ·have:=zaz h1;omega
  ·simp at h1;omega
