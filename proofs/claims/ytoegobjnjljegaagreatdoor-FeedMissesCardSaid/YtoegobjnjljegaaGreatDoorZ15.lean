/-
  Rates that may be.
-/
import Derived.Test.YtoegobjnjljegaaGreatDoorZ13
import Derived.OwnWalk
set_option maxRecDepth 100000
set_option maxHeartbeats 3200000
namespace Go.Proofs.YtoegobjnjljegaaGreatDoor
open Go.RowKit Go.Gk
theorem zne (n:Int) (w:World):
 Calls Tryz.prog 272 #[iV n] w fun e w'=>e=.returned (.bool (Gk.zh1 n))∧w=w':=by
 unfold Gk.zh1;by_cases h:1≤n
 ·rw[decide_eq_true h,Bool.true_and];go_enter Tryz.func272,Tryz.ntmps272;go_wp2;go_ret;exact⟨rfl,rfl⟩
 ·rw[decide_eq_false h,Bool.false_and];go_enter Tryz.func272,Tryz.ntmps272;go_wp2;go_ret;exact⟨rfl,rfl⟩
theorem zmn (a b:Int) (w:World):
 Calls Tryz.prog 267 #[.agg #[iV a,iV b]] w (RetOk (zf3 a b) w):=by
 obtain⟨ok,hok⟩:∃ok,zf3 a b=ok:=⟨_,rfl⟩
 rw[hok];have HOK:=Lib.hid hok;clear hok;have tw:=tal w (.cells #[iV a,iV b] 44);by_cases h1:1≤a
 rotate_left
 ·obtain rfl:ok=false:=by rw[←HOK.out];unfold zf3;simp[h1]
  clear HOK;go_enter Tryz.func267,Tryz.ntmps267;go_wp2;all_goals(go_ret;exact RetOk.no rfl tw)
 by_cases h2:1≤b
 rotate_left
 ·obtain rfl:ok=false:=by rw[←HOK.out];unfold zf3;simp[h2]
  clear HOK;go_enter Tryz.func267,Tryz.ntmps267;go_wp2;all_goals(go_ret;exact RetOk.no rfl tw)
 by_cases h3:a≤1000000000000
 rotate_left
 ·obtain rfl:ok=false:=by rw[←HOK.out];unfold zf3;simp[h3]
  clear HOK;go_enter Tryz.func267,Tryz.ntmps267;go_wp2;all_goals(go_ret;exact RetOk.no rfl tw)
 by_cases h4:b≤1000000000000
 rotate_left
 ·obtain rfl:ok=false:=by rw[←HOK.out];unfold zf3;simp[h4]
  clear HOK;go_enter Tryz.func267,Tryz.ntmps267;go_wp2;all_goals(go_ret;exact RetOk.no rfl tw)
 obtain rfl:ok=true:=by rw[←HOK.out];unfold zf3;simp[h1,h2,h3,h4]
 clear HOK;go_enter Tryz.func267,Tryz.ntmps267;go_wp2;all_goals(go_ret;exact RetOk.yes tw)
theorem zrl (a b k p x y:Int) (w:World):
 Calls Tryz.prog 204 #[.agg #[iV a,iV b,iV k,iV p,iV x,iV y]] w (RetOk (zii (a,b,k,p,x,y)) w):=by
 obtain⟨ok,hok⟩:∃ok,zii (a,b,k,p,x,y)=ok:=⟨_,rfl⟩
 rw[hok];unfold zii at hok;simp only at hok;have HOK:=Lib.hid hok;clear hok;have hb:=Blk.new w 115 #[iV a,iV b,iV k,iV p,iV x,iV y];have tw:=tal w (.cells #[iV a,iV b,iV k,iV p,iV x,iV y] 115);have hm1:=fun w'=>zne a w'
 have hm2:=fun w'=>zne b w'
 have hrc:=fun w'=>zmn x y w'
 generalize Gk.zh1 a=b1 at *;generalize Gk.zh1 b=b2 at *;generalize zf3 x y=b3 at *;have HM1:=Lib.hid hm1;have HM2:=Lib.hid hm2;have HRC:=Lib.hid hrc;clear hm1 hm2 hrc;go_enter Tryz.func204,Tryz.ntmps204;go_wp2_with fail;generalize w.alloc (.cells #[iV a,iV b,iV k,iV p,iV x,iV y] 115)=W at *;generalize w.heap.size=z at *;obtain⟨q0,q1,q2,q3,q4,q5⟩:=hb.f6;clear hb;refine(HM1.out W).mono ?_;rintro _ _ ⟨rfl,rfl⟩;clear HM1
 cases b1
 ·obtain rfl:ok=false:=by rw[←HOK.out];rfl
  clear HOK;go_wp2;go_ret;exact RetOk.no rfl tw
 go_wp2_with fail;refine(HM2.out W).mono ?_;rintro _ _ ⟨rfl,rfl⟩;clear HM2
 cases b2
 ·obtain rfl:ok=false:=by rw[←HOK.out];rfl
  clear HOK;go_wp2;go_ret;exact RetOk.no rfl tw
 rw[Bool.true_and,Bool.true_and]at HOK;by_cases h0:a=b
 ·subst h0;obtain rfl:ok=false:=by rw[←HOK.out];simp
  clear HOK;go_wp2;go_ret;exact RetOk.no rfl tw
 have h0':(a==b)=false:=by simpa using h0
 rw[h0']at HOK;by_cases h1:1≤k
 rotate_left
 ·obtain rfl:ok=false:=by rw[←HOK.out];simp[h1]
  clear HOK;go_wp2;go_ret;exact RetOk.no rfl tw
 by_cases h2:k≤3
 rotate_left
 ·obtain rfl:ok=false:=by rw[←HOK.out];simp[h2]
  clear HOK;go_wp2;go_ret;exact RetOk.no rfl tw
 by_cases h3:0≤p
 rotate_left
 ·obtain rfl:ok=false:=by rw[←HOK.out];simp[h3]
  clear HOK;go_wp2;go_ret;exact RetOk.no rfl tw
 by_cases h4:p<24
 rotate_left
 ·obtain rfl:ok=false:=by rw[←HOK.out];simp[h4]
  clear HOK;go_wp2;go_ret;exact RetOk.no rfl tw
 obtain rfl:ok=b3:=by rw[←HOK.out];simp[h1,h2,h3,h4]
 clear HOK;go_wp2_with fail;refine(HRC.out W).mono ?_;rintro _ w1 ⟨n,rfl,hn,t1⟩;have HN:=Lib.hid hn;clear hn HRC;go_wp2;go_ret;exact⟨n,rfl,HN.out,tw.trans t1⟩
theorem zn3 {w:World} {v:Value} {l:List Rt6} (hl:zae za2 6 (fun _=>True) w v l) (hn:l.length≤100000):
 Calls Tryz.prog 129 #[v] w (RetAt (zh3 l) w):=by
 obtain⟨ok,hok⟩:∃ok,zh3 l=ok:=⟨_,rfl⟩
 rw[hok];unfold zh3 at hok;have hok:=Lib.hid hok;obtain⟨A,c,rfl,hc1,hc2⟩:=hl.form;by_cases h4:l.length≤2000
 rotate_left
 ·have h4':2000<(l.length:Int):=by omega
  obtain rfl:ok=false:=by rw[←hok.out,decide_eq_false h4];rfl
  clear hok;go_enter Tryz.func129,Tryz.ntmps129;go_wp2;go_ret2
  exact RetAt.no rfl (Tch.refl _ _)
 have h4':(l.length:Int)≤2000:=by omega
 have HOK:=Lib.hid (show l.all zii=ok by rw[←hok.out,decide_eq_true h4];rfl);clear hok;go_enter Tryz.func129,Tryz.ntmps129;go_wp2_with fail;go_loopw [12] (fun i wr=>∃j:Nat,j≤l.length∧i=.int .i64 j∧(l.take j).all zii=true∧Tf w wr) (fun i _=>l.length-(intOf i).toNat)
 case atStart=>exact⟨0,by omega,rfl,rfl,Tch.refl _ _⟩
 case round=>
  obtain⟨j,hj,rfl,hall,ht⟩:=hrel;have HA:=Lib.hid hall;clear hall;by_cases hlt:j<l.length
  ·have hlt':(j:Int)<(l.length:Int):=by omega
   have hj0:=znn j;obtain⟨g,o,rfl⟩:=hl.head (by omega);obtain⟨q0,q1,q2,q3,q4,q5⟩:=Row.six (hl.keep ht) zd3 hlt rfl;have hs:=zek (p:=zii) hlt;have hno:=fun h=>zs3 (p:=zii) hlt h
   generalize l[j]=s at *;obtain⟨a,b,k,p,x,y⟩:=s;have HC:=fun w'=>zrl a b k p x y w'
   simp only at q0 q1 q2 q3 q4 q5;generalize zii (a,b,k,p,x,y)=rb at *;have HS:=Lib.hid hs;have HN:=Lib.hid hno;have HC:=Lib.hid HC;clear hs hno;go_wp2_with fail;refine(HC.out _).mono ?_;rintro _ w1 ⟨q,rfl,hq,t1⟩;have t2:=(ht.trans (Tch.alloc _ _ _)).trans t1;clear HC t1
   cases rb
   ·obtain rfl:ok=false:=by rw[←HOK.out,HN.out rfl]
    have hq':(q !=0)=true:=by simpa using hq
    have HQ:=Lib.hid hq;clear hq;go_wp2;go_ret2
    exact RetAt.no HQ.out t2
   ·obtain rfl:q=0:=by simpa using hq
    clear hq;go_wp2;go_roundw
    case rel=>exact⟨j+1,by omega,by go_num,by rw[HS.out,HA.out];rfl,t2⟩
    case measure=>simp[intOf];omega
  ·obtain rfl:l.length=j:=by omega
   rw[List.take_length]at HA;obtain rfl:ok=true:=by rw[←HOK.out,HA.out]
   go_wp2;go_ret2
   exact RetAt.yes ht
open Go.RowKit Go.Gk
theorem zuc {w:World} {v:Value} {l:List Int} (hl:zae zby 1 (fun _=>True) w v l) (hn:l.length≤100000) (p:Int→Bool) (g:Nat) (lb:Array Value) (eg:∀args w,(callFunc g args).run Tryz.prog w=.ok (.enter g args) w)
 (hp:∀x w',Tf w w'→Calls Tryz.prog g (#[iV x]++lb) w' (zgr (p x) w')):
 Calls Tryz.prog 311 #[v,.func (.func g) #[] lb] w (zgr (l.any p) w):=by
 have hi:=znf hl hn p g lb eg hp;obtain⟨A,c,rfl,hc1,hc2⟩:=hl.form;generalize l.any p=b at *;have HI:=Lib.hid hi;clear hi hp hl hn;go_enter Tryz.func311,Tryz.ntmps311;go_wp2_with fail;refine HI.out.mono ?_;rintro _ w1 ⟨i,rfl,h1,h2,h3,t⟩
 cases b
 ·have h0:¬0≤i:=by simpa using h3
  clear h3;go_wp2;go_ret;exact⟨by simpa using h0,t⟩
 ·have h0:0≤i:=by simpa using h3
  clear h3;go_wp2;go_ret;exact⟨by simp,t⟩
theorem zpg {w:World} {v:Value} {l:List Lk2} (hl:zae zn0 2 (fun _=>True) w v l) (hn:l.length≤100000) (e:Int):
 Calls Tryz.prog 313 #[v,iV e] w fun x w'=>x=.returned (iV (zbj l e))∧Tf w w':=by
 obtain⟨R,hR⟩:∃R,zbj l e=R:=⟨_,rfl⟩
 rw[hR];have HR:=Lib.hid hR;clear hR;obtain⟨A,c,rfl,hc1,hc2⟩:=hl.form;go_enter Tryz.func313,Tryz.ntmps313;go_wp2_with fail;go_loopw [5,10] (fun m i wr=>∃(j:Nat) (b:Int),j≤l.length∧i=.int .i64 j∧m=.int .i64 b∧zbj (l.take j) e=b∧Tf w wr) (fun _ i _=>l.length-(intOf i).toNat)
 case atStart=>exact⟨0,-1,by omega,rfl,rfl,rfl,Tch.refl _ _⟩
 case round=>
  obtain⟨j,b,hj,rfl,rfl,hb,ht⟩:=hrel;have HB:=Lib.hid hb;clear hb;by_cases hlt:j<l.length
  ·have hlt':(j:Int)<(l.length:Int):=by omega
   have hj0:=znn j;obtain⟨g,o,rfl⟩:=hl.head (by omega);obtain⟨q0,q1⟩:=Row.two (hl.keep ht) zk1 hlt rfl
   have hs:zbj (l.take (j+1)) e=zkz e (zbj (l.take j) e) l[j]:=by
    unfold zbj;rw[List.take_succ_eq_append_getElem hlt,List.foldl_append];rfl
   generalize l[j]=s at *;obtain⟨x,y⟩:=s;simp only at q0 q1;have HS:=Lib.hid hs;clear hs;by_cases h1:x=e
   ·subst h1;have HN:=Lib.hid (show zbj (l.take (j+1)) x=max b y by rw[HS.out,HB.out];unfold zkz;simp);clear HS;by_cases h2:b<y
    ·have HN:=Lib.hid (show zbj (l.take (j+1)) x=y by rw[HN.out];omega);go_wp2;go_roundw
     case rel=>exact⟨j+1,y,by omega,by go_num,by first|rfl|(simp;omega),HN.out,ht.trans (Tch.alloc _ _ _)⟩
     case measure=>simp[intOf];omega
    ·have HN:=Lib.hid (show zbj (l.take (j+1)) x=b by rw[HN.out];omega);go_wp2;go_roundw
     case rel=>exact⟨j+1,b,by omega,by go_num,by first|rfl|(simp;omega),HN.out,ht.trans (Tch.alloc _ _ _)⟩
     case measure=>simp[intOf];omega
   ·have h1':(x==e)=false:=by simpa using h1
    have HN:=Lib.hid (show zbj (l.take (j+1)) e=b by rw[HS.out,HB.out];unfold zkz;rw[h1'];rfl);clear HS;go_wp2;go_roundw
    case rel=>exact⟨j+1,b,by omega,by go_num,by first|rfl|(simp;omega),HN.out,ht.trans (Tch.alloc _ _ _)⟩
    case measure=>simp[intOf];omega
  ·obtain rfl:l.length=j:=by omega
   rw[List.take_length]at HB;obtain rfl:R=b:=by rw[←HR.out,HB.out]
   go_wp2;go_ret;exact⟨rfl,ht⟩
theorem zrm {w:World} {v:Value} {l:List Lk2} (hl:zae zn0 2 (fun _=>True) w v l) (hn:l.length≤100000) (e p:Int) {bp bl:Nat} (hp:w.cell? ⟨bp,0,none⟩=some (iV p)) (hv:w.cell? ⟨bl,0,none⟩=some v):
 Calls Tryz.prog 312 #[iV e,.pointer (some ⟨bp,0,none⟩),.pointer (some ⟨bl,0,none⟩)] w (zgr (decide (p≤zbj l e)) w):=by
 have HC:=Lib.hid (fun w' (t:Tf w w')=>zpg (hl.keep t) hn e);obtain⟨A,c,rfl,hc1,hc2⟩:=hl.form;generalize zbj l e=m at *;have c0:=wc0 hp;have c1:=wc0 hv;clear hl hn hc1 hc2;go_enter Tryz.func312,Tryz.ntmps312;go_wp2_with fail;refine zai (fun _=>False) [] 4 [(3,.inl (iV m))] [] ?_ ?_
 ·exact trivial
 intro bef _;iterate 3 (refine zbt ?_;(try simp only[zaw]))
 refine zb3 (iV m) (by rfl) (by rfl) (fun w1 hr hf=>?_) ?_
 ·refine zaa (d:=8) rfl (by simp) (fun K hK=>?_);go_step;refine(HC.out w1 ((Tch.drew _ w).trans hr)).mono ?_;rintro _ w2 ⟨rfl,t2⟩;exact hK _ _ ⟨⟨rfl,t2⟩,zaf⟩
 simp only[zaw];refine za6 ?_;intro w1 hr hp1 hap;have t1:=(Tch.drew _ w).trans hr;clear hap hp1 c0 c1 hr HC hp hv;by_cases h:p≤m
 ·go_wp2;go_ret;exact⟨by simp[h],t1⟩
 ·go_wp2;go_ret;exact⟨by simp[h],t1⟩
theorem zud {w:World} {v u:Value} {l:List Lk2} {es:List Int} (hl:zae zn0 2 (fun _=>True) w v l) (hn:l.length≤100000) (he:zae zby 1 (fun _=>True) w u es) (hne:es.length≤100000) (p:Int):
 Calls Tryz.prog 273 #[v,iV p,u] w (zgr (es.any fun e=>decide (p≤zbj l e)) w):=by
 obtain⟨A,c,rfl,hc1,hc2⟩:=hl.form;obtain⟨A',c',rfl,hc1',hc2'⟩:=he.form;have hbl:=(Blk.new w 26 #[.slice A l.length c]).alloc (.cells #[iV p] 3);have hbp:=Blk.new2 w (.cells #[.slice A l.length c] 26) 3 #[iV p];have tw:Tf w ((w.alloc (.cells #[.slice A l.length c] 26)).alloc (.cells #[iV p] 3)):=(Tch.alloc _ _ _).trans (Tch.alloc _ _ _);have hl1:=hl.keep tw;have he1:=he.keep tw
 obtain⟨R,hR⟩:∃R,(es.any fun e=>decide (p≤zbj l e))=R:=⟨_,rfl⟩
 rw[hR];have HR:=Lib.hid hR;clear hR;go_enter Tryz.func273,Tryz.ntmps273;go_wp2_with fail;generalize(w.alloc (.cells #[.slice A l.length c] 26)).alloc (.cells #[iV p] 3)=W at *;generalize w.heap.size=z at *;have HC:=zuc he1 hne (fun e=>decide (p≤zbj l e)) 312 #[.pointer (some ⟨z+1,0,none⟩),.pointer (some ⟨z,0,none⟩)] (enters_of Tryz.func312 (by kernel_rfl) rfl) (fun x w' t=>zrm (hl1.keep t) hn x p ((hbp.keep t id).cell 0) ((hbl.keep t id).cell 0));rw[HR.out]at HC;refine HC.mono ?_;rintro _ w1 ⟨rfl,t1⟩;clear HC;go_wp2;go_ret;exact⟨rfl,tw.trans t1⟩
end Go.Proofs.YtoegobjnjljegaaGreatDoor
namespace Go.Gk
theorem one_int {w:World} {g:Nat} {t:TypeId} {e:Int} (h:Blk w g t #[iV e]):zae zby 1 (fun _=>True) w (.slice (some ⟨g,0,none⟩) 1 1) [e]:=
 Row.blk (B:=fun _=>True) h trivial (n:=1) (size:=1) rfl (by unfold maxLen;omega)
end Go.Gk
namespace Go.Proofs.YtoegobjnjljegaaGreatDoor
open Go.RowKit Go.Gk
theorem zrn {w:World} {v:Value} {l:List Lk2} (hl:zae zn0 2 (fun _=>True) w v l) (hn:l.length≤100000) (e p n:Int):
 Calls Tryz.prog 205 #[v,.agg #[iV e,iV p],iV n] w (RetOk (zij l (e,p) n) w):=by
 obtain⟨ok,hok⟩:∃ok,zij l (e,p) n=ok:=⟨_,rfl⟩
 rw[hok];unfold zij at hok;simp only at hok;have HOK:=Lib.hid hok;clear hok;obtain⟨A,c,rfl,hc1,hc2⟩:=hl.form;have hb:=Blk.new w 227 #[iV e,iV p];have tw:=tal w (.cells #[iV e,iV p] 227);have hl1:=hl.keep tw;by_cases h1:1≤e
 rotate_left
 ·obtain rfl:ok=false:=by rw[←HOK.out];simp[h1]
  clear HOK;go_enter Tryz.func205,Tryz.ntmps205;go_wp2;go_ret;exact RetOk.no rfl tw
 by_cases h2:e≤n
 rotate_left
 ·obtain rfl:ok=false:=by rw[←HOK.out];simp[h2]
  clear HOK;go_enter Tryz.func205,Tryz.ntmps205;go_wp2;go_ret;exact RetOk.no rfl tw
 by_cases h3:0≤p
 rotate_left
 ·obtain rfl:ok=false:=by rw[←HOK.out];simp[h3]
  clear HOK;go_enter Tryz.func205,Tryz.ntmps205;go_wp2;go_ret;exact RetOk.no rfl tw
 by_cases h4:p<24
 rotate_left
 ·obtain rfl:ok=false:=by rw[←HOK.out];simp[h4]
  clear HOK;go_enter Tryz.func205,Tryz.ntmps205;go_wp2;go_ret;exact RetOk.no rfl tw
 obtain rfl:ok=!decide (p≤zbj l e):=by rw[←HOK.out];simp[h1,h2,h3,h4]
 clear HOK;go_enter Tryz.func205,Tryz.ntmps205;go_wp2_with fail;have hWz:(w.alloc (.cells #[iV e,iV p] 227)).heap.size=w.heap.size+1:=by simp
 generalize w.alloc (.cells #[iV e,iV p] 227)=W at *;generalize w.heap.size=z at *;obtain⟨q0,q1⟩:=hb.f2;have hzl:=hb.lt;have hB:=Blk.new W 3 #[iV e];have tB:=tal W (.cells #[iV e] 3);rw[hWz]at hB;clear hWz;have HC:=Lib.hid (zud (hl1.keep tB) hn (one_int hB) (by simp) p);have he1:(([e]:List Int).any fun e=>decide (p≤zbj l e))=decide (p≤zbj l e):=by rw[List.any_cons,List.any_nil,Bool.or_false]
 rw[he1]at HC;clear he1;generalize decide (p≤zbj l e)=b at *;go_wp2_with fail;refine HC.out.mono ?_;rintro _ w1 ⟨rfl,t1⟩;have t2:=tw.trans (tB.trans t1);clear HC
 cases b
 ·go_wp2;go_ret;exact RetOk.yes t2
 ·go_wp2;go_ret;exact RetOk.no rfl t2
theorem zn4 {w:World} {v:Value} {l:List Lk2} (hl:zae zn0 2 (fun _=>True) w v l) (hn:l.length≤100000) (n:Int):
 Calls Tryz.prog 131 #[v,iV n] w (RetAt (zh4 l n) w):=by
 obtain⟨ok,hok⟩:∃ok,zh4 l n=ok:=⟨_,rfl⟩
 rw[hok];unfold zh4 zs0 at hok;have hok:=Lib.hid hok;obtain⟨A,c,rfl,hc1,hc2⟩:=hl.form;by_cases h4:l.length≤400
 rotate_left
 ·have h4':400<(l.length:Int):=by omega
  obtain rfl:ok=false:=by rw[←hok.out,decide_eq_false h4];rfl
  clear hok;go_enter Tryz.func131,Tryz.ntmps131;go_wp2;go_ret2
  exact RetAt.no rfl (Tch.refl _ _)
 have h4':(l.length:Int)≤400:=by omega
 have HOK:=Lib.hid (show((List.range l.length).all fun i=>match l[i]? with |none=>true|some x=>zij (l.take i) x n)=ok by rw[←hok.out,decide_eq_true h4];rfl);clear hok;go_enter Tryz.func131,Tryz.ntmps131;go_wp2_with fail;go_loopw [14] (fun i wr=>∃j:Nat,j≤l.length∧i=.int .i64 j∧((List.range j).all fun i=>match l[i]? with |none=>true|some x=>zij (l.take i) x n)=true∧Tf w wr) (fun i _=>l.length-(intOf i).toNat)
 case atStart=>exact⟨0,by omega,rfl,rfl,Tch.refl _ _⟩
 case round=>
  obtain⟨j,hj,rfl,hall,ht⟩:=hrel;have HA:=Lib.hid hall;clear hall;by_cases hlt:j<l.length
  ·have hlt':(j:Int)<(l.length:Int):=by omega
   have hj0:=znn j;have hjc:(j:Int)≤(c:Int):=by omega
   obtain⟨g,o,rfl⟩:=hl.head (by omega);obtain⟨q0,q1⟩:=Row.two (hl.keep ht) zk1 hlt rfl;have HR:=Lib.hid (fun w' (t:Tf w w')=>zrn (Row.takes' zk1 (hl.keep t) hj) (by rw[List.length_take];omega) l[j].1 l[j].2 n);have hs:=zch (fun i=>match l[i]? with |none=>true|some x=>zij (l.take i) x n) j;have hno:=fun h=>zcu (p:=fun i=>match l[i]? with |none=>true|some x=>zij (l.take i) x n) hlt h
   rw[List.getElem?_eq_getElem hlt]at hs hno;simp only at hs hno;generalize l[j]=s at *;obtain⟨x,y⟩:=s;simp only at q0 q1 HR;generalize zij (l.take j) (x,y) n=rb at *;have HS:=Lib.hid hs;have HN:=Lib.hid hno;clear hs hno;go_wp2_with fail;have t2:=ht.trans (tal wr (.cells #[iV x,iV y] 227));have hbs:=Blk.new wr 227 #[iV x,iV y];generalize wr.alloc (.cells #[iV x,iV y] 227)=W2 at *;generalize wr.heap.size=N at *;obtain⟨c0,c1⟩:=hbs.w2;refine zai (fun _=>False) [] 5 [] [] ?_ ?_
   ·exact trivial
   intro bef _;iterate 5 (refine zbt ?_;(try simp only[zaw]))
   refine za6 ?_;intro w1 hr hp1 hap;have t1:=t2.trans ((Tch.drew _ W2).trans hr);clear hap hp1 c0 c1 hr hbs;go_wp2_with fail;refine(HR.out w1 t1).mono ?_;rintro _ w3 ⟨q,rfl,hq,t3⟩;have t4:=t1.trans t3;clear HR t3
   cases rb
   ·obtain rfl:ok=false:=by rw[←HOK.out,HN.out rfl]
    have hq':(q !=0)=true:=by simpa using hq
    have HQ:=Lib.hid hq;clear hq;go_wp2;go_ret2
    exact RetAt.no HQ.out t4
   ·obtain rfl:q=0:=by simpa using hq
    clear hq;go_wp2;go_roundw
    case rel=>exact⟨j+1,by omega,by go_num,by rw[HS.out,HA.out];rfl,t4⟩
    case measure=>simp[intOf];omega
  ·obtain rfl:l.length=j:=by omega
   obtain rfl:ok=true:=by rw[←HOK.out,HA.out]
   go_wp2;go_ret2
   exact RetAt.yes ht
end Go.Proofs.YtoegobjnjljegaaGreatDoor
namespace Go.Gk
open Go.RowKit
def zkd (b:Bks):Nat→Bool
 |0=>zj0 b.ents
 |1=>zj2 b.accs
 |2=>zan b.stakes b.ents.length
 |3=>zh3 b.rates
 |4=>zh4 b.locks b.ents.length
 |_=>zd8 b
theorem zn5 (b:Bks):zba b=(List.range 6).all (zkd b):=by
 have e:List.range 6=[0,1,2,3,4,5]:=rfl;rw[e];simp only[List.all_cons,List.all_nil,zkd,zba,Bool.and_true,Bool.and_assoc]
def Ret3 (ok:Bool) (w:World) (e:Ending) (w':World):Prop:=∃a b n:Int,e=.returned (.tuple #[iV a,iV b,iV n])∧(n==0)=ok∧Tf w w'
theorem Ret3.no {w w':World} {a b n:Int} (h:(n==0)=false) (t:Tf w w'):Ret3 false w (.returned (.tuple #[iV a,iV b,iV n])) w':=⟨a,b,n,rfl,h,t⟩
end Go.Gk
namespace Go.Proofs.YtoegobjnjljegaaGreatDoor
open Go.RowKit Go.Gk
def zjm (z:Nat):Array Value:= #[iV 1,.func (.func 122) #[] #[.pointer (some ⟨z,0,none⟩)],iV 2,.func (.func 124) #[] #[.pointer (some ⟨z,0,none⟩)],iV 3,.func (.func 126) #[] #[.pointer (some ⟨z,0,none⟩),.pointer (some ⟨z+1,0,none⟩)],iV 4,.func (.func 128) #[] #[.pointer (some ⟨z,0,none⟩)],iV 5,.func (.func 130) #[] #[.pointer (some ⟨z,0,none⟩),.pointer (some ⟨z+1,0,none⟩)],iV 6,.func (.func 132) #[] #[.pointer (some ⟨z,0,none⟩)]]
theorem chk1_any {w:World} {e a s r l n:Value} {b:Bks} {us:List (Ent×Value)} {z:Nat} (h:BksAt w e a s r l n b us) (hf:BksFew b) (_h64:Bks64 b) (hb:Blk w z 29 #[e,a,s,r,l,n]):
 Calls Tryz.prog 122 #[.pointer (some ⟨z,0,none⟩)] w (RetAt (zj0 b.ents) w):=by
 obtain⟨Ae,ce,rfl,_,_⟩:=h.ents.form;obtain⟨Aa,ca,rfl,_,_⟩:=h.accs.form;obtain⟨As,cs,rfl,_,_⟩:=h.stakes.form;obtain⟨Ar,cr,rfl,_,_⟩:=h.rates.form;obtain⟨Al,cl,rfl,_,_⟩:=h.locks.form;obtain⟨An,cn,rfl,_,_⟩:=h.ent.row.form;have HC:=Lib.hid (zpk h.ents (by have:=hf.ents;omega));generalize zj0 b.ents=o at *;have q:=hb.at0;go_enter Tryz.func122,Tryz.ntmps122;go_wp2_with fail;refine HC.out.mono ?_;rintro _ w1 ⟨x,y,rfl,hy,t1⟩;go_wp2;go_ret2
 exact⟨_,_,rfl,hy,t1⟩
theorem chk2_any {w:World} {e a s r l n:Value} {b:Bks} {us:List (Ent×Value)} {z:Nat} (h:BksAt w e a s r l n b us) (hf:BksFew b) (_h64:Bks64 b) (hb:Blk w z 29 #[e,a,s,r,l,n]):
 Calls Tryz.prog 124 #[.pointer (some ⟨z,0,none⟩)] w (RetAt (zj2 b.accs) w):=by
 obtain⟨Ae,ce,rfl,_,_⟩:=h.ents.form;obtain⟨Aa,ca,rfl,_,_⟩:=h.accs.form;obtain⟨As,cs,rfl,_,_⟩:=h.stakes.form;obtain⟨Ar,cr,rfl,_,_⟩:=h.rates.form;obtain⟨Al,cl,rfl,_,_⟩:=h.locks.form;obtain⟨An,cn,rfl,_,_⟩:=h.ent.row.form;have HC:=Lib.hid (zpo h.accs (by have:=hf.accs;omega));generalize zj2 b.accs=o at *;have q:=hb.at1;go_enter Tryz.func124,Tryz.ntmps124;go_wp2_with fail;refine HC.out.mono ?_;rintro _ w1 ⟨x,y,rfl,hy,t1⟩;go_wp2;go_ret2
 exact⟨_,_,rfl,hy,t1⟩
theorem chk3_any {w:World} {e a s r l n:Value} {b:Bks} {us:List (Ent×Value)} {z:Nat} (h:BksAt w e a s r l n b us) (hf:BksFew b) (_h64:Bks64 b) (hb:Blk w z 29 #[e,a,s,r,l,n]) (hi:Blk w (z+1) 3 #[iV b.ents.length]):
 Calls Tryz.prog 126 #[.pointer (some ⟨z,0,none⟩),.pointer (some ⟨z+1,0,none⟩)] w (RetAt (zan b.stakes b.ents.length) w):=by
 obtain⟨Ae,ce,rfl,_,_⟩:=h.ents.form;obtain⟨Aa,ca,rfl,_,_⟩:=h.accs.form;obtain⟨As,cs,rfl,_,_⟩:=h.stakes.form;obtain⟨Ar,cr,rfl,_,_⟩:=h.rates.form;obtain⟨Al,cl,rfl,_,_⟩:=h.locks.form;obtain⟨An,cn,rfl,_,_⟩:=h.ent.row.form;have HC:=Lib.hid (zkf h.stakes (by have:=hf.stakes;omega) b.ents.length);generalize zan b.stakes b.ents.length=o at *;have q:=hb.at2;have qi:=hi.at0;go_enter Tryz.func126,Tryz.ntmps126;go_wp2_with fail;refine HC.out.mono ?_;rintro _ w1 ⟨x,y,rfl,hy,t1⟩;go_wp2;go_ret2
 exact⟨_,_,rfl,hy,t1⟩
theorem chk4_any {w:World} {e a s r l n:Value} {b:Bks} {us:List (Ent×Value)} {z:Nat} (h:BksAt w e a s r l n b us) (hf:BksFew b) (_h64:Bks64 b) (hb:Blk w z 29 #[e,a,s,r,l,n]):
 Calls Tryz.prog 128 #[.pointer (some ⟨z,0,none⟩)] w (RetAt (zh3 b.rates) w):=by
 obtain⟨Ae,ce,rfl,_,_⟩:=h.ents.form;obtain⟨Aa,ca,rfl,_,_⟩:=h.accs.form;obtain⟨As,cs,rfl,_,_⟩:=h.stakes.form;obtain⟨Ar,cr,rfl,_,_⟩:=h.rates.form;obtain⟨Al,cl,rfl,_,_⟩:=h.locks.form;obtain⟨An,cn,rfl,_,_⟩:=h.ent.row.form;have HC:=Lib.hid (zn3 h.rates (by have:=hf.rates;omega));generalize zh3 b.rates=o at *;have q:=hb.at3;go_enter Tryz.func128,Tryz.ntmps128;go_wp2_with fail;refine HC.out.mono ?_;rintro _ w1 ⟨x,y,rfl,hy,t1⟩;go_wp2;go_ret2
 exact⟨_,_,rfl,hy,t1⟩
theorem chk5_any {w:World} {e a s r l n:Value} {b:Bks} {us:List (Ent×Value)} {z:Nat} (h:BksAt w e a s r l n b us) (hf:BksFew b) (_h64:Bks64 b) (hb:Blk w z 29 #[e,a,s,r,l,n]) (hi:Blk w (z+1) 3 #[iV b.ents.length]):
 Calls Tryz.prog 130 #[.pointer (some ⟨z,0,none⟩),.pointer (some ⟨z+1,0,none⟩)] w (RetAt (zh4 b.locks b.ents.length) w):=by
 obtain⟨Ae,ce,rfl,_,_⟩:=h.ents.form;obtain⟨Aa,ca,rfl,_,_⟩:=h.accs.form;obtain⟨As,cs,rfl,_,_⟩:=h.stakes.form;obtain⟨Ar,cr,rfl,_,_⟩:=h.rates.form;obtain⟨Al,cl,rfl,_,_⟩:=h.locks.form;obtain⟨An,cn,rfl,_,_⟩:=h.ent.row.form;have HC:=Lib.hid (zn4 h.locks (by have:=hf.locks;omega) b.ents.length);generalize zh4 b.locks b.ents.length=o at *;have q:=hb.at4;have qi:=hi.at0;go_enter Tryz.func130,Tryz.ntmps130;go_wp2_with fail;refine HC.out.mono ?_;rintro _ w1 ⟨x,y,rfl,hy,t1⟩;go_wp2;go_ret2
 exact⟨_,_,rfl,hy,t1⟩
theorem chk6_any {w:World} {e a s r l n:Value} {b:Bks} {us:List (Ent×Value)} {z:Nat} (h:BksAt w e a s r l n b us) (hf:BksFew b) (h64:Bks64 b) (hb:Blk w z 29 #[e,a,s,r,l,n]):
 Calls Tryz.prog 132 #[.pointer (some ⟨z,0,none⟩)] w (RetAt (zd8 b) w):=by
 obtain⟨Ae,ce,rfl,_,_⟩:=h.ents.form;obtain⟨Aa,ca,rfl,_,_⟩:=h.accs.form;obtain⟨As,cs,rfl,_,_⟩:=h.stakes.form;obtain⟨Ar,cr,rfl,_,_⟩:=h.rates.form;obtain⟨Al,cl,rfl,_,_⟩:=h.locks.form;obtain⟨An,cn,rfl,_,_⟩:=h.ent.row.form;have HC:=Lib.hid (all_any h hf h64);generalize zd8 b=o at *;obtain⟨q0,q1,q2,q3,q4,q5⟩:=hb.f6;go_enter Tryz.func132,Tryz.ntmps132;go_wp2_with fail;refine HC.out.mono ?_;rintro _ w1 ⟨x,y,rfl,hy,t1⟩;go_wp2;go_ret2
 exact⟨_,_,rfl,hy,t1⟩
theorem zue (z k:Nat) (hk:k<6):∃(g:Nat) (lb:Array Value) (n:Int),(zjm z)[k*2]?=some (iV n)∧(zjm z)[k*2+1]?=some (.func (.func g) #[] lb)∧(∀args w,(callFunc g args).run Tryz.prog w=.ok (.enter g args) w)∧
 ∀{w:World} {e a s r l n:Value} {b:Bks} {us:List (Ent×Value)} (_:BksAt w e a s r l n b us) (_:BksFew b) (_:Bks64 b) (_:Blk w z 29 #[e,a,s,r,l,n]) (_:Blk w (z+1) 3 #[iV b.ents.length]),Calls Tryz.prog g lb w (RetAt (zkd b k) w):=by
 rcases(by omega:k=0∨k=1∨k=2∨k=3∨k=4∨k=5)with rfl|rfl|rfl|rfl|rfl|rfl
 ·exact⟨_,_,_,rfl,rfl,enters_of Tryz.func122 (by kernel_rfl) rfl,fun h hf h64 hb hi=>chk1_any h hf h64 hb⟩
 ·exact⟨_,_,_,rfl,rfl,enters_of Tryz.func124 (by kernel_rfl) rfl,fun h hf h64 hb hi=>chk2_any h hf h64 hb⟩
 ·exact⟨_,_,_,rfl,rfl,enters_of Tryz.func126 (by kernel_rfl) rfl,fun h hf h64 hb hi=>chk3_any h hf h64 hb hi⟩
 ·exact⟨_,_,_,rfl,rfl,enters_of Tryz.func128 (by kernel_rfl) rfl,fun h hf h64 hb hi=>chk4_any h hf h64 hb⟩
 ·exact⟨_,_,_,rfl,rfl,enters_of Tryz.func130 (by kernel_rfl) rfl,fun h hf h64 hb hi=>chk5_any h hf h64 hb hi⟩
 ·exact⟨_,_,_,rfl,rfl,enters_of Tryz.func132 (by kernel_rfl) rfl,fun h hf h64 hb hi=>chk6_any h hf h64 hb⟩
theorem zmo {w:World} {e a s r l n:Value} {b:Bks} {us:List (Ent×Value)} (h:BksAt w e a s r l n b us) (hf:BksFew b) (h64:Bks64 b):
 Calls Tryz.prog 56 #[.agg #[e,a,s,r,l,n]] w (Ret3 (zba b) w):=by
 obtain⟨ok,hok⟩:∃ok,zba b=ok:=⟨_,rfl⟩
 rw[hok];rw[zn5]at hok;have HOK:=Lib.hid hok;clear hok;obtain⟨Ae,ce,rfl,_,_⟩:=h.ents.form;obtain⟨Aa,ca,rfl,_,_⟩:=h.accs.form;obtain⟨As,cs,rfl,_,_⟩:=h.stakes.form;obtain⟨Ar,cr,rfl,_,_⟩:=h.rates.form;obtain⟨Al,cl,rfl,_,_⟩:=h.locks.form;obtain⟨An,cn,rfl,_,_⟩:=h.ent.row.form
 obtain⟨W,hW⟩:∃W,((w.alloc (.cells #[.slice Ae b.ents.length ce,.slice Aa b.accs.length ca,.slice As b.stakes.length cs,.slice Ar b.rates.length cr,.slice Al b.locks.length cl,.slice An us.length cn] 29)).alloc (.cells #[iV b.ents.length] 3)).alloc (.cells (zjm w.heap.size) 214)=W:=⟨_,rfl⟩
 have tw:Tf w W:=hW▸((Tch.alloc _ _ _).trans (Tch.alloc _ _ _)).trans (Tch.alloc _ _ _);have b0:Blk W w.heap.size 29 #[.slice Ae b.ents.length ce,.slice Aa b.accs.length ca,.slice As b.stakes.length cs,.slice Ar b.rates.length cr,.slice Al b.locks.length cl,.slice An us.length cn]:=hW▸((Blk.new w 29 _).alloc _).alloc _;have b1:Blk W (w.heap.size+1) 3 #[iV b.ents.length]:=hW▸(Blk.new2 w _ 3 _).alloc _
 have b2:Blk W (w.heap.size+2) 214 (zjm w.heap.size):=by
  have:=Blk.new ((w.alloc (.cells #[.slice Ae b.ents.length ce,.slice Aa b.accs.length ca,.slice As b.stakes.length cs,.slice Ar b.rates.length cr,.slice Al b.locks.length cl,.slice An us.length cn] 29)).alloc (.cells #[iV b.ents.length] 3)) 214 (zjm w.heap.size);rw[hW]at this;simpa using this
 have HW:=Lib.hid hW;have B0:=Lib.hid b0;have B1:=Lib.hid b1;have B2:=Lib.hid b2;have HH:=Lib.hid (h.keep tw);clear hW b0 b1 b2 h;go_enter Tryz.func56,Tryz.ntmps56;go_wp2_with fail;have hW:=HW.out;unfold zjm at hW;rw[hW];clear hW;clear HW;generalize w.heap.size=z at *;go_loopw [27] (fun i wr=>∃j:Nat,j≤6∧i=.int .i64 j∧(List.range j).all (zkd b)=true∧Tf W wr) (fun i _=>6-(intOf i).toNat)
 case atStart=>exact⟨0,by omega,rfl,rfl,Tch.refl _ _⟩
 case round=>
  obtain⟨j,hj,rfl,hall,ht⟩:=hrel;have HA:=Lib.hid hall;clear hall;by_cases hlt:j<6
  ·have hlt':(j:Int)<6:=by omega
   have hj0:=znn j;obtain⟨gf,lb,k,e1,e2,eg,hc⟩:=zue z j hlt;have d0:=(B2.out.keep ht id).cell (j*2);have d1:=(B2.out.keep ht id).cell (j*2+1);rw[e1]at d0;rw[e2]at d1;have HC:=Lib.hid (fun w' (t:Tf W w')=>hc (HH.out.keep t) hf h64 (B0.out.keep t id) (B1.out.keep t id));have hs:=zch (zkd b) j;have hno:=fun h=>zcu (p:=zkd b) hlt h
   generalize zkd b j=o at *;have HS:=Lib.hid hs;have HN:=Lib.hid hno;clear hs hno e1 e2 hc;have tq:=tal wr (.cells #[iV k,.func (.func gf) #[] lb] 214);have hbq:=Blk.new wr 214 #[iV k,.func (.func gf) #[] lb];have hst:∀(a:Addr) (m:Mode) (w':World),(store a (.func (.func gf) #[] lb) m).run Tryz.prog w'=stored Tryz.prog w' a (.func (.func gf) #[] lb) m:=fun a m w'=>run_store Tryz.prog w' a _ m rfl
   go_wp2_with fail;clear hst d0 d1;have hq0:=hbq.at0;generalize wr.alloc (.cells #[iV k,.func (.func gf) #[] lb] 214)=W3 at *;generalize wr.heap.size=N3 at *;refine(HC.out W3 (ht.trans tq)).mono ?_;rintro _ w4 ⟨x,y,rfl,hy,t4⟩;clear HC;have hq4:=t4.cell_some hq0 id;have tE:=(ht.trans tq).trans t4
   cases o
   ·obtain rfl:ok=false:=by rw[←HOK.out,HN.out rfl]
    have hq':(y !=0)=true:=by simpa using hy
    have HQ:=Lib.hid hy;clear hy;go_wp2;go_ret3
    exact Ret3.no HQ.out (tw.trans tE)
   ·obtain rfl:y=0:=by simpa using hy
    have HS:=Lib.hid (show(List.range (j+1)).all (zkd b)=true by rw[HS.out,HA.out];rfl);clear hy;go_wp2;go_roundw
    case rel=>exact⟨j+1,by omega,by go_num,HS.out,tE⟩
    case measure=>simp[intOf];omega
  ·obtain rfl:j=6:=by omega
   obtain rfl:ok=true:=by rw[←HOK.out,HA.out]
   go_wp2;go_ret3
   exact⟨0,0,0,rfl,rfl,tw.trans ht⟩
