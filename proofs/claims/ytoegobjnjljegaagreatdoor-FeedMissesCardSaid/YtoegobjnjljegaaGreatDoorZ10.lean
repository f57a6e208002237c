/-
  Accounts: leaves.
-/
import Derived.Test.YtoegobjnjljegaaGreatDoorZ4
import Derived.ScopeJumps
import Derived.WalkMore
set_option maxRecDepth 100000
set_option maxHeartbeats 3200000
namespace Go.Proofs.YtoegobjnjljegaaGreatDoor
open Go.RowKit Go.Gk
theorem zls {w:World} {v:Value} {l:List Acc} (hl:zae zfq 4 (fun _=>True) w v l) (a:Int):
 Calls Tryz.prog 210 #[v,iV a] w fun e w'=>e=.returned (.bool (zdb l a))∧w=w':=by
 obtain⟨A,c,rfl,hc1,hc2⟩:=hl.form
 obtain⟨R,hR⟩:∃R,zdb l a=R:=⟨_,rfl⟩
 rw[hR];unfold zdb at hR;have HR:=Lib.hid hR;clear hR;by_cases h1:1≤a
 ·by_cases h2:a≤(l.length:Int)
  ·obtain rfl:R=true:=by rw[←HR.out];simp[h1,h2]
   go_enter Tryz.func210,Tryz.ntmps210;go_wp2;go_ret;exact⟨rfl,rfl⟩
  ·obtain rfl:R=false:=by rw[←HR.out];simp[h2]
   go_enter Tryz.func210,Tryz.ntmps210;go_wp2;go_ret;exact⟨rfl,rfl⟩
 ·obtain rfl:R=false:=by rw[←HR.out];simp[h1]
  go_enter Tryz.func210,Tryz.ntmps210;go_wp2;go_ret;exact⟨rfl,rfl⟩
theorem zus (x:Acc) (a:Int) {w:World} {g:Nat} (ha:w.cell? ⟨g,0,none⟩=some (iV a)):
 Calls Tryz.prog 212 #[.agg #[iV x.1,iV x.2.1,.bool x.2.2.1,.bool x.2.2.2],.pointer (some ⟨g,0,none⟩)] w (zgr (x.1==a) w):=by
 obtain⟨p,k,s,q⟩:=x;have tw:=tal w (.cells #[iV p,iV k,.bool s,.bool q] 91);have ha1:=tw.cell_some ha id;simp only;go_enter Tryz.func212,Tryz.ntmps212;go_wp2;go_ret;exact⟨rfl,tw⟩
theorem zut {w:World} {v:Value} {l:List Acc} (hl:zae zfq 4 (fun _=>True) w v l) (hn:l.length≤100000) (p:Acc→Bool) (g:Nat) (lb:Array Value) (eg:∀args w,(callFunc g args).run Tryz.prog w=.ok (.enter g args) w)
 (hp:∀(x:Acc) w',Tf w w'→Calls Tryz.prog g (#[.agg #[iV x.1,iV x.2.1,.bool x.2.2.1,.bool x.2.2.2]]++lb) w' (zgr (p x) w')):
 Calls Tryz.prog 283 #[v,.func (.func g) #[] lb] w (zo8 (l.any p) w):=by
 obtain⟨A,c,rfl,hc1,hc2⟩:=hl.form;have HP:=Lib.hid hp;clear hp;go_enter Tryz.func283,Tryz.ntmps283;go_wp2_with fail;go_loopw [8] (fun i wr=>∃j:Nat,j≤l.length∧i=.int .i64 j∧(l.take j).any p=false∧Tf w wr) (fun i _=>l.length-(intOf i).toNat)
 case atStart=>exact⟨0,Nat.zero_le _,rfl,rfl,Tch.refl _ _⟩
 case round=>
  obtain⟨j,hj,rfl,h2,ht⟩:=hrel;have H2:=Lib.hid h2;clear h2;by_cases hlt:j<l.length
  ·obtain⟨g',o,rfl⟩:=hl.head (by omega);obtain⟨q0,q1,q2,q3⟩:=Row.four (hl.keep ht) zcm hlt rfl;have hs:=zcx (p:=p) hlt;have hy:=fun h=>zjh (p:=p) hlt h
   have HC:=Lib.hid (HP.out l[j] wr ht);have HS:=Lib.hid hs;have HY:=Lib.hid hy;clear hs hy;generalize l[j]=x at *;have hlt':(j:Int)<(l.length:Int):=by omega
   have hj0:=znn j;go_wp2_with fail;refine HC.out.mono ?_;rintro _ w2 ⟨rfl,t2⟩;clear HC
   cases hb:p x
   ·rw[hb]at HS;clear hb HY;go_wp2;go_roundw
    case rel=>exact⟨j+1,by omega,by go_num,by rw[HS.out,H2.out];rfl,ht.trans t2⟩
    case measure=>simp[intOf];omega
   ·have hy:=HY.out hb;clear hb HY;go_wp2;go_ret;exact⟨j,rfl,by omega,by omega,by rw[hy];simp,ht.trans t2⟩
  ·obtain rfl:l.length=j:=by omega
   rw[List.take_length]at H2;go_wp2;go_ret;exact⟨-1,rfl,by omega,by omega,by rw[H2.out];rfl,ht⟩
theorem zuu {w:World} {v:Value} {l:List Acc} (hl:zae zfq 4 (fun _=>True) w v l) (hn:l.length≤100000) (p:Acc→Bool) (g:Nat) (lb:Array Value) (eg:∀args w,(callFunc g args).run Tryz.prog w=.ok (.enter g args) w)
 (hp:∀(x:Acc) w',Tf w w'→Calls Tryz.prog g (#[.agg #[iV x.1,iV x.2.1,.bool x.2.2.1,.bool x.2.2.2]]++lb) w' (zgr (p x) w')):
 Calls Tryz.prog 211 #[v,.func (.func g) #[] lb] w (zgr (l.any p) w):=by
 have hi:=zut hl hn p g lb eg hp;obtain⟨A,c,rfl,hc1,hc2⟩:=hl.form;generalize l.any p=b at *;have HI:=Lib.hid hi;clear hi hp hl hn;go_enter Tryz.func211,Tryz.ntmps211;go_wp2_with fail;refine HI.out.mono ?_;rintro _ w1 ⟨i,rfl,h1,h2,h3,t⟩
 cases b
 ·have h0:¬0≤i:=by simpa using h3
  clear h3;go_wp2;go_ret;exact⟨by first|(simp;done)|(simpa using h0),t⟩
 ·have h0:0≤i:=by simpa using h3
  clear h3;go_wp2;go_ret;exact⟨by first|(simp;done)|(simpa using h0),t⟩
theorem zru {w:World} {v:Value} {l:List Acc} (hl:zae zfq 4 (fun _=>True) w v l) (hn:l.length≤100000) (a:Int):
 Calls Tryz.prog 141 #[v,iV a] w (zgr (zas l a) w):=by
 have hb:=Blk.new w 3 #[iV a];have tw:=tal w (.cells #[iV a] 3);have HI:=Lib.hid (zls (hl.keep tw) a);have HH:=Lib.hid (zuu (hl.keep tw) hn (fun x=>x.1==a) 212 #[.pointer (some ⟨w.heap.size,0,none⟩)] (enters_of Tryz.func212 (by kernel_rfl) rfl) (fun x w' t=>zus x a ((hb.keep t id).cell 0)));obtain⟨A,c,rfl,hc1,hc2⟩:=hl.form;unfold zas zm5;generalize zdb l a=b1 at *;generalize(l.any fun x=>x.1==a)=b2 at *;have hq:=hb.at0;go_enter Tryz.func141,Tryz.ntmps141;go_wp2_with fail;generalize w.alloc (.cells #[iV a] 3)=W at *;generalize w.heap.size=z at *;refine HI.out.mono ?_;rintro _ _ ⟨rfl,rfl⟩;clear HI
 cases b1
 ·go_wp2;go_ret;exact⟨rfl,tw⟩
 ·go_wp2_with fail;refine HH.out.mono ?_;rintro _ w1 ⟨rfl,t1⟩;clear HH
  cases b2
  ·go_wp2;go_ret;exact⟨rfl,tw.trans t1⟩
  ·go_wp2;go_ret;exact⟨rfl,tw.trans t1⟩
abbrev zet (w0 w:World) (v:Value) (xs:List Int):Prop:=Outs zby 1 3 w0 w v xs
theorem zrv (n j:Nat) (h:j<n):(zal n).take (j+1)=(zal n).take j++[(j:Int)+1]:=by
 have hl:j<(zal n).length:=by unfold zal;simpa using h
 rw[List.take_succ_eq_append_getElem hl];congr 1;simp[zal]
theorem za5 (n:Nat):(zal n).length=n:=by simp[zal]
theorem zgz {w:World} {v:Value} {l:List Acc} (hl:zae zfq 4 (fun _=>True) w v l) (hn:l.length≤100000) (p:Int→Bool) (g:Nat) (fa lb:Array Value) (eg:∀args w,(callFunc g args).run Tryz.prog w=.ok (.enter g args) w)
 (hp:∀(x:Int) w',1≤x→x≤l.length→Tf w w'→Calls Tryz.prog g (fa++ #[iV x]++lb) w' (zgr (p x) w')):
 Calls Tryz.prog 142 #[v,.func (.func g) fa lb] w fun e w'=>∃u,e=.returned u∧zet w w' u ((zal l.length).filter p):=by
 obtain⟨A,c,rfl,hc1,hc2⟩:=hl.form;have HP:=Lib.hid hp;clear hp hl;go_enter Tryz.func142,Tryz.ntmps142;go_wp2_with fail;go_loopw [5,9] (fun out i wr=>∃(j:Nat) (xs:List Int),j≤l.length∧i=.int .i64 j∧((zal l.length).take j).filter p=xs∧zet w wr out xs) (fun _ i _=>l.length-(intOf i).toNat)
 case atStart=>exact⟨0,[],Nat.zero_le _,rfl,rfl,Outs.start _ _ _ (Tch.refl _ _)⟩
 case round=>
  obtain⟨j,xs,hj,rfl,hx,hO⟩:=hrel;obtain⟨O,co,rfl,ho1,ho2⟩:=hO.form;have hxl:xs.length≤j:=by rw[←hx];exact Nat.le_trans (List.length_filter_le _ _) (by rw[List.length_take];omega)
  have HX:=Lib.hid hx;clear hx;by_cases hlt:j<l.length
  ·have hlt':(j:Int)<(l.length:Int):=by omega
   have hj0:=znn j;have HC:=Lib.hid (HP.out ((j:Int)+1) wr (by omega) (by omega) hO.tch)
   have hs:((zal l.length).take (j+1)).filter p=xs++(if p ((j:Int)+1)then[(j:Int)+1]else[]):=by
    rw[zrv _ _ hlt,List.filter_append,HX.out];congr 1;by_cases hh:p ((j:Int)+1)=true<;>simp[hh]
   have HS:=Lib.hid hs;clear hs;go_wp2_with fail;refine HC.out.mono ?_;rintro _ w1 ⟨rfl,t1⟩;clear HC;have hO:=hO.keep t1
   cases hb:p ((j:Int)+1)
   ·rw[hb]at HS;have HS:=Lib.hid (show((zal l.length).take (j+1)).filter p=xs by rw[HS.out];simp);clear hb;go_wp2;go_roundw
    case rel=>exact⟨j+1,xs,by omega,by go_num,HS.out,hO⟩
    case measure=>simp[intOf];omega
   ·rw[hb]at HS;clear hb;go_wp2_with ((at_builtin;refine apd zaj (hO.own.alloc _) (Go.Gk.Src.one (news:=[iV ((j:Int)+1)]) rfl (fun m9 u9 hu9=>by rw[(Blk.new (w1) 3 #[iV ((j:Int)+1)]).cell m9];simpa using hu9)) (by simp;rfl) ?_;intro v2 w2 ho2 hg2 hl2;have hO2:=hO.step (x:=(j:Int)+1) (Tch.alloc _ _ _) ho2 hg2 hl2;obtain⟨O2,co2,rfl,_,_⟩:=zac ho2));go_roundw
    case rel=>exact⟨j+1,_,by omega,by go_num,HS.out,hO2⟩
    case measure=>simp[intOf];omega
  ·obtain rfl:l.length=j:=by omega
   go_wp2;go_ret;refine⟨_,rfl,?_⟩;have e:=HX.out;rw[List.take_of_length_le (by rw[za5];omega)]at e;rw[e];exact hO
theorem zpr {w:World} {v:Value} {l:List Acc} (hl:zae zfq 4 (fun _=>True) w v l) (hn:l.length≤100000) (x:Int) {bf bl:Nat} (hf:w.cell? ⟨bf,0,none⟩=some (.func (.func 141) #[] #[])) (hv:w.cell? ⟨bl,0,none⟩=some v):
 Calls Tryz.prog 143 #[iV x,.pointer (some ⟨bf,0,none⟩),.pointer (some ⟨bl,0,none⟩)] w (zgr (zas l x) w):=by
 have HC:=Lib.hid (zru hl hn x);obtain⟨A,c,rfl,hc1,hc2⟩:=hl.form;generalize zas l x=b at *;clear hl;go_enter Tryz.func143,Tryz.ntmps143;go_wp2_with fail;refine HC.out.mono ?_;rintro _ w1 ⟨rfl,t1⟩;go_wp2;go_ret;exact⟨rfl,t1⟩
theorem zix {w:World} {v:Value} {l:List Acc} (hl:zae zfq 4 (fun _=>True) w v l) (hn:l.length≤100000):
 Calls Tryz.prog 59 #[v] w fun e w'=>∃u,e=.returned u∧zet w w' u (zag l):=by
 obtain⟨A,c,rfl,hc1,hc2⟩:=hl.form;have tw:Tf w ((w.alloc (.cells #[.slice A l.length c] 23)).alloc (.cells #[.func (.func 141) #[] #[]] 236)):=(Tch.alloc _ _ _).trans (Tch.alloc _ _ _);have hbl:=(Blk.new w 23 #[.slice A l.length c]).alloc (.cells #[.func (.func 141) #[] #[]] 236);have hbf:=Blk.new2 w (.cells #[.slice A l.length c] 23) 236 #[.func (.func 141) #[] #[]];unfold zag;have hst:∀(a:Addr) (m:Mode) (w':World),(store a (.func (.func 141) #[] #[]) m).run Tryz.prog w'=stored Tryz.prog w' a (.func (.func 141) #[] #[]) m:=fun a m w'=>run_store Tryz.prog w' a _ m rfl
 go_enter Tryz.func59,Tryz.ntmps59;go_wp2_with fail;clear hst;have hl1:=hl.keep tw;generalize(w.alloc (.cells #[.slice A l.length c] 23)).alloc (.cells #[.func (.func 141) #[] #[]] 236)=W at *;generalize w.heap.size=z at *;have HC:=zgz hl1 hn (zas l) 143 #[] #[.pointer (some ⟨z+1,0,none⟩),.pointer (some ⟨z,0,none⟩)] (enters_of Tryz.func143 (by kernel_rfl) rfl) (fun x w' _ _ t=>zpr (hl1.keep t) hn x ((hbf.keep t id).cell 0) ((hbl.keep t id).cell 0));refine HC.mono ?_;rintro _ w1 ⟨u,rfl,hO⟩;clear HC hbl hbf;obtain⟨O,co,rfl,ho1,ho2⟩:=hO.form;go_wp2;go_ret;exact⟨_,rfl,hO.base tw⟩
end Go.Proofs.YtoegobjnjljegaaGreatDoor
namespace Go.Gk
def BestIs (l:List zbv) (e p:Int) (j:Nat) (b:Int):Prop:=(b= -1∧zdc (l.take j) e p=none)∨∃k,∃h:k<l.length,k<j∧b=(k:Int)∧zdc (l.take j) e p=some l[k]
theorem zdi {l:List zbv} {e p:Int} {j:Nat} (h:j<l.length):zdc (l.take (j+1)) e p=zc0 e p (zdc (l.take j) e p) l[j]:=by
 unfold zdc;rw[List.take_succ_eq_append_getElem h,List.foldl_append];rfl
def zdy (s:zbv) (e p:Int):Bool:=s.1==e&&decide (s.2.2.2≤p)
theorem BestIs.skip {l:List zbv} {e p:Int} {j:Nat} {b:Int} (h:BestIs l e p j b) (hj:j<l.length) (hb:zdy l[j] e p=false):BestIs l e p (j+1) b:=by
 have hs:=zdi (e:=e) (p:=p) hj;unfold zc0 at hs;unfold zdy at hb;rw[hb]at hs
 rcases h with⟨h1,h2⟩|⟨k,hk,h1,h2,h3⟩
 ·exact .inl ⟨h1,by rw[hs];simpa using h2⟩
 ·exact .inr ⟨k,hk,by omega,h2,by rw[hs];simpa using h3⟩
theorem BestIs.first {l:List zbv} {e p:Int} {j:Nat} (h:zdc (l.take j) e p=none) (hj:j<l.length) (hb:zdy l[j] e p=true):BestIs l e p (j+1) j:=by
 have hs:=zdi (e:=e) (p:=p) hj;unfold zc0 at hs;unfold zdy at hb;rw[hb,h]at hs;exact .inr ⟨j,hj,by omega,rfl,by rw[hs];rfl⟩
theorem BestIs.later {l:List zbv} {e p:Int} {j k:Nat} (hk:k<l.length) (h:zdc (l.take j) e p=some l[k]) (hj:j<l.length) (hb:zdy l[j] e p=true) (hf:l[k].2.2.2≤l[j].2.2.2):BestIs l e p (j+1) j:=by
 have hs:=zdi (e:=e) (p:=p) hj;unfold zc0 at hs;unfold zdy at hb;rw[hb,h]at hs;exact .inr ⟨j,hj,by omega,rfl,by rw[hs];simp[hf]⟩
theorem BestIs.keep {l:List zbv} {e p:Int} {j k:Nat} (hk:k<l.length) (hkj:k<j) (h:zdc (l.take j) e p=some l[k]) (hj:j<l.length) (hb:zdy l[j] e p=true) (hf:¬l[k].2.2.2≤l[j].2.2.2):BestIs l e p (j+1) k:=by
 have hs:=zdi (e:=e) (p:=p) hj;unfold zc0 at hs;unfold zdy at hb;rw[hb,h]at hs;exact .inr ⟨k,hk,by omega,rfl,by rw[hs];simp[hf]⟩
end Go.Gk
namespace Go.Proofs.YtoegobjnjljegaaGreatDoor
open Go.RowKit Go.Gk
theorem zoe (a b c d e p:Int) {w:World} {be bp:Nat} (he:w.cell? ⟨be,0,none⟩=some (iV e)) (hp:w.cell? ⟨bp,0,none⟩=some (iV p)):
 Calls Tryz.prog 213 #[.agg #[iV a,iV b,iV c,iV d],.pointer (some ⟨be,0,none⟩),.pointer (some ⟨bp,0,none⟩)] w (zgr (zdy (a,b,c,d) e p) w):=by
 have tw:=tal w (.cells #[iV a,iV b,iV c,iV d] 224);have he1:=tw.cell_some he id;have hp1:=tw.cell_some hp id;unfold zdy;simp only;by_cases h:a=e
 ·subst h;rw[beq_self_eq_true,Bool.true_and];go_enter Tryz.func213,Tryz.ntmps213;go_wp2;go_ret;exact⟨rfl,tw⟩
 ·have h':(a==e)=false:=by simpa using h
  rw[h',Bool.false_and];go_enter Tryz.func213,Tryz.ntmps213;go_wp2;go_ret;exact⟨rfl,tw⟩
theorem zps {w:World} {v:Value} {l:List zbv} (hl:zae zdr 4 (fun _=>True) w v l) (hn:l.length≤100000) (e p:Int):
 Calls Tryz.prog 144 #[v,iV e,iV p] w fun x w'=>x=.returned (.tuple #[iV (zam l e p),iV (zbb l e p)])∧Tf w w':=by
 obtain⟨A,c,rfl,hc1,hc2⟩:=hl.form;have hbe:=(Blk.new w 3 #[.int .i64 e]).alloc (.cells #[.int .i64 p] 3);have hbp:=Blk.new2 w (.cells #[.int .i64 e] 3) 3 #[.int .i64 p];have tw:Tf w ((w.alloc (.cells #[.int .i64 e] 3)).alloc (.cells #[.int .i64 p] 3)):=(Tch.alloc _ _ _).trans (Tch.alloc _ _ _);have hl:=hl.keep tw;go_enter Tryz.func144,Tryz.ntmps144;go_wp2_with fail;generalize(w.alloc (.cells #[.int .i64 e] 3)).alloc (.cells #[.int .i64 p] 3)=W at *;generalize w.heap.size=z at *;go_loopw [8,15] (fun best i wr=>∃(j:Nat) (b:Int),j≤l.length∧i=.int .i64 j∧best=.int .i64 b∧BestIs l e p j b∧Tf W wr) (fun _ i _=>l.length-(intOf i).toNat)
 case atStart=>exact⟨0,-1,Nat.zero_le _,rfl,rfl,.inl ⟨rfl,rfl⟩,Tch.refl _ _⟩
 case round=>
  obtain⟨j,b,hj,rfl,rfl,hb,ht⟩:=hrel;by_cases hlt:j<l.length
  ·obtain⟨g,o,rfl⟩:=hl.head (by omega);obtain⟨q0,q1,q2,q3⟩:=Row.four (hl.keep ht) zbg hlt rfl;have hlt':(j:Int)<(l.length:Int):=by omega
   have hj0:=znn j;go_wp2_with fail;have t2:=ht.trans (tal wr (.cells #[iV l[j].1,iV l[j].2.1,iV l[j].2.2.1,iV l[j].2.2.2] 224));have hbs:=Blk.new wr 224 #[iV l[j].1,iV l[j].2.1,iV l[j].2.2.1,iV l[j].2.2.2];generalize wr.alloc (.cells #[iV l[j].1,iV l[j].2.1,iV l[j].2.2.1,iV l[j].2.2.2] 224)=W2 at *;generalize wr.heap.size=N at *;have HC:=Lib.hid (fun(w1:World) (t:Tf W2 w1)=>zoe l[j].1 l[j].2.1 l[j].2.2.1 l[j].2.2.2 e p (show w1.cell? ⟨z,0,none⟩=some (iV e)from t.cell_some ((hbe.keep t2 id).cell 0) id) (show w1.cell? ⟨z+1,0,none⟩=some (iV p)from t.cell_some ((hbp.keep t2 id).cell 0) id));obtain⟨c0,c1,c2,c3⟩:=hbs.w4
   cases hcb:zdy l[j] e p
   ·have HB:=Lib.hid (hb.skip hlt hcb);have HC:Hid (∀w1,Tf W2 w1→Calls Tryz.prog 213 _ w1 (zgr false w1)):=Lib.hid (fun w1 t=>by have:=HC.out w1 t;rw[show zdy (l[j].1,l[j].2.1,l[j].2.2.1,l[j].2.2.2) e p=false from hcb]at this;exact this);clear hcb hb;generalize l[j].1=a at *;generalize l[j].2.1=b1 at *;generalize l[j].2.2.1=c' at *;generalize l[j].2.2.2=d at *;refine zai (fun _=>False) [] 14 [(2,.inl (.bool false))] [] ?_ ?_
    ·exact trivial
    intro bef _;iterate 2 (refine zbt ?_;(try simp only[zaw]))
    refine zb3 (.bool false) (by rfl) (by rfl) (fun w1 hr hf=>?_) ?_
    ·refine zaa (d:=22) rfl (by simp) (fun K hK=>?_);go_step;refine(HC.out w1 ((Tch.drew _ W2).trans hr)).mono ?_;rintro _ w2 ⟨rfl,t2⟩;exact hK _ _ ⟨⟨rfl,t2⟩,zaf⟩
    simp only[zaw];(refine zbt ?_;(try simp only[zaw]));iterate 10 (refine zm8 (by rfl) ?_;(try simp only[zaw]))
    refine za6 ?_;intro w1 hr hp1 hap;have t1:=t2.trans ((Tch.drew _ W2).trans hr);clear hap hp1 c0 c1 c2 c3 hr HC hbs q0 q1 q2 q3;go_wp2;go_roundw
    case rel=>exact⟨j+1,_,by omega,by go_num,rfl,HB.out,t1⟩
    case measure=>simp[intOf];omega
   ·have HC:Hid (∀w1,Tf W2 w1→Calls Tryz.prog 213 _ w1 (zgr true w1)):=Lib.hid (fun w1 t=>by have:=HC.out w1 t;rw[show zdy (l[j].1,l[j].2.1,l[j].2.2.1,l[j].2.2.2) e p=true from hcb]at this;exact this)
    rcases hb with⟨rfl,hn0⟩|⟨k,hk,hkj,rfl,hs0⟩
    ·have HB:=Lib.hid (BestIs.first hn0 hlt hcb);clear hcb hn0;generalize l[j].1=a at *;generalize l[j].2.1=b1 at *;generalize l[j].2.2.1=c' at *;generalize l[j].2.2.2=d at *;refine zai (fun _=>False) [] 14 [(2,.inl (.bool true))] [] ?_ ?_
     ·exact trivial
     intro bef _;iterate 2 (refine zbt ?_;(try simp only[zaw]))
     refine zb3 (.bool true) (by rfl) (by rfl) (fun w1 hr hf=>?_) ?_
     ·refine zaa (d:=22) rfl (by simp) (fun K hK=>?_);go_step;refine(HC.out w1 ((Tch.drew _ W2).trans hr)).mono ?_;rintro _ w2 ⟨rfl,t2⟩;exact hK _ _ ⟨⟨rfl,t2⟩,zaf⟩
     simp only[zaw];iterate 4 (refine zbt ?_;(try simp only[zaw]))
     iterate 7 (refine zm8 (by rfl) ?_;(try simp only[zaw]))
     refine za6 ?_;intro w1 hr hp1 hap;have t1:=t2.trans ((Tch.drew _ W2).trans hr);clear hap hp1 c0 c1 c2 c3 hr HC hbs q0 q1 q2 q3;go_wp2;go_roundw
     case rel=>exact⟨j+1,_,by omega,by go_num,rfl,HB.out,t1⟩
     case measure=>simp[intOf];omega
    ·have hke:=Row.four (hl.keep t2) zbg hk rfl;have d3:=wc0 (show W2.cell? ⟨g,o+k*4+3,none⟩=some _ from hke.2.2.2);have hk0:=znn k;have hk1:(k:Int)<(l.length:Int):=by omega
     by_cases hf:l[k].2.2.2≤l[j].2.2.2
     ·have HB:=Lib.hid (BestIs.later hk hs0 hlt hcb hf);clear hcb hs0 hke;generalize l[k].2.2.2=fk at *;generalize l[j].1=a at *;generalize l[j].2.1=b1 at *;generalize l[j].2.2.1=c' at *;generalize l[j].2.2.2=d at *;refine zai (fun _=>False) [] 14 [(2,.inl (.bool true))] [] ?_ ?_
      ·exact trivial
      intro bef _;iterate 2 (refine zbt ?_;(try simp only[zaw]))
      refine zb3 (.bool true) (by rfl) (by rfl) (fun w1 hr hf=>?_) ?_
      ·refine zaa (d:=22) rfl (by simp) (fun K hK=>?_);go_step;refine(HC.out w1 ((Tch.drew _ W2).trans hr)).mono ?_;rintro _ w2 ⟨rfl,t2⟩;exact hK _ _ ⟨⟨rfl,t2⟩,zaf⟩
      simp only[zaw];iterate 11 (refine zbt ?_;(try simp only[zaw]))
      refine za6 ?_;intro w1 hr hp1 hap;have t1:=t2.trans ((Tch.drew _ W2).trans hr);clear d3;clear hap hp1 c0 c1 c2 c3 hr HC hbs q0 q1 q2 q3;go_wp2;go_roundw
      case rel=>exact⟨j+1,_,by omega,by go_num,rfl,HB.out,t1⟩
      case measure=>simp[intOf];omega
     ·have HB:=Lib.hid (BestIs.keep hk hkj hs0 hlt hcb hf);clear hcb hs0 hke;generalize l[k].2.2.2=fk at *;generalize l[j].1=a at *;generalize l[j].2.1=b1 at *;generalize l[j].2.2.1=c' at *;generalize l[j].2.2.2=d at *;refine zai (fun _=>False) [] 14 [(2,.inl (.bool true))] [] ?_ ?_
      ·exact trivial
      intro bef _;iterate 2 (refine zbt ?_;(try simp only[zaw]))
      refine zb3 (.bool true) (by rfl) (by rfl) (fun w1 hr hf=>?_) ?_
      ·refine zaa (d:=22) rfl (by simp) (fun K hK=>?_);go_step;refine(HC.out w1 ((Tch.drew _ W2).trans hr)).mono ?_;rintro _ w2 ⟨rfl,t2⟩;exact hK _ _ ⟨⟨rfl,t2⟩,zaf⟩
      simp only[zaw];iterate 11 (refine zbt ?_;(try simp only[zaw]))
      refine za6 ?_;intro w1 hr hp1 hap;have t1:=t2.trans ((Tch.drew _ W2).trans hr);clear d3;clear hap hp1 c0 c1 c2 c3 hr HC hbs q0 q1 q2 q3;go_wp2;go_roundw
      case rel=>exact⟨j+1,_,by omega,by go_num,rfl,HB.out,t1⟩
      case measure=>simp[intOf];omega
  ·obtain rfl:l.length=j:=by omega
   have hb':(b= -1∧zdc l e p=none)∨∃k,∃h:k<l.length,b=(k:Int)∧zdc l e p=some l[k]:=by
    rcases hb with⟨h1,h2⟩|⟨k,hk,-,h1,h2⟩
    ·rw[List.take_length]at h2;exact .inl ⟨h1,h2⟩
    ·rw[List.take_length]at h2;exact .inr ⟨k,hk,h1,h2⟩
   clear hb
   rcases hb' with⟨rfl,h2⟩|⟨k,hk,rfl,h2⟩
   ·have HU:=Lib.hid (show zam l e p=0∧zbb l e p=10000 by unfold zam zbb;rw[h2];exact⟨rfl,rfl⟩);clear h2;go_wp2;go_ret2
    exact⟨by rw[HU.out.1,HU.out.2];rfl,tw.trans ht⟩
   ·have HU:=Lib.hid (show zam l e p=l[k].2.1∧zbb l e p=l[k].2.2.1 by unfold zam zbb;rw[h2];exact⟨rfl,rfl⟩);clear h2;obtain⟨g,o,rfl⟩:=hl.head (by omega);obtain⟨q0,q1,q2,q3⟩:=Row.four (hl.keep ht) zbg hk rfl;have hk0:=znn k;have hk1:(k:Int)<(l.length:Int):=by omega
    generalize l[k].2.1=b1 at *;generalize l[k].2.2.1=c' at *;go_wp2_with fail;go_quiet (fail)
    rename_i nq
    go_wp2;go_ret2
    exact⟨by rw[HU.out.1,HU.out.2];rfl,(tw.trans ht).trans (Tch.drewN _ _ _)⟩
end Go.Proofs.YtoegobjnjljegaaGreatDoor
namespace Go.Gk
theorem zng {l:List zbv} {p e x:Int} {s:Nat} (hs:s≤l.length):
 zb2 l p e (l.length-s) x=if s<l.length then(if zam l x p==e||zam l x p==0 then zam l x p else zb2 l p e (l.length-(s+1)) (zam l x p))else zam l x p:=by
 by_cases h:s<l.length
 ·rw[if_pos h]
  obtain⟨n,hn⟩:∃n,l.length-s=n+1:=⟨l.length-s-1,by omega⟩
  have:l.length-(s+1)=n:=by omega
  rw[hn,this];rfl
 ·rw[if_neg h,show l.length-s=0 by omega];rfl
end Go.Gk
namespace Go.Proofs.YtoegobjnjljegaaGreatDoor
open Go.RowKit Go.Gk
theorem zpt {w:World} {v:Value} {l:List zbv} (hl:zae zdr 4 (fun _=>True) w v l) (hn:l.length≤100000) (e p:Int):
 Calls Tryz.prog 271 #[v,iV e,iV p] w (zgr (zbu l e p) w):=by
 have hA:=fun x w' (t:Tf w w')=>zps (hl.keep t) hn x p
 obtain⟨A,c,rfl,hc1,hc2⟩:=hl.form;have HA:=Lib.hid hA;clear hA hl;have hR:zbu l e p=(zb2 l p e (l.length-0) e==e):=rfl;rw[hR];clear hR
 obtain⟨R,hRR⟩:∃R,zb2 l p e (l.length-0) e=R:=⟨_,rfl⟩
 rw[hRR];have HRR:=Lib.hid hRR;clear hRR;go_enter Tryz.func271,Tryz.ntmps271;go_wp2;refine wp_scope_jumps 0 (fun a' w'=>Tf w w'∧∃(x:Int) (st:Nat) (u9 u10 u11 u12 u13 u14 u15 u16 u17 u18 u19 u20 u21 u22 u23 u24 u25 u26 u27 u28 u29 u30 u31 u32 u33 u34:Value),st≤l.length∧zb2 l p e (l.length-st) x=R∧a'={tmps:= #[.slice A l.length c,iV e,iV p,undef,undef,undef,.bool false,iV x,iV st,u9,u10,u11,u12,u13,u14,u15,u16,u17,u18,u19,u20,u21,u22,u23,u24,u25,u26,u27,u28,u29,u30,u31,u32,u33,u34],defers:=[]}) (fun a' _=>l.length+1-(intOf (a'.tmps.getD 8 undef)).toNat) rfl ?_ ?_
 ·go_wp2_with fail;go_step3
  have hT:=zng (l:=l) (p:=p) (e:=e) (x:=e) (s:=0) (by omega);have HC:=HA.out e w (Tch.refl _ _);generalize zam l e p=y at *;have HT:=Lib.hid hT;clear hT;go_wp2_with fail;refine HC.mono ?_;rintro _ w1 ⟨rfl,t1⟩;have t2:=t1;clear HC t1;have hs0:(0:Int)≤(0:Int):=by omega
  have hs1:(0:Int)≤(l.length:Int):=by omega
  by_cases h1:y=e
  ·obtain rfl:e=y:=h1.symm;have HY:=Lib.hid (show zb2 l p e (l.length-0) e=e by rw[HT.out];simp);clear HT;go_wp2;simp only[Exit.jump];go_ret;exact⟨by show Ending.returned (.bool true)=_;rw[show R=e from HRR.out.symm.trans HY.out];simp,t2⟩
  have h1':(y==e)=false:=by simpa using h1
  have h1'':(y !=e)=true:=by simpa using h1
  by_cases h2:y=0
  ·subst h2;have HY:=Lib.hid (show zb2 l p e (l.length-0) e=0 by rw[HT.out];simp);clear HT;go_wp2;simp only[Exit.jump];go_ret;exact⟨by show Ending.returned (.bool false)=_;rw[show R=0 from HRR.out.symm.trans HY.out,h1'],t2⟩
  have h2':(y==0)=false:=by simpa using h2
  have h2'':(y !=0)=true:=by simpa using h2
  by_cases h3:0<l.length
  ·have h3':(0:Int)+1≤(l.length:Int):=by omega
   have HY:=Lib.hid (show zb2 l p e (l.length-0) e=zb2 l p e (l.length-(0+1)) y by rw[HT.out,if_pos h3,h1',h2'];rfl);clear HT;go_wp2;go_step3
   exact⟨rfl,t2,y,0+1,⟨_,_,_,_,_,_,_,_,_,_,_,_,_,_,_,_,_,_,_,_,_,_,_,_,_,_,by omega,HY.out.symm.trans HRR.out,rfl⟩⟩
  ·have h3':¬(0:Int)+1≤(l.length:Int):=by omega
   have HY:=Lib.hid (show zb2 l p e (l.length-0) e=y by rw[HT.out,if_neg h3]);clear HT;go_wp2;simp only[Exit.jump];go_ret;exact⟨by show Ending.returned (.bool false)=_;rw[show R=y from HRR.out.symm.trans HY.out,h1'],t2⟩
 ·rintro a' w' ⟨ht,x,st,u9,u10,u11,u12,u13,u14,u15,u16,u17,u18,u19,u20,u21,u22,u23,u24,u25,u26,u27,u28,u29,u30,u31,u32,u33,u34,hst,hR,rfl⟩;have HR:=Lib.hid hR;clear hR;have hT:=zng (l:=l) (p:=p) (e:=e) (x:=x) (s:=st) (by omega);have HC:=HA.out x w' ht;generalize zam l x p=y at *;have HT:=Lib.hid hT;clear hT;go_wp2_with fail;refine HC.mono ?_;rintro _ w1 ⟨rfl,t1⟩;have t2:=ht.trans t1;clear HC t1;have hs0:(0:Int)≤(st:Int):=by omega
  have hs1:(st:Int)≤(l.length:Int):=by omega
  by_cases h1:y=e
  ·obtain rfl:e=y:=h1.symm;have HY:=Lib.hid (show zb2 l p e (l.length-st) x=e by rw[HT.out];simp);clear HT;go_wp2;simp only[Exit.jump];go_ret;exact⟨by show Ending.returned (.bool true)=_;rw[show R=e from HR.out.symm.trans HY.out];simp,t2⟩
  have h1':(y==e)=false:=by simpa using h1
  have h1'':(y !=e)=true:=by simpa using h1
  by_cases h2:y=0
  ·subst h2;have HY:=Lib.hid (show zb2 l p e (l.length-st) x=0 by rw[HT.out];simp);clear HT;go_wp2;simp only[Exit.jump];go_ret;exact⟨by show Ending.returned (.bool false)=_;rw[show R=0 from HR.out.symm.trans HY.out,h1'],t2⟩
  have h2':(y==0)=false:=by simpa using h2
  have h2'':(y !=0)=true:=by simpa using h2
  by_cases h3:st<l.length
  ·have h3':(st:Int)+1≤(l.length:Int):=by omega
   have HY:=Lib.hid (show zb2 l p e (l.length-st) x=zb2 l p e (l.length-(st+1)) y by rw[HT.out,if_pos h3,h1',h2'];rfl);clear HT;go_wp2;go_step3
   exact⟨rfl,⟨t2,y,st+1,⟨_,_,_,_,_,_,_,_,_,_,_,_,_,_,_,_,_,_,_,_,_,_,_,_,_,_,by omega,HY.out.symm.trans HR.out,rfl⟩⟩,by simp[intOf];omega⟩
  ·have h3':¬(st:Int)+1≤(l.length:Int):=by omega
   have HY:=Lib.hid (show zb2 l p e (l.length-st) x=y by rw[HT.out,if_neg h3]);clear HT;go_wp2;simp only[Exit.jump];go_ret;exact⟨by show Ending.returned (.bool false)=_;rw[show R=y from HR.out.symm.trans HY.out,h1'],t2⟩
end Go.Proofs.YtoegobjnjljegaaGreatDoor
namespace Go.Gk
open Go.RowKit
theorem RetOk.no {w w':World} {n:Int} (h:(n==0)=false) (t:Tf w w'):RetOk false w (.returned (iV n)) w':=⟨n,rfl,h,t⟩
theorem RetOk.yes {w w':World} (t:Tf w w'):RetOk true w (.returned (iV 0)) w':=⟨0,rfl,rfl,t⟩
theorem zch (p:Nat→Bool) (j:Nat):(List.range (j+1)).all p=((List.range j).all p&&p j):=by rw[List.range_succ,List.all_append];simp
theorem zcu {p:Nat→Bool} {j n:Nat} (h:j<n) (hp:p j=false):(List.range n).all p=false:=by
 rw[List.all_eq_false];exact⟨j,List.mem_range.2 h,by simp[hp]⟩
theorem zuv {l:List zbv} {m:Nat} (hm:l.length=m+1) (h:m<l.length) (n:Int):zfm l n=(zf2 l[m] n&&(List.range 24).all fun p=>!zbu l l[m].1 (p:Int)):=by
 unfold zfm;have e:l.getLast?=some l[m]:=by rw[List.getLast?_eq_getElem?,←List.getElem?_eq_getElem h];congr 1;omega
 rw[e]
end Go.Gk
namespace Go.Proofs.YtoegobjnjljegaaGreatDoor
open Go.RowKit Go.Gk
theorem zrw {w:World} {v:Value} {l:List zbv} (hl:zae zdr 4 (fun _=>True) w v l) (hn:l.length≤100000) (h0:0<l.length) (n:Int):
 Calls Tryz.prog 203 #[v,iV n] w (RetOk (zfm l n) w):=by
 obtain⟨m,hm⟩:∃m,l.length=m+1:=⟨l.length-1,by omega⟩
 have hR:=fun e p w' (t:Tf w w')=>zpt (hl.keep t) hn e p
 obtain⟨A,c,rfl,hc1,hc2⟩:=hl.form;obtain⟨g,o,rfl⟩:=hl.head h0;have hlt:m<l.length:=by omega
 obtain⟨q0,q1,q2,q3⟩:=Row.four hl zbg hlt rfl;rw[zuv hm hlt];generalize l[m]=s at *;obtain⟨a,b,c',d⟩:=s;simp only at q0 q1 q2 q3⊢;rw[hm]at hR hc1⊢;have HR:=Lib.hid hR;have hm0:=znn m;have hm9:(m:Int)≤100000:=by omega
 clear hm hl h0 hn hR hlt;have hbs:=Blk.new w 224 #[iV a,iV b,iV c',iV d];have tw:=tal w (.cells #[iV a,iV b,iV c',iV d] 224)
 obtain⟨ok,hok⟩:∃ok,(zf2 (a,b,c',d) n&&(List.range 24).all fun p=>!zbu l a (p:Int))=ok:=⟨_,rfl⟩
 rw[hok];have HOK:=Lib.hid hok;clear hok;by_cases h1:1≤a
 rotate_left
 ·obtain rfl:ok=false:=by rw[←HOK.out];unfold zf2;simp[h1]
  clear HOK;go_enter Tryz.func203,Tryz.ntmps203;go_wp2;all_goals(go_ret;first|exact RetOk.no rfl tw|exact RetOk.no rfl (Tch.alloc _ _ _))
 by_cases h2:a≤n
 rotate_left
 ·obtain rfl:ok=false:=by rw[←HOK.out];unfold zf2;simp[h2]
  clear HOK;go_enter Tryz.func203,Tryz.ntmps203;go_wp2;all_goals(go_ret;first|exact RetOk.no rfl tw|exact RetOk.no rfl (Tch.alloc _ _ _))
 by_cases h3:0≤b
 rotate_left
 ·obtain rfl:ok=false:=by rw[←HOK.out];unfold zf2;simp[h3]
  clear HOK;go_enter Tryz.func203,Tryz.ntmps203;go_wp2;all_goals(go_ret;first|exact RetOk.no rfl tw|exact RetOk.no rfl (Tch.alloc _ _ _))
 by_cases h4:b≤n
 rotate_left
 ·obtain rfl:ok=false:=by rw[←HOK.out];unfold zf2;simp[h4]
  clear HOK;go_enter Tryz.func203,Tryz.ntmps203;go_wp2;all_goals(go_ret;first|exact RetOk.no rfl tw|exact RetOk.no rfl (Tch.alloc _ _ _))
 by_cases h5:0≤c'
 rotate_left
 ·obtain rfl:ok=false:=by rw[←HOK.out];unfold zf2;simp[h5]
  clear HOK;go_enter Tryz.func203,Tryz.ntmps203;go_wp2;all_goals(go_ret;first|exact RetOk.no rfl tw|exact RetOk.no rfl (Tch.alloc _ _ _))
 by_cases h6:c'≤10000
 rotate_left
 ·obtain rfl:ok=false:=by rw[←HOK.out];unfold zf2;simp[h6]
  clear HOK;go_enter Tryz.func203,Tryz.ntmps203;go_wp2;all_goals(go_ret;first|exact RetOk.no rfl tw|exact RetOk.no rfl (Tch.alloc _ _ _))
 by_cases h7:b=0∧¬c'=10000
 ·obtain⟨rfl,h7b⟩:=h7;have h7c:(c' !=10000)=true:=by simpa using h7b
  obtain rfl:ok=false:=by rw[←HOK.out];unfold zf2;simp[h7b]
  clear HOK;go_enter Tryz.func203,Tryz.ntmps203;go_wp2;all_goals(go_ret;first|exact RetOk.no rfl tw|exact RetOk.no rfl (Tch.alloc _ _ _))
 by_cases h8:0≤d
 rotate_left
 ·obtain rfl:ok=false:=by rw[←HOK.out];unfold zf2;simp[h8]
  clear HOK;go_enter Tryz.func203,Tryz.ntmps203;go_wp2;all_goals(go_ret;first|exact RetOk.no rfl tw|exact RetOk.no rfl (Tch.alloc _ _ _))
 by_cases h9:d<24
 rotate_left
 ·obtain rfl:ok=false:=by rw[←HOK.out];unfold zf2;simp[h9]
  clear HOK;go_enter Tryz.func203,Tryz.ntmps203;go_wp2;all_goals(go_ret;first|exact RetOk.no rfl tw|exact RetOk.no rfl (Tch.alloc _ _ _))
 have hin:zf2 (a,b,c',d) n=true:=by
  unfold zf2;simp[h1,h2,h3,h4,h5,h6,h8,h9];omega
 rw[hin,Bool.true_and]at HOK;clear hin;have h7':b=0→c'=10000:=by omega
 clear h7
 obtain⟨W,hW⟩:∃W,W=w.alloc (.cells #[iV a,iV b,iV c',iV d] 224):=⟨_,rfl⟩
 rw[←hW]at hbs tw;have HW:=Lib.hid hW;clear hW;by_cases hb0:b=0
 ·obtain rfl:=h7' hb0;subst hb0;go_enter Tryz.func203,Tryz.ntmps203;go_wp2_with fail;rw[←HW.out];generalize w.heap.size=z at *;go_loopw [62] (fun i wr=>∃j:Nat,j≤24∧i=.int .i64 j∧((List.range j).all fun p=>!zbu l a (p:Int))=true∧Tf W wr) (fun i _=>24-(intOf i).toNat)
  case atStart=>exact⟨0,by omega,rfl,rfl,Tch.refl _ _⟩
  case round=>
   obtain⟨j,hj,rfl,hall,ht⟩:=hrel;have HA:=Lib.hid hall;clear hall;by_cases hlt:j<24
   ·have hlt':(j:Int)<24:=by omega
    have hj0:=znn j;have k0:=(hbs.keep ht id).at0;have HC:=HR.out a j wr (tw.trans ht);have hs:=zch (fun p=>!zbu l a (p:Int)) j;have hno:=fun h=>zcu (p:=fun p=>!zbu l a (p:Int)) hlt h
    generalize zbu l a (j:Int)=rb at *;have HS:=Lib.hid hs;have HN:=Lib.hid hno;clear hs hno;go_wp2_with fail;refine HC.mono ?_;rintro _ w1 ⟨rfl,t1⟩;clear HC
    cases rb
    ·go_wp2;go_roundw
     case rel=>exact⟨j+1,by omega,by go_num,by rw[HS.out,HA.out];rfl,ht.trans t1⟩
     case measure=>simp[intOf];omega
    ·obtain rfl:ok=false:=by rw[←HOK.out,HN.out rfl]
     go_wp2;go_ret;exact RetOk.no rfl ((tw.trans ht).trans t1)
   ·obtain rfl:j=24:=by omega
    obtain rfl:ok=true:=by rw[←HOK.out,HA.out]
    go_wp2;go_ret;exact RetOk.yes (tw.trans ht)
 ·have hb0':(b==0)=false:=by simpa using hb0
  clear h7';go_enter Tryz.func203,Tryz.ntmps203;go_wp2_with fail;rw[←HW.out];generalize w.heap.size=z at *;go_loopw [62] (fun i wr=>∃j:Nat,j≤24∧i=.int .i64 j∧((List.range j).all fun p=>!zbu l a (p:Int))=true∧Tf W wr) (fun i _=>24-(intOf i).toNat)
  case atStart=>exact⟨0,by omega,rfl,rfl,Tch.refl _ _⟩
  case round=>
   obtain⟨j,hj,rfl,hall,ht⟩:=hrel;have HA:=Lib.hid hall;clear hall;by_cases hlt:j<24
   ·have hlt':(j:Int)<24:=by omega
    have hj0:=znn j;have k0:=(hbs.keep ht id).at0;have HC:=HR.out a j wr (tw.trans ht);have hs:=zch (fun p=>!zbu l a (p:Int)) j;have hno:=fun h=>zcu (p:=fun p=>!zbu l a (p:Int)) hlt h
    generalize zbu l a (j:Int)=rb at *;have HS:=Lib.hid hs;have HN:=Lib.hid hno;clear hs hno;go_wp2_with fail;refine HC.mono ?_;rintro _ w1 ⟨rfl,t1⟩;clear HC
    cases rb
    ·go_wp2;go_roundw
     case rel=>exact⟨j+1,by omega,by go_num,by rw[HS.out,HA.out];rfl,ht.trans t1⟩
     case measure=>simp[intOf];omega
    ·obtain rfl:ok=false:=by rw[←HOK.out,HN.out rfl]
     go_wp2;go_ret;exact RetOk.no rfl ((tw.trans ht).trans t1)
   ·obtain rfl:j=24:=by omega
    obtain rfl:ok=true:=by rw[←HOK.out,HA.out]
    go_wp2;go_ret;exact RetOk.yes (tw.trans ht)
