/-
  Plain: where two meet, by going through all. No program in sight.
-/
import Derived.Test.YtnjhfcopphpkpaaGreatDoorZ64
set_option maxRecDepth 100000
set_option maxHeartbeats 3200000
namespace Go.Gk.V33
section
variable {l:List zbv} {n:Int} {p:Nat}
theorem zvo (hp:p<24) (hok:zan l n=true) (e:Int):∃out,Chain (fun y=>zam l y p) e out 0:=by
 have h:∀k:Nat,(∃out,Chain (fun y=>zam l y p) e out 0)∨∃out x,Chain (fun y=>zam l y p) e out x∧out.length=k∧x≠0:=by
  intro k;induction k with
  |zero=>
   have hs:Chain (fun y=>zam l y p) e [] (zam l e p):=.start;by_cases h0:zam l e p=0
   ·rw[h0]at hs;exact .inl ⟨_,hs⟩
   ·exact .inr ⟨_,_,hs,rfl,h0⟩
  |succ k ih=>
   rcases ih with h|⟨out,x,hc,hl,h0⟩
   ·exact .inl h
   ·have hs:Chain (fun y=>zam l y p) e (out++[x]) (zam l x p):=.step hc h0 (zl2 hp hok hc);by_cases h1:zam l x p=0
    ·rw[h1]at hs;exact .inl ⟨_,hs⟩
    ·exact .inr ⟨_,_,hs,by simp[hl],h1⟩
 rcases h (l.length+1)with h|⟨out,x,hc,hl,_⟩
 ·exact h
 ·have:=zf0 hc;omega
def zbw (l:List zbv) (p:Int) (e:Int):List Int:=e::zds l p e
theorem zjc (l:List zbv) (p e:Int):e∈zbw l p e:=List.mem_cons_self ..
theorem zq0 {p t e:Int}:zbm l p t e=true↔t∈zbw l p e:=by
 unfold zbm zbw;rw[Bool.or_eq_true,beq_iff_eq,List.contains_iff_mem,List.mem_cons]
theorem ztt (hp:p<24) (hok:zan l n=true) (e:Int):zds l p e=if zam l e p=0 then[]else zbw l p (zam l e p):=by
 by_cases h0:zam l e p=0
 ·unfold zds;rw[h0,zg3,if_pos rfl]
 ·rw[if_neg h0];obtain⟨out,hc⟩:=zvo hp hok (zam l e p);have hL:=zf0 hc;have e1:=zp5 hc (l.length-out.length);rw[show out.length+(l.length-out.length)=l.length by omega,zg3,List.append_nil]at e1;have e2:=zl3 hc;unfold zbw;rw[e2,←e1];unfold zds;conv=>lhs;unfold zq4
  rw[if_neg h0]
theorem zyd (hp:p<24) (hok:zan l n=true):∀(m:Nat) (e t:Int),(zds l p e).length=m→t∈zbw l p e→zbw l p t<:+zbw l p e:=by
 intro m;induction m with
 |zero=>
  intro e t hm ht;unfold zbw at ht;rw[List.eq_nil_of_length_eq_zero hm,List.mem_singleton]at ht;subst ht;exact List.suffix_refl _
 |succ m ih=>
  intro e t hm ht;rcases List.mem_cons.1 ht with rfl|ht
  ·exact List.suffix_refl _
  ·have hs:=ztt hp hok e;by_cases h0:zam l e p=0
   ·rw[if_pos h0]at hs;rw[hs]at ht
    cases ht
   ·rw[if_neg h0]at hs;rw[hs]at ht
    have hl:(zds l p (zam l e p)).length=m:=by
     have h9:=congrArg List.length hs;unfold zbw at h9;rw[hm,List.length_cons]at h9;omega
    have h1:=ih _ t hl ht;refine h1.trans ?_;show zbw l p (zam l e p)<:+e::zds l p e;rw[hs];exact List.suffix_cons ..
theorem zmh (hp:p<24) (hok:zan l n=true) {e t:Int} (h:t∈zbw l p e):zbw l p t<:+zbw l p e:=zyd hp hok _ e t rfl h
theorem zye (hp:p<24) (hok:zan l n=true) {e t x:Int} (h1:t∈zbw l p e) (h2:e∈zbw l p x):t∈zbw l p x:=(zmh hp hok h2).subset h1
theorem way_anti (hp:p<24) (hok:zan l n=true) {e t:Int} (h1:t∈zbw l p e) (h2:e∈zbw l p t):t=e:=by
 have s1:=zmh hp hok h1;have s2:=zmh hp hok h2;have h:=s1.eq_of_length (Nat.le_antisymm s1.length_le s2.length_le);unfold zbw at h;exact(List.cons.inj h).1
theorem way_comp (hp:p<24) (hok:zan l n=true) {a i j:Int} (h1:i∈zbw l p a) (h2:j∈zbw l p a):i∈zbw l p j∨j∈zbw l p i:=by
 rcases List.suffix_or_suffix_of_suffix (zmh hp hok h1) (zmh hp hok h2)with h|h
 ·exact .inl (h.subset (zjc ..))
 ·exact .inr (h.subset (zjc ..))
theorem zyf (hp:p<24) (hok:zan l n=true) (F:Int→Bool) {best:Int} (h1:F best=true):∀(m:Nat) (a:Int),(zds l p a).length=m→best∈zbw l p a→(∀t∈zbw l p a,F t=true→t∈zbw l p best)→(zbw l p a).find? F=some best:=by
 intro m;induction m with
 |zero=>
  intro a hm hb hall;have hb2:=hb;unfold zbw at hb⊢;rw[List.eq_nil_of_length_eq_zero hm]at hb⊢;rw[List.mem_singleton]at hb;subst hb;rw[List.find?_cons_of_pos h1]
 |succ m ih=>
  intro a hm hb hall;by_cases ha:F a=true
  ·have:=way_anti hp hok (hall a (zjc ..) ha) hb;subst this;unfold zbw;rw[List.find?_cons_of_pos ha]
  ·have hs:=ztt hp hok a;by_cases h0:zam l a p=0
   ·rw[if_pos h0]at hs;rw[hs]at hm
    cases hm
   ·rw[if_neg h0]at hs
    have hl:(zds l p (zam l a p)).length=m:=by
     have h9:=congrArg List.length hs;unfold zbw at h9;rw[hm,List.length_cons]at h9;omega
    have hbu:best∈zds l p a:=by
     rcases List.mem_cons.1 hb with e|e
     ·exact absurd (e▸h1) ha
     ·exact e
    rw[hs]at hbu;have:=ih _ hl hbu (fun t ht=>hall t (List.mem_cons_of_mem _ (by rw[hs];exact ht)));show(a::zds l p a).find? F=some best;rw[List.find?_cons_of_neg ha,hs];exact this
def zc3 (l:List zbv) (p:Int) (n:Nat) (top x:Int):Bool:=((decide (1≤top)&&decide (top≤n))&&(decide (1≤x)&&decide (x≤n)))&&zbm l p top x
def zgi (l:List zbv) (p:Int) (n:Nat) (a b best i:Int):Int:=if(zc3 l p n i a&&zc3 l p n i b&&(best==0||zc3 l p n best i))=true then i else best
def zq1 (l:List zbv) (p:Int) (n:Nat) (a b:Int):Int:=(zal n).foldl (zgi l p n a b) 0
theorem zos {l:List zbv} {p:Int} {n:Nat} {top x:Int} (h1:1≤top∧top≤n) (h2:1≤x∧x≤n):zc3 l p n top x=true↔top∈zbw l p x:=by
 unfold zc3;rw[Bool.and_eq_true,zq0];simp[h1.1,h1.2,h2.1,h2.2]
def zyg (l:List zbv) (p:Int) (a b:Int) (xs:List Int) (best:Int):Prop:=(best=0∧∀i∈xs,¬(i∈zbw l p a∧i∈zbw l p b))∨(best∈xs∧(best∈zbw l p a∧best∈zbw l p b)∧∀i∈xs,i∈zbw l p a∧i∈zbw l p b→i∈zbw l p best)
theorem ztu {n:Nat} (hp:p<24) (hok:zan l n=true) {a b:Int} (ha:1≤a∧a≤(n:Int)) (hb:1≤b∧b≤(n:Int)):∀(ys xs:List Int) (best:Int),(∀y∈xs++ys,1≤y∧y≤(n:Int))→zyg l p a b xs best→zyg l p a b (xs++ys) (ys.foldl (zgi l p n a b) best)
 |[],xs,best,_,h=>by rw[List.append_nil];exact h
 |y::ys,xs,best,hr,h=>by
  have hy:=hr y (List.mem_append.2 (.inr (List.mem_cons_self ..)));rw[show xs++y::ys=(xs++[y])++ys by simp,List.foldl_cons];refine ztu hp hok ha hb ys (xs++[y]) _ (by simpa using hr) ?_;have e1:=zos (l:=l) (p:=p) hy ha;have e2:=zos (l:=l) (p:=p) hy hb;unfold zgi;by_cases hc:y∈zbw l p a∧y∈zbw l p b
  ·rw[e1.2 hc.1,e2.2 hc.2]
   rcases h with⟨rfl,h⟩|⟨hm,hcb,h⟩
   ·rw[if_pos (by simp)];refine .inr ⟨by simp,hc,fun i hi hci=>?_⟩;rcases List.mem_append.1 hi with hi|hi
    ·exact absurd hci (h i hi)
    ·rw[List.mem_singleton]at hi;subst hi;exact zjc ..
   ·have hbr:=hr best (List.mem_append.2 (.inl hm));have e3:=zos (l:=l) (p:=p) hbr hy;by_cases hby:best∈zbw l p y
    ·rw[e3.2 hby,if_pos (by simp)];refine .inr ⟨by simp,hc,fun i hi hci=>?_⟩;rcases List.mem_append.1 hi with hi|hi
     ·exact zye hp hok (h i hi hci) hby
     ·rw[List.mem_singleton]at hi;subst hi;exact zjc ..
    ·have h3:zc3 l p n best y=false:=by
      cases h9:zc3 l p n best y with
      |false=>rfl
      |true=>exact absurd (e3.1 h9) hby
     have hb0:(best==0)=false:=by rw[beq_eq_false_iff_ne];omega
     rw[h3,hb0,if_neg (by simp)];refine .inr ⟨List.mem_append.2 (.inl hm),hcb,fun i hi hci=>?_⟩;rcases List.mem_append.1 hi with hi|hi
     ·exact h i hi hci
     ·rw[List.mem_singleton]at hi;subst hi
      exact(way_comp hp hok hc.1 hcb.1).resolve_right hby
  ·have h3:(zc3 l p n y a&&zc3 l p n y b)=false:=by
    cases h9:zc3 l p n y a with
    |false=>rfl
    |true=>
     cases h8:zc3 l p n y b with
     |false=>rfl
     |true=>exact absurd ⟨e1.1 h9,e2.1 h8⟩ hc
   rw[h3,if_neg (by simp)]
   rcases h with⟨rfl,h⟩|⟨hm,hcb,h⟩
   ·refine .inl ⟨rfl,fun i hi=>?_⟩;rcases List.mem_append.1 hi with hi|hi
    ·exact h i hi
    ·rw[List.mem_singleton]at hi;subst hi;exact hc
   ·refine .inr ⟨List.mem_append.2 (.inl hm),hcb,fun i hi hci=>?_⟩;rcases List.mem_append.1 hi with hi|hi
    ·exact h i hi hci
    ·rw[List.mem_singleton]at hi;subst hi;exact absurd hci hc
theorem meet_is {n:Nat} (hp:p<24) (hok:zan l n=true) {a b:Int} (ha:1≤a∧a≤(n:Int)) (hb:1≤b∧b≤(n:Int)):zq1 l p n a b=ze5 l p a b:=by
 have hi:=ztu hp hok ha hb (zal n) [] 0 (fun y hy=>by rw[List.nil_append]at hy;exact zgc.1 hy) (.inl ⟨rfl,fun i hi=>by cases hi⟩);rw[List.nil_append]at hi
 have hin:∀t∈zbw l p a,t∈zal n:=fun t ht=>by
  rcases List.mem_cons.1 ht with rfl|ht
  ·exact zgc.2 ha
  ·exact zgc.2 (zxk hok ht)
 have hF:∀t,zbm l p t b=true↔t∈zbw l p b:=fun t=>zq0
 unfold zq1 ze5;show _=((zbw l p a).find? fun t=>zbm l p t b).getD 0;generalize(zal n).foldl (zgi l p n a b) 0=best at hi
 rcases hi with⟨rfl,h⟩|⟨hm,hcb,h⟩
 ·rw[List.find?_eq_none.2 fun t ht h9=>h t (hin t ht) ⟨ht,(hF t).1 h9⟩];rfl
 ·rw[zyf hp hok (fun t=>zbm l p t b) ((hF best).2 hcb.2) _ a rfl hcb.1 fun t ht h9=>h t (hin t ht) ⟨ht,(hF t).1 h9⟩];rfl
end
def upsD (l:List zbv) (p:Int) (n:Nat) (x:Int):List Int:=if 1≤x∧x≤n then zds l p x else[]
theorem zyh {l:List zbv} {p:Int} {n:Nat} {top x:Int} (h1:1≤top∧top≤(n:Int)) (h2:1≤x∧x≤(n:Int)):zc3 l p n top x=(decide (top=x)||decide (top∈upsD l p n x)):=by
 unfold zc3 upsD zbm;rw[if_pos h2];simp only[decide_eq_true h1.1,decide_eq_true h1.2,decide_eq_true h2.1,decide_eq_true h2.2,Bool.and_self,Bool.true_and];congr 1;rw[Bool.eq_iff_iff,List.contains_iff_mem,decide_eq_true_iff]
theorem zyi {l:List zbv} {p:Int} {n:Nat} {top x:Int} (h:¬((1≤top∧top≤(n:Int))∧(1≤x∧x≤(n:Int)))):zc3 l p n top x=false:=by
 unfold zc3;rw[Bool.and_eq_false_iff];left
 cases h9:(decide (1≤top)&&decide (top≤(n:Int)))&&(decide (1≤x)&&decide (x≤(n:Int)))with
 |false=>rfl
 |true=>
  simp only[Bool.and_eq_true,decide_eq_true_eq]at h9;exact absurd h9 h
end Go.Gk.V33
namespace Go.Proofs.YtnjhfcopphpkpaaGreatDoor
open Go.RowKit Go.Gk Go.Gk.V33
section
variable {w:World} {v:Value} {l:List zbv} {n p:Nat}
theorem zsv (hl:zae zdr 4 (fun _=>True) w v l) (h400:l.length≤400) (hok:zan l n=true) (hp:p<24) (x:Int):
 Calls Tryz.prog 320 #[.agg #[v,.int .i64 (n:Int),.int .i64 (p:Int)],.int .i64 x] w fun y w'=>∃u,y=.returned u∧zet w w' u (upsD l p n x):=by
 have tw:=tal w (.cells #[v,.int .i64 (n:Int),.int .i64 (p:Int)] 204);have bF:=Blk.new w 204 #[v,.int .i64 (n:Int),.int .i64 (p:Int)];have HAB:=Lib.hid (fun w' (t:Tf w w')=>zkj (hl.keep t) (by omega) x (p:Int));have HIS:=Lib.hid (fun w'=>ze8 v (n:Int) (p:Int) x w');have HCH:=Lib.hid (fun(xs:List Int) (h:Chain (fun y=>zam l y p) x xs 0)=>zl3 h);have HCN:=Lib.hid (fun(xs:List Int) (y:Int) (h:Chain (fun y=>zam l y p) x xs y)=>zl2 hp hok h);obtain⟨A,c,rfl,hc1,hc2⟩:=hl.form;clear hl hok;by_cases hin:1≤x∧x≤(n:Int)
 ·have HU:=Lib.hid (show upsD l p n x=zds l p x by unfold upsD;rw[if_pos hin]);have hd:decide (1≤x∧x≤(n:Int))=true:=by simpa using hin
  rw[hd]at HIS;clear hd hin;go_enter Tryz.func320,Tryz.ntmps320;go_wp2_with fail;generalize w.alloc _=W at *;generalize w.heap.size=z at *;refine(HIS.out W).mono ?_;rintro _ w1 ⟨rfl,t1⟩;have bF1:=bF.keep t1 id;have T1:=tw.trans t1;have k0:=bF1.at0;have k2:=bF1.at2;have HAB1:=Lib.hid (HAB.out w1 T1);clear HIS bF tw t1 bF1 HAB;go_wp2_with fail;refine HAB1.out.mono ?_;rintro _ w2 ⟨u,xs,y,rfl,hO,hc,hy⟩
  have hxs:upsD l p n x=xs:=by
   rcases hy with rfl|hy
   ·exact HU.out.trans (HCH.out xs hc)
   ·exact absurd hy (HCN.out xs y hc)
  have HXS:=Lib.hid hxs;have HO2:=Lib.hid (hO.base T1);obtain⟨O,co,rfl,_,_⟩:=hO.form;clear hxs hc hy hO HAB1 k0 k2;go_wp2;go_ret;exact⟨_,rfl,by rw[HXS.out];exact HO2.out⟩
 ·have HU:=Lib.hid (show upsD l p n x=[] by unfold upsD;rw[if_neg hin]);have hd:decide (1≤x∧x≤(n:Int))=false:=by simpa using hin
  rw[hd]at HIS;clear hd hin;go_enter Tryz.func320,Tryz.ntmps320;go_wp2_with fail;generalize w.alloc _=W at *;generalize w.heap.size=z at *;refine(HIS.out W).mono ?_;rintro _ w1 ⟨rfl,t1⟩;have T1:=tw.trans t1;clear HIS bF tw t1 HAB;go_wp2;go_ret;exact⟨_,rfl,by rw[HU.out];exact Outs.start _ _ _ T1⟩
theorem zm2 (hl:zae zdr 4 (fun _=>True) w v l) (h400:l.length≤400) (hok:zan l n=true) (hp:p<24) (top x:Int):
 Calls Tryz.prog 289 #[.agg #[v,.int .i64 (n:Int),.int .i64 (p:Int)],.int .i64 top,.int .i64 x] w fun y w'=>y=.returned (.bool (zc3 l p n top x))∧Tf w w':=by
 have tw:=tal w (.cells #[v,.int .i64 (n:Int),.int .i64 (p:Int)] 204);have bF:=Blk.new w 204 #[v,.int .i64 (n:Int),.int .i64 (p:Int)];have HUP:=Lib.hid (fun w' (t:Tf w w')=>zsv (hl.keep t) h400 hok hp x);have HIS:=Lib.hid (fun w' y=>ze8 v (n:Int) (p:Int) y w');have HON:=Lib.hid (zyh (l:=l) (p:=(p:Int)) (n:=n) (top:=top) (x:=x));have HOF:=Lib.hid (zyi (l:=l) (p:=(p:Int)) (n:=n) (top:=top) (x:=x));generalize zc3 l p n top x=r at *;generalize upsD l p n x=ys at *;obtain⟨A,c,rfl,hc1,hc2⟩:=hl.form;clear hl hok
 obtain⟨d1,hd1⟩:∃d,decide (1≤top∧top≤(n:Int))=d:=⟨_,rfl⟩
 have HI1:=Lib.hid (fun w'=>HIS.out w' top);rw[hd1]at HI1
 obtain⟨d2,hd2⟩:∃d,decide (1≤x∧x≤(n:Int))=d:=⟨_,rfl⟩
 have HI2:=Lib.hid (fun w'=>HIS.out w' x);rw[hd2]at HI2;clear HIS;go_enter Tryz.func289,Tryz.ntmps289;go_wp2_with fail;generalize w.alloc _=W at *;generalize w.heap.size=z at *;refine(HI1.out W).mono ?_;rintro _ w1 ⟨rfl,t1⟩;have bF1:=bF.keep t1 id;have T1:=tw.trans t1;obtain⟨f1_0,f1_1,f1_2⟩:=bF1.f3;clear HI1 bF tw t1
 cases d1
 ·obtain rfl:r=false:=HOF.out (fun h=>by simp[h.1]at hd1);clear hd1 hd2 HON HOF HUP HI2 bF1;go_wp2;go_ret;exact⟨rfl,T1⟩
 go_wp2_with fail;refine(HI2.out w1).mono ?_;rintro _ w2 ⟨rfl,t2⟩;have bF2:=bF1.keep t2 id;have T2:=T1.trans t2;clear f1_0 f1_1 f1_2 HI2 bF1 T1 t2;obtain⟨f2_0,f2_1,f2_2⟩:=bF2.f3
 cases d2
 ·obtain rfl:r=false:=HOF.out (fun h=>by simp[h.2]at hd2);clear hd1 hd2 HON HOF HUP bF2;go_wp2;go_ret;exact⟨rfl,T2⟩
 have hr:r=(decide (top=x)||decide (top∈ys)):=HON.out (by simpa using hd1) (by simpa using hd2);clear hd1 hd2 HON HOF;by_cases he:top=x
 ·obtain rfl:r=true:=by rw[hr];simp[he]
  subst he;clear hr HUP bF2;go_wp2;go_ret;exact⟨rfl,T2⟩
 have hr2:r=decide (top∈ys):=by rw[hr];simp[he]
 have he2:(top==x)=false:=by simpa using he
 have HR:=Lib.hid hr2;have HUP2:=Lib.hid (HUP.out w2 T2);clear hr hr2 HUP bF2;go_wp2_with fail;refine HUP2.out.mono ?_;rintro _ w3 ⟨u,rfl,hO⟩;have HH:=Lib.hid (zhk hO.row top);rw[←HR.out]at HH;have T3:=T2.trans hO.tch;obtain⟨O,co,rfl,_,_⟩:=hO.form;clear HUP2 hO f2_0 f2_1 f2_2;go_wp2_with fail;refine HH.out.mono ?_;rintro _ _ ⟨rfl,rfl⟩;clear HH HR;go_wp2;go_ret;exact⟨rfl,T3⟩
theorem zot (hl:zae zdr 4 (fun _=>True) w v l) (h400:l.length≤400) (hok:zan l n=true) (hp:p<24) (h40:n≤40) (x y:Int):
 Calls Tryz.prog 250 #[.agg #[v,.int .i64 (n:Int),.int .i64 (p:Int)],.int .i64 x,.int .i64 y] w fun q w'=>q=.returned (.int .i64 (zq1 l p n x y))∧Tf w w':=by
 have tw:=tal w (.cells #[v,.int .i64 (n:Int),.int .i64 (p:Int)] 204);have bF:=Blk.new w 204 #[v,.int .i64 (n:Int),.int .i64 (p:Int)];have HAB:=Lib.hid (fun w' (t:Tf w w') i j=>zm2 (hl.keep t) h400 hok hp i j);have HME:=Lib.hid (show zq1 l p n x y=(zal n).foldl (zgi l p n x y) 0 from rfl);have HST0:=Lib.hid (fun best i=>show zgi l p n x y best i=if(zc3 l p n i x&&zc3 l p n i y&&(best==0||zc3 l p n best i))=true then i else best from rfl);generalize zq1 l p n x y=res at *;generalize zgi l p n x y=ST at *;generalize zc3 l p n=AB at *;obtain⟨A,c,rfl,hc1,hc2⟩:=hl.form;clear hl hok;have hn40:(n:Int)≤40:=by omega
 go_enter Tryz.func250,Tryz.ntmps250;go_wp2_with fail;generalize w.alloc _=W at *;generalize w.heap.size=z at *;go_loopw [7,8] (fun m i wr=>∃(j:Nat) (best:Int),j≤n∧i=.int .i64 ((j:Int)+1)∧m=.int .i64 best∧(zal j).foldl ST 0=best∧Tf W wr) (fun _ i _=>n+1-(intOf i).toNat)
 case atStart=>exact⟨0,0,Nat.zero_le _,rfl,rfl,rfl,Tch.refl _ _⟩
 case round=>
  obtain⟨j,best,hj,rfl,rfl,hbest,tr⟩:=hrel;have HB:=Lib.hid hbest;clear hbest;have bFr:=bF.keep tr id;have Tr:=tw.trans tr;have hj0:=znn j;obtain⟨fr_0,fr_1,fr_2⟩:=bFr.f3;by_cases hlt:j<n
  ·have hlt':(j:Int)+1≤(n:Int):=by omega
   have HSN:=Lib.hid (show(zal (j+1)).foldl ST 0=ST best ((j:Int)+1) by rw[zdf,List.foldl_append,HB.out];rfl);have HST:=Lib.hid (HST0.out best ((j:Int)+1));have HA1:=Lib.hid (HAB.out wr Tr ((j:Int)+1) x)
   obtain⟨d1,hd1⟩:∃d,AB ((j:Int)+1) x=d:=⟨_,rfl⟩
   rw[hd1]at HA1 HST;clear hd1;go_wp2_with fail;refine HA1.out.mono ?_;rintro _ w1 ⟨rfl,t1⟩;have b1:=bFr.keep t1 id;have T1:=Tr.trans t1;have tr1:=tr.trans t1;clear fr_0 fr_1 fr_2 HA1 t1;obtain⟨f3_0,f3_1,f3_2⟩:=b1.f3
   cases d1
   ·have HN:=Lib.hid (show(zal (j+1)).foldl ST 0=best by rw[HSN.out,HST.out];simp);clear b1 HSN HST;go_wp2;go_roundw
    case rel=>exact⟨j+1,best,by omega,by go_num,rfl,HN.out,tr1⟩
    case measure=>simp[intOf];omega
   have HA2:=Lib.hid (HAB.out w1 T1 ((j:Int)+1) y)
   obtain⟨d2,hd2⟩:∃d,AB ((j:Int)+1) y=d:=⟨_,rfl⟩
   rw[hd2]at HA2 HST;clear hd2;go_wp2_with fail;refine HA2.out.mono ?_;rintro _ w2 ⟨rfl,t2⟩;have b2:=b1.keep t2 id;have T2:=T1.trans t2;have tr2:=tr1.trans t2;clear f3_0 f3_1 f3_2 b1 HA2 t2;obtain⟨f4_0,f4_1,f4_2⟩:=b2.f3
   cases d2
   ·have HN:=Lib.hid (show(zal (j+1)).foldl ST 0=best by rw[HSN.out,HST.out];simp);clear b2 HSN HST;go_wp2;go_roundw
    case rel=>exact⟨j+1,best,by omega,by go_num,rfl,HN.out,tr2⟩
    case measure=>simp[intOf];omega
   by_cases hb0:best=0
   ·subst hb0;have HN:=Lib.hid (show(zal (j+1)).foldl ST 0=(j:Int)+1 by rw[HSN.out,HST.out];simp);clear b2 HSN HST;go_wp2;go_roundw
    case rel=>exact⟨j+1,_,by omega,by go_num,rfl,HN.out,tr2⟩
    case measure=>simp[intOf];omega
   have hb1:(best==0)=false:=by simpa using hb0
   have HA3:=Lib.hid (HAB.out w2 T2 best ((j:Int)+1))
   obtain⟨d3,hd3⟩:∃d,AB best ((j:Int)+1)=d:=⟨_,rfl⟩
   rw[hd3,hb1]at HST;rw[hd3]at HA3;clear hd3;go_wp2_with fail;refine HA3.out.mono ?_;rintro _ w3 ⟨rfl,t3⟩;have tr3:=tr2.trans t3;clear f4_0 f4_1 f4_2 b2 HA3 t3
   cases d3
   ·have HN:=Lib.hid (show(zal (j+1)).foldl ST 0=best by rw[HSN.out,HST.out];simp);clear HSN HST;go_wp2;go_roundw
    case rel=>exact⟨j+1,best,by omega,by go_num,rfl,HN.out,tr3⟩
    case measure=>simp[intOf];omega
   ·have HN:=Lib.hid (show(zal (j+1)).foldl ST 0=(j:Int)+1 by rw[HSN.out,HST.out];simp);clear HSN HST;go_wp2;go_roundw
    case rel=>exact⟨j+1,_,by omega,by go_num,rfl,HN.out,tr3⟩
    case measure=>simp[intOf];omega
  ·obtain rfl:j=n:=by omega
   obtain rfl:res=best:=by rw[HME.out];exact HB.out
   go_wp2;go_ret;exact⟨rfl,Tr⟩
