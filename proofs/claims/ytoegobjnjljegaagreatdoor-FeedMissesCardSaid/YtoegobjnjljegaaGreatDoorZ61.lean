/-
  Forests: those above, those under, where two meet.
-/
import Derived.Test.YtoegobjnjljegaaGreatDoorZ64
import Derived.Test.YtoegobjnjljegaaGreatDoorZ21
set_option maxRecDepth 100000
set_option maxHeartbeats 12800000
namespace Go.Gk.V33
open Go.RowKit
def lenV:Value→Nat
 | .slice _ n _=>n
 |_=>0
end Go.Gk.V33
namespace Go.Proofs.YtoegobjnjljegaaGreatDoor
open Go.RowKit Go.Gk Go.Gk.V33
section
variable {w:World} {g n:Nat} {l:List zbv} {p:Nat}
theorem zx0 (h:Blk w g 176 (zah l n p n).toArray) (h40:n≤40) (hok:zan l n=true) (h400:l.length≤400) (hp:p<24) {x:Int} (hx:1≤x∧x≤n):
 Calls Tryz.prog 159 #[.pointer (some ⟨g,0,none⟩),.int .i64 x] w fun e w'=>∃u,e=.returned u∧zet w w' u (zds l p x):=by
 have HP:=Lib.hid (fun w' (t:Tf w w') i (hi:1≤i∧i≤(n:Int))=>by have:=zl5 (h.keep t id) h40 i;rw[if_pos hi]at this;exact this);have HC:=Lib.hid (fun(out:List Int) (y:Int) (hc:Chain (fun y=>zam l y p) x out y)=>zl2 hp hok hc);have HR:=Lib.hid (fun y (hy:zam l y p≠0)=>zti hok hy);have HP0:=Lib.hid (HP.out w (Tch.refl _ _) x hx);have HST:=Lib.hid (Chain.start (f:=fun y=>zam l y p) (e:=x));generalize hy0:zam l x p=y0 at *;have HY0:=Lib.hid hy0;clear h hy0;go_enter Tryz.func159,Tryz.ntmps159;go_wp2_with fail;refine HP0.out.mono ?_;rintro _ _ ⟨rfl,rfl⟩;clear HP0;go_wp2_with fail;go_loopw [5,6] (fun o i wr=>∃(xs:List Int) (y:Int),i=.int .i64 y∧Chain (fun y=>zam l y p) x xs y∧zet w wr o xs) (fun o _ _=>1000-lenV o)
 case atStart=>exact⟨[],y0,rfl,HST.out,Outs.start _ _ _ (Tch.refl _ _)⟩
 case round=>
  obtain⟨xs,y,rfl,hc,hO⟩:=hrel;obtain⟨O,co,rfl,ho1,ho2⟩:=hO.form;have hxl:xs.length≤400:=Nat.le_trans (zf0 hc) h400;have HCH:=Lib.hid hc;by_cases hy:y=0
  ·subst hy;have HU:=Lib.hid (zl3 hc);clear hc;go_wp2;go_ret;exact⟨_,rfl,by rw[HU.out];exact hO⟩
  ·have hyb:(y !=0)=true:=by simpa using hy
   have HN:=Lib.hid (Chain.step hc hy (HC.out xs y hc))
   have HYR:=Lib.hid (show 1≤y∧y≤(n:Int) by
    obtain⟨z,hz⟩:=hc.image.1;rw[hz]at hy⊢
    exact HR.out z hy)
   clear hc hy;go_wp2_with ((at_builtin;refine apd zaj (hO.own.alloc _) (Go.Gk.Src.one (news:=[.int .i64 (y)]) rfl (fun m9 u9 hu9=>by rw[(Blk.new (wr) 3 #[.int .i64 (y)]).cell m9];simpa using hu9)) (by simp;rfl) ?_;intro v2 w2 ho2 hg2 hl2;have hO2:=hO.step (x:=y) (Tch.alloc _ _ _) ho2 hg2 hl2;obtain⟨O2,co2,rfl,_,_⟩:=zac ho2));have HPY:=Lib.hid (HP.out _ hO2.tch y HYR.out);generalize zam l y p=y2 at *;refine HPY.out.mono ?_;rintro _ _ ⟨rfl,rfl⟩;clear HPY;go_wp2;go_roundw
   case rel=>exact⟨xs++[y],y2,rfl,HN.out,hO2⟩
   case measure=>simp[lenV]<;>omega
theorem znq (h:Blk w g 176 (zah l n p n).toArray) (h40:n≤40) (hok:zan l n=true) (h400:l.length≤400) (hp:p<24) {x:Int} (hx:1≤x∧x≤n) (top:Int):
 Calls Tryz.prog 74 #[.pointer (some ⟨g,0,none⟩),.int .i64 top,.int .i64 x] w fun e w'=>e=.returned (.bool (zbm l p top x))∧Tf w w':=by
 have HU:=Lib.hid (zx0 h h40 hok h400 hp hx);have HL:=Lib.hid (zxj l p x);have HD:=Lib.hid (show zbm l p top x=(top==x||(zds l p x).contains top)from rfl);generalize zbm l p top x=R at *;generalize zds l p x=U at *;clear h;by_cases he:top=x
 ·have hb:(top==x)=true:=by simpa using he
  obtain rfl:R=true:=by rw[HD.out,hb];rfl
  clear HU HD he;go_enter Tryz.func74,Tryz.ntmps74;go_wp2;go_ret;exact⟨rfl,Tch.refl _ _⟩
 ·have hb:(top==x)=false:=by simpa using he
  have HD2:=Lib.hid (show R=U.contains top by rw[HD.out,hb];rfl);clear HD he;go_enter Tryz.func74,Tryz.ntmps74;go_wp2_with fail;refine HU.out.mono ?_;rintro _ w1 ⟨u,rfl,hO⟩;have HC:=Lib.hid (zgy hO.row (by have:=HL.out;omega) top);rw[←HD2.out]at HC;obtain⟨O,co,rfl,_,_⟩:=hO.form;have HT:=Lib.hid hO.tch;clear HU hO;go_wp2_with fail;refine HC.out.mono ?_;rintro _ w2 ⟨rfl,t2⟩;go_wp2;go_ret;exact⟨rfl,HT.out.trans t2⟩
theorem zse (h:Blk w g 176 (zah l n p n).toArray) (h40:n≤40) (hok:zan l n=true) (h400:l.length≤400) (hp:p<24) {z1 z2:Nat} {top:Int} (h1:w.cell? ⟨z1,0,none⟩=some (.pointer (some ⟨g,0,none⟩))) (h2:w.cell? ⟨z2,0,none⟩=some (.int .i64 top)) (i:Int) (hi:1≤i∧i≤n):
 Calls Tryz.prog 73 #[.int .i64 i,.pointer (some ⟨z1,0,none⟩),.pointer (some ⟨z2,0,none⟩)] w fun e w'=>e=.returned (.bool (zbm l p top i))∧Tf w w':=by
 have HU:=Lib.hid (znq h h40 hok h400 hp hi top);generalize zbm l p top i=R at *;clear h;go_enter Tryz.func73,Tryz.ntmps73;go_wp2_with fail;refine HU.out.mono ?_;rintro _ w1 ⟨rfl,t1⟩;go_wp2;go_ret;exact⟨rfl,t1⟩
theorem zvf (h:Blk w g 176 (zah l n p n).toArray) (h40:n≤40) (hok:zan l n=true) (h400:l.length≤400) (hp:p<24) {z1 z2:Nat} {b:Int} (h1:w.cell? ⟨z1,0,none⟩=some (.pointer (some ⟨g,0,none⟩))) (h2:w.cell? ⟨z2,0,none⟩=some (.int .i64 b)) (hb:1≤b∧b≤n) (t:Int):
 Calls Tryz.prog 245 #[.int .i64 t,.pointer (some ⟨z1,0,none⟩),.pointer (some ⟨z2,0,none⟩)] w fun e w'=>e=.returned (.bool (zbm l p t b))∧Tf w w':=by
 have HU:=Lib.hid (znq h h40 hok h400 hp hb t);generalize zbm l p t b=R at *;clear h;go_enter Tryz.func245,Tryz.ntmps245;go_wp2_with fail;refine HU.out.mono ?_;rintro _ w1 ⟨rfl,t1⟩;go_wp2;go_ret;exact⟨rfl,t1⟩
theorem zsf (h:Blk w g 176 (zah l n p n).toArray) {z1 z2:Nat} {F:Int→Bool} (HK0:∀w':World,Tf w w'→∀i:Int,1≤i∧i≤(n:Int)→Calls Tryz.prog 73 #[.int .i64 i,.pointer (some ⟨z1,0,none⟩),.pointer (some ⟨z2,0,none⟩)] w' fun e w''=>e=.returned (.bool (F i))∧Tf w' w'') (h40:n≤40):
 Calls Tryz.prog 72 #[.pointer (some ⟨g,0,none⟩),.func (.func 73) #[] #[.pointer (some ⟨z1,0,none⟩),.pointer (some ⟨z2,0,none⟩)]] w fun e w'=>∃u,e=.returned u∧zet w w' u ((zal n).filter F):=by
 have HI:=Lib.hid (fun w' (t:Tf w w') i=>zg5 (h.keep t id) i);have HK:=Lib.hid HK0;clear HK0 h;go_enter Tryz.func72,Tryz.ntmps72;go_wp2_with fail;go_loopw [5,6] (fun out i wr=>∃(j:Nat) (xs:List Int),j≤n∧i=.int .i64 ((j:Int)+1)∧(zal j).filter F=xs∧zet w wr out xs) (fun _ i _=>n+1-(intOf i).toNat)
 case atStart=>exact⟨0,[],Nat.zero_le _,rfl,rfl,Outs.start _ _ _ (Tch.refl _ _)⟩
 case round=>
  obtain⟨j,xs,hj,rfl,hx,hO⟩:=hrel;obtain⟨O,co,rfl,ho1,ho2⟩:=hO.form
  have hxl:xs.length≤j:=by
   rw[←hx];exact Nat.le_trans (List.length_filter_le _ _) (by rw[za5];omega)
  have HX:=Lib.hid hx;have hj0:=znn j;clear hx;by_cases hlt:j<n
  ·have hlt':(j:Int)<(n:Int):=by omega
   have HI1:=Lib.hid (HI.out wr hO.tch ((j:Int)+1));rw[decide_eq_true (show 1≤(j:Int)+1∧(j:Int)+1≤n by omega)]at HI1;have HK1:=Lib.hid (HK.out wr hO.tch ((j:Int)+1) (by omega));have HS:=Lib.hid (show(zal (j+1)).filter F=xs++(if F ((j:Int)+1)then[(j:Int)+1]else[]) by rw[zdf,zdg,HX.out]);generalize F ((j:Int)+1)=f at *;go_wp2_with fail;refine HI1.out.mono ?_;rintro _ _ ⟨rfl,rfl⟩;clear HI1;go_wp2_with fail;refine HK1.out.mono ?_;rintro _ w1 ⟨rfl,t1⟩;clear HK1;have hO:=hO.keep t1
   cases f
   ·have HS:=Lib.hid (show(zal (j+1)).filter F=xs by rw[HS.out];simp);go_wp2;go_roundw
    case rel=>exact⟨j+1,xs,by omega,by go_num,HS.out,hO⟩
    case measure=>simp[intOf];omega
   ·go_wp2_with ((at_builtin;refine apd zaj (hO.own.alloc _) (Go.Gk.Src.one (news:=[.int .i64 ((j:Int)+1)]) rfl (fun m9 u9 hu9=>by rw[(Blk.new (w1) 3 #[.int .i64 ((j:Int)+1)]).cell m9];simpa using hu9)) (by simp;rfl) ?_;intro v2 w2 ho2 hg2 hl2;have hO2:=hO.step (x:=(j:Int)+1) (Tch.alloc _ _ _) ho2 hg2 hl2;obtain⟨O2,co2,rfl,_,_⟩:=zac ho2));go_roundw
    case rel=>exact⟨j+1,_,by omega,by go_num,HS.out,hO2⟩
    case measure=>simp[intOf];omega
  ·obtain rfl:n=j:=by omega
   have HI1:=Lib.hid (HI.out wr hO.tch ((n:Int)+1));rw[decide_eq_false (show¬(1≤(n:Int)+1∧(n:Int)+1≤n) by omega)]at HI1;have e:=HX.out;subst e;go_wp2_with fail;refine HI1.out.mono ?_;rintro _ _ ⟨rfl,rfl⟩;go_wp2;go_ret;exact⟨_,rfl,hO⟩
theorem zvg (h:Blk w g 176 (zah l n p n).toArray) (h40:n≤40) (hok:zan l n=true) (h400:l.length≤400) (hp:p<24) {x:Int} (hx:1≤x∧x≤n):
 Calls Tryz.prog 22 #[.pointer (some ⟨g,0,none⟩),.int .i64 x] w fun e w'=>∃u,e=.returned u∧zet w w' u ((zal n).filter (zbm l p x)):=by
 have ta:=tal w (.cells #[.pointer (some ⟨g,0,none⟩)] 56);have tb:=tal (w.alloc (.cells #[.pointer (some ⟨g,0,none⟩)] 56)) (.cells #[.int .i64 x] 3);have tw:=ta.trans tb;have bF:=(Blk.new w 56 #[.pointer (some ⟨g,0,none⟩)]).keep tb id;have bX:=Blk.new2 w (.cells #[.pointer (some ⟨g,0,none⟩)] 56) 3 #[.int .i64 x];have h2:=h.keep tw id;have HI:=Lib.hid (zg5 h2 x);rw[decide_eq_true hx]at HI;have HT:=Lib.hid (zsf (F:=zbm l p x) h2 (fun w' t i hi=>zse (h2.keep t id) h40 hok h400 hp (t.cell_some (bF.cell 0) id) (t.cell_some (bX.cell 0) id) i hi) h40);have HTW:=Lib.hid tw;clear ta tb tw h h2 bF bX;go_enter Tryz.func22,Tryz.ntmps22;go_wp2_with fail;refine HI.out.mono ?_;rintro _ _ ⟨rfl,rfl⟩;go_wp2_with fail;refine HT.out.mono ?_;rintro _ w4 ⟨u,rfl,hO⟩;obtain⟨O,co,rfl,_,_⟩:=hO.form;go_wp2;go_ret;exact⟨_,rfl,hO.base HTW.out⟩
theorem zqi {v:Value} {xs:List Int} (hv:zae zby 1 (fun _=>True) w v xs) (hl:xs.length≤100000) {z1 z2:Nat} {F:Int→Bool} (HK0:∀w':World,Tf w w'→∀i:Int,Calls Tryz.prog 245 #[.int .i64 i,.pointer (some ⟨z1,0,none⟩),.pointer (some ⟨z2,0,none⟩)] w' fun e w''=>e=.returned (.bool (F i))∧Tf w' w''):
 Calls Tryz.prog 197 #[v,.func (.func 245) #[] #[.pointer (some ⟨z1,0,none⟩),.pointer (some ⟨z2,0,none⟩)]] w fun e w'=>((xs.find? F=none∧e=.returned (.int .i64 (-1)))∨∃j:Nat,∃hj:j<xs.length,xs.find? F=some xs[j]∧e=.returned (.int .i64 (j:Int)))∧Tf w w':=by
 have HK:=Lib.hid HK0;have HV:=Lib.hid (fun w' (t:Tf w w')=>hv.keep t);obtain⟨A,c,rfl,hc1,hc2⟩:=hv.form;clear HK0 hv;go_enter Tryz.func197,Tryz.ntmps197;go_wp2_with fail;go_loopw [8] (fun i wr=>∃j:Nat,j≤xs.length∧i=.int .i64 (j:Int)∧(∀i (hi:i<xs.length),i<j→F xs[i]=false)∧Tf w wr) (fun i _=>xs.length-(intOf i).toNat)
 case atStart=>exact⟨0,Nat.zero_le _,rfl,fun i hi h=>by omega,Tch.refl _ _⟩
 case round=>
  obtain⟨j,hj,rfl,hn,ht⟩:=hrel;have HN:=Lib.hid hn;have hj0:=znn j;clear hn;by_cases hlt:j<xs.length
  ·have hlt':(j:Int)<(xs.length:Int):=by omega
   have hl9:=HV.out wr ht;obtain⟨g,o,rfl⟩:=hl9.head (by omega);have q0:=Row.one hl9 zap hlt rfl;have HK1:=Lib.hid (HK.out wr ht xs[j]);have HF1:=Lib.hid (fun h1:F xs[j]=true=>find_at hlt h1 HN.out)
   have HF0:=Lib.hid (show F xs[j]=false→∀i (hi:i<xs.length),i<j+1→F xs[i]=false from fun h0 i hi h=>by
    by_cases e:i=j
    ·subst e;exact h0
    ·exact HN.out i hi (by omega))
   generalize hxj:xs[j]=x at *;generalize F x=f at *;have HXJ:=Lib.hid hxj;clear hl9 hxj;go_wp2_with fail;refine HK1.out.mono ?_;rintro _ w1 ⟨rfl,t1⟩
   cases f
   ·clear HK1 q0 HF1;go_wp2;go_roundw
    case rel=>exact⟨j+1,by omega,by go_num,HF0.out (by simp),ht.trans t1⟩
    case measure=>simp[intOf]<;>omega
   ·clear HK1 q0 HF0;go_wp2;(try rw[Exit.noGoto_ret]);go_ret;exact⟨.inr ⟨j,hlt,by rw[HF1.out (by simp),HXJ.out],rfl⟩,ht.trans t1⟩
  ·obtain rfl:j=xs.length:=by omega
   have hlt':¬(xs.length:Int)<(xs.length:Int):=by omega
   have HNO:=Lib.hid (find_no (F:=F) (xs:=xs) fun i hi=>HN.out i hi hi);go_wp2;go_ret;exact⟨.inl ⟨by simpa using HNO.out,rfl⟩,ht⟩
end
open Go.RowKit Go.Gk Go.Gk.V33
section
variable {w:World} {g n:Nat} {l:List zbv} {p:Nat}
theorem own_int1 {w:World} {y:Nat} {a:Int} (h:Blk w y 3 #[.int .i64 a]):w.ownsRow 0 3 1 (.slice (some ⟨y,0,none⟩) 1 1) 1 [.int .i64 a]:=
 ⟨rfl,.inr ⟨y,1,#[.int .i64 a],rfl,Nat.zero_le _,h,Nat.le_refl _,by decide,rfl,rfl⟩⟩
theorem zx1 (h:Blk w g 176 (zah l n p n).toArray) (h40:n≤40) (hok:zan l n=true) (h400:l.length≤400) (hp:p<24) (a b:Int):
 Calls Tryz.prog 179 #[.pointer (some ⟨g,0,none⟩),.int .i64 a,.int .i64 b] w fun e w'=>e=.returned (.int .i64 (if(1≤a∧a≤n)∧(1≤b∧b≤n)then ze5 l p a b else 0))∧Tf w w':=by
 have ta:=tal w (.cells #[.pointer (some ⟨g,0,none⟩)] 56);have tb:=tal (w.alloc (.cells #[.pointer (some ⟨g,0,none⟩)] 56)) (.cells #[.int .i64 b] 3);have tw:=ta.trans tb;have bF:=(Blk.new w 56 #[.pointer (some ⟨g,0,none⟩)]).keep tb id;have bB:=Blk.new2 w (.cells #[.pointer (some ⟨g,0,none⟩)] 56) 3 #[.int .i64 b];have h2:=h.keep tw id;have HIA:=Lib.hid (zg5 h2 a);have HIB:=Lib.hid (zg5 h2 b);clear ta tb h
 obtain⟨R,hR⟩:∃R,(if(1≤a∧a≤(n:Int))∧(1≤b∧b≤(n:Int))then ze5 l p a b else 0)=R:=⟨_,rfl⟩
 rw[hR];have HR:=Lib.hid hR;clear hR;by_cases ha:1≤a∧a≤(n:Int)
 rotate_left
 ·obtain rfl:R=0:=by rw[←HR.out,if_neg (fun h=>ha h.1)]
  rw[decide_eq_false ha]at HIA;have HTW:=Lib.hid tw;clear HIB HR ha bF bB h2 tw;go_enter Tryz.func179,Tryz.ntmps179;go_wp2_with fail;refine HIA.out.mono ?_;rintro _ _ ⟨rfl,rfl⟩;go_wp2;go_ret;exact⟨rfl,HTW.out⟩
 by_cases hb:1≤b∧b≤(n:Int)
 rotate_left
 ·obtain rfl:R=0:=by rw[←HR.out,if_neg (fun h=>hb h.2)]
  rw[decide_eq_true ha]at HIA;rw[decide_eq_false hb]at HIB;have HTW:=Lib.hid tw;clear HR ha hb h2 tw;go_enter Tryz.func179,Tryz.ntmps179;go_wp2_with fail;refine HIA.out.mono ?_;rintro _ _ ⟨rfl,rfl⟩;go_wp2_with fail;refine HIB.out.mono ?_;rintro _ _ ⟨rfl,rfl⟩;go_wp2;go_ret;exact⟨rfl,HTW.out⟩
 rw[decide_eq_true ha]at HIA;rw[decide_eq_true hb]at HIB;have HR2:=Lib.hid (show((a::zds l p a).find? fun t=>zbm l p t b).getD 0=R by rw[←HR.out,if_pos ⟨ha,hb⟩];rfl);have HUP:=Lib.hid (fun w' (t:Tf _ w')=>zx0 (h2.keep t id) h40 hok h400 hp ha);have HMC:=Lib.hid (fun w' (t:Tf _ w') i=>zvf (h2.keep t id) h40 hok h400 hp (t.cell_some (bF.cell 0) id) (t.cell_some (bB.cell 0) id) hb i);have HL:=Lib.hid (zxj l p a);clear HR ha hb h2;go_enter Tryz.func179,Tryz.ntmps179;go_wp2_with fail;refine HIA.out.mono ?_;rintro _ _ ⟨rfl,rfl⟩;go_wp2_with fail;refine HIB.out.mono ?_;rintro _ _ ⟨rfl,rfl⟩;clear HIA HIB;have tY:=tal ((w.alloc (.cells #[.pointer (some ⟨g,0,none⟩)] 56)).alloc (.cells #[.int .i64 b] 3)) (.cells #[.int .i64 a] 3);have bY:Blk (((w.alloc (.cells #[.pointer (some ⟨g,0,none⟩)] 56)).alloc (.cells #[.int .i64 b] 3)).alloc (.cells #[.int .i64 a] 3)) (w.heap.size+1+1) 3 #[.int .i64 a]:=by simpa using Blk.new ((w.alloc (.cells #[.pointer (some ⟨g,0,none⟩)] 56)).alloc (.cells #[.int .i64 b] 3)) 3 #[.int .i64 a]
 have bF2:=bF.keep tY id;have f0:=bF2.at0;have HTY:=Lib.hid tY;have HTW:=Lib.hid tw;have HUP1:=Lib.hid (HUP.out _ tY);clear bF bB tw tY;go_wp2_with fail;refine HUP1.out.mono ?_;rintro _ w1 ⟨u,rfl,hO⟩;have bY1:=bY.keep hO.tch id;have hrow:=hO.row;have T1:=(HTW.out.trans HTY.out).trans hO.tch;have t01:=HTY.out.trans hO.tch;obtain⟨O,co,rfl,ho1,ho2⟩:=hO.form;generalize zds l p a=U at *;have hul:U.length≤401:=by have:=HL.out;omega
 have hown:=own_int1 bY1;clear HUP HUP1 f0 bF2 bY bY1 hO;go_wp2_with (at_builtin;refine Hid.out ?_);refine Lib.hid ?_;refine apd zaj hown hrow.src (by intro u9 hu9;obtain⟨x9,_,hx9⟩:=List.mem_flatMap.1 hu9;simp[zby]at hx9;subst hx9;rfl) ?_;intro v2 w2 ho3 hg2 hl2
 have hrow2:zae zby 1 (fun _=>True) w2 v2 (a::U):=by
  have h:=Row.own (P:=fun _=>True) ho3 (fun _ _=>trivial);have e9:1+U.length=(a::U).length:=by simp[Nat.add_comm]
  unfold zae;rw[←e9];simpa[zby]using h
 have tg:=Tch.grown (F:=fun g=>w.heap.size+1+1≤g) hg2 (fun k hk=>.inl (by have hk:some (w.heap.size+1+1)=some k:=hk;injection hk with hk;omega));have T2:=T1.trans' tg (fun i hi=>.inr (by have hi:w.heap.size+1+1≤i:=hi;omega));have t02:=t01.trans' tg (fun i hi=>.inr (by have hi:w.heap.size+1+1≤i:=hi;simp;omega));have HIX:=Lib.hid (zqi (F:=fun t=>zbm l p t b) hrow2 (by simp;omega) (fun w' t9 i=>HMC.out w' (t02.trans t9) i));have HR3:=Lib.hid (fun w' (t9:Tf w2 w')=>hrow2.keep t9);have hwl:(a::U).length≤402:=by simp;omega
 obtain⟨V,cv,rfl,hv1,hv2⟩:=hrow2.form;generalize hway:a::U=way at *;clear hg2 hl2 ho3 hrow hown T1 t01 t02 tg hrow2 hway HMC;go_wp2_with fail;refine HIX.out.mono ?_;rintro _ w3 ⟨hix,t3⟩;have T3:=T2.trans t3
 rcases hix with⟨hno,rfl⟩|⟨j,hj,hfi,rfl⟩
 ·obtain rfl:R=0:=by rw[←HR2.out,hno];rfl
  clear HIX HR2 hno;go_wp2;go_ret;exact⟨rfl,T3⟩
 ·have hr:=HR3.out w3 t3;obtain⟨g9,o9,rfl⟩:=hr.head (by omega);have q0:=Row.one hr zap hj rfl;have hrj:R=way[j]:=by rw[←HR2.out,hfi];rfl
  have hj':(j:Int)<(way.length:Int):=by omega
  have hj0:=znn j;have hj1:¬(j:Int)<0:=by omega
  generalize way[j]=x at *;have HRX:=Lib.hid hrj;clear HIX HR2 hfi hr HR3 hrj;go_wp2;go_ret;exact⟨by rw[HRX.out];rfl,T3⟩
end
end Go.Proofs.YtoegobjnjljegaaGreatDoor
namespace Go.Gk.V33
def f2 (q:Int×Int):List Value:=[.int .i64 q.1,.int .i64 q.2]
theorem z6p:∀q,(f2 q).length=2:=fun _=>rfl
theorem z7a (q:Int×Int):∀u∈f2 q,u.oneCell'=true:=fun u hu=>by
 simp[f2]at hu;rcases hu with rfl|rfl<;>rfl
end Go.Gk.V33
namespace Go.Proofs.YtoegobjnjljegaaGreatDoor
open Go.RowKit Go.Gk Go.Gk.V33
theorem rowP2:RowTy Tryz.prog 108 110 (.agg #[.int .i64 0,.int .i64 0]) 2 16:=⟨Tryz.underlying108,by kernel_rfl,rfl,by decide⟩
theorem zx2 {w:World} {g n:Nat} {l:List zbv} {p:Nat} (h:Blk w g 176 (zah l n p n).toArray) (h40:n≤40) (hok:zan l n=true) (h400:l.length≤400) (hp:p<24) {z1 z2:Nat} {node:Int} (h1:w.cell? ⟨z1,0,none⟩=some (.pointer (some ⟨g,0,none⟩))) (h2:w.cell? ⟨z2,0,none⟩=some (.int .i64 node)) (a b:Int) (ha:1≤a∧a≤n) (hb:1≤b∧b≤n):
 Calls Tryz.prog 178 #[.int .i64 a,.int .i64 b,.pointer (some ⟨z1,0,none⟩),.pointer (some ⟨z2,0,none⟩)] w fun e w'=>e=.returned (.bool (ze5 l p a b==node))∧Tf w w':=by
 have HM:=Lib.hid (fun w' (t:Tf w w')=>zx1 (h.keep t id) h40 hok h400 hp a b);simp only[if_pos (show(1≤a∧a≤(n:Int))∧(1≤b∧b≤(n:Int))from⟨ha,hb⟩)]at HM;generalize ze5 l p a b=m at *;have y1:=wc0 h1;have y2:=wc0 h2;clear h h1 h2 ha hb;go_enter Tryz.func178,Tryz.ntmps178;go_wp2_with fail;refine zai (fun _=>False) [] 5 [(3,.inl (.int .i64 m))] [] ?_ ?_
 ·exact trivial
 intro bef _;iterate 3 (refine zbt ?_;(try simp only[zaw]))
 refine zb3 (.int .i64 m) (by rfl) (by rfl) (fun w2 hr hf=>?_) ?_
 ·refine zaa (d:=10) rfl (by simp) (fun K hK=>?_);go_step;refine(HM.out w2 ((Tch.drew _ w).trans hr)).mono ?_;rintro _ w3 ⟨rfl,t3⟩;exact hK _ _ ⟨⟨rfl,t3⟩,zaf⟩
 simp only[zaw];(refine zbt ?_;(try simp only[zaw]));refine za6 ?_;intro w2 hr hp1 hap;have t2:=(Tch.drew (fun _=>False) w).trans hr;clear hap hp1 hr y1 y2 HM;go_wp2;go_ret;exact⟨rfl,t2⟩
section
variable {w:World} {bv bi B t mr mp:Nat} {e a s r l n lv:Value} {fs:List Value} {b:Bks} {us:List (Ent×Value)}
theorem zx3 (h:Vw w bv bi B t mr mp e a s r l n lv fs b us) (hpo:(zay b.entries).length≤10000) (hok:zba b=true) {p:Nat} (hp:p<24) (node acc:Int) (hnode:1≤node∧node≤b.ents.length):
 Calls Tryz.prog 106 #[.pointer (some ⟨bv,0,none⟩),.int .i64 node,.int .i64 acc,.int .i64 (p:Int)] w fun x w'=>∃u:Value,x=.returned u∧Outs f2 2 110 w w' u (zeb b node acc p):=by
 obtain⟨g,hg,hbg⟩:=h.forests p hp;obtain⟨h40,h400,hst⟩:=zec hok;have ta:=tal w (.cells #[.int .i64 node] 3);have tb:=tal (w.alloc (.cells #[.int .i64 node] 3)) (.cells #[.pointer (some ⟨g,0,none⟩)] 56);have tw:=ta.trans tb;have bN:=(Blk.new w 3 #[.int .i64 node]).keep tb id;have bF:=Blk.new2 w (.cells #[.int .i64 node] 3) 56 #[.pointer (some ⟨g,0,none⟩)];have HFO:=Lib.hid (zid (h.keep ta) hp hg);have HUN:=Lib.hid (zvg (hbg.keep tw id) h40 hst h400 hp hnode);have HPM:=Lib.hid (fun w' (t9:Tf _ w') x y hx hy=>zx2 ((hbg.keep tw id).keep t9 id) h40 hst h400 hp (t9.cell_some (bF.cell 0) id) (t9.cell_some (bN.cell 0) id) x y hx hy);have HPA:=Lib.hid (fun w' (t9:Tf w w') ent=>zxr (h.keep t9) hpo ent acc (p:Int));have HPF:=Lib.hid (fun ent (zs:List Int) hn hm=>pts_are (e:=ent) (a:=acc) (p:=(p:Int)) (zs:=zs) hok hn hm);have HPL:=Lib.hid (fun ent=>show(zic b ent acc p).length≤40 from Nat.le_trans (zxf b ent acc p) h40);have HPI:=Lib.hid (fun ent q (hq:q∈zic b ent acc p)=>pts_in hq);have HPD:=Lib.hid (zr1 (b:=b) (a:=acc) (p:=(p:Int)) hnode.1);have HAT:=Lib.hid (fun x=>show zdz b node acc p x=((zic b x acc p).filter fun y=>ze5 b.stakes p x y==node).map fun y=>(x,y)from rfl)
 obtain⟨PA,hPA⟩:∃PA:Int→List (Int×Int),zdz b node acc p=PA:=⟨_,rfl⟩
 obtain⟨PT,hPT⟩:∃PT:Int→List Int,(fun x=>zic b x acc p)=PT:=⟨_,rfl⟩
 have HPT:∀x,zic b x acc p=PT x:=fun x=>by rw[←hPT]
 simp only[HPT]at HPF HPL HPI HAT;rw[hPA]at HPD HAT;generalize zeb b node acc p=PD at *;generalize zbm b.stakes (p:Int) node=UN at *;generalize hMF:(fun x q=>ze5 b.stakes (p:Int) x q)=MF at *;have HMF:∀x q,ze5 b.stakes (p:Int) x q=MF x q:=fun x q=>by rw[←hMF]
 simp only[HMF]at HPM HAT;have hsz:((w.alloc (.cells #[.int .i64 node] 3)).alloc (.cells #[.pointer (some ⟨g,0,none⟩)] 56)).heap.size=w.heap.size+2:=by simp
 have f0:=bF.at0;have f1:=bN.at0;have HTW:=Lib.hid tw;clear ta tb h hbg hMF HMF bN bF tw hPA hPT HPT;go_enter Tryz.func106,Tryz.ntmps106;go_wp2_with fail;refine HFO.out.mono ?_;rintro _ _ ⟨rfl,rfl⟩;clear HFO;go_wp2_with fail;refine HUN.out.mono ?_;rintro _ w1 ⟨u,rfl,hU⟩;have HR:=Lib.hid (fun w' (t9:Tf w1 w')=>hU.row.keep t9);have T1:=HTW.out.trans hU.tch;have t1:=hU.tch;obtain⟨O,co,rfl,ho1,ho2⟩:=hU.form;have HEI:=Lib.hid (show∀x∈(zal b.ents.length).filter UN,(1≤x∧x≤(b.ents.length:Int))∧UN x=true from fun x hx=>⟨zgc.1 (List.mem_filter.1 hx).1,(List.mem_filter.1 hx).2⟩);have hel:((zal b.ents.length).filter UN).length≤40:=Nat.le_trans (List.length_filter_le _ _) (by rw[za5];exact h40);generalize(zal b.ents.length).filter UN=L at *;clear HUN f0 f1 hU;go_wp2_with fail;go_loopw [11,26] (fun o i wr=>∃(j:Nat) (xs:List (Int×Int)),j≤L.length∧i=.int .i64 (j:Int)∧xs.length≤40*j∧(L.take j).flatMap PA=xs∧Outs f2 2 110 w1 wr o xs) (fun _ i _=>L.length-(intOf i).toNat)
 case atStart=>exact⟨0,[],Nat.zero_le _,rfl,Nat.le_refl _,rfl,Outs.start _ _ _ (Tch.refl _ _)⟩
 case round=>
  obtain⟨j,xs,hj,rfl,hxl,hlo,hO⟩:=hrel
  obtain⟨wj,hwj⟩:∃x,x=wr:=⟨_,rfl⟩
  subst hwj;obtain⟨Q,cq,rfl,hq1,hq2⟩:=hO.form;have HLOX:=Lib.hid hlo;have hj0:=znn j;clear hlo;by_cases hlt:j<L.length
  ·have hlt':(j:Int)<(L.length:Int):=by omega
   have hl9:=HR.out wj hO.tch;obtain⟨g9,o9,rfl⟩:=hl9.head (by omega);have q0:=Row.one hl9 zap hlt rfl;have HEX:=Lib.hid (HEI.out L[j] (List.getElem_mem hlt));have HNX:=Lib.hid (show(L.take (j+1)).flatMap PA=xs++PA L[j] by rw[List.take_succ_eq_append_getElem hlt,List.flatMap_append,HLOX.out];simp);generalize L[j]=x at *;have HPT:=Lib.hid (HPA.out wj (T1.trans hO.tch) x);clear hl9;go_wp2_with fail;refine HPT.out.mono ?_;rintro _ w2 ⟨u2,zs,rfl,hzr,hzn,hzm,_,t2⟩;obtain rfl:=HPF.out x zs hzn hzm;have hzl:=HPL.out x;have HZQ:=Lib.hid (HPI.out x);have HAX:=Lib.hid (HAT.out x);generalize PT x=zs at *;have HZR:=Lib.hid (fun w' (t9:Tch (fun g=>g<wj.heap.size) w2 w')=>Row.keepTo (P':=fun _=>True) hzr t9 (fun g _ hg=>⟨by omega,trivial⟩));obtain⟨Z,cz,rfl,hz1,hz2⟩:=hzr.form;have hO2:=hO.keep t2;have HOB0:=Lib.hid (fun g (hg:(Value.slice Q xs.length cq).ownBlock=some g)=>(hO.own.lt g hg).2);have hsz2:=t2.size;have hzl40:zs.length≤40:=hzl;clear HPT q0 hzr hzn hzm hO t2;go_wp2_with fail;go_loopw [11,36] (fun o i wr=>∃(k:Nat) (ys:List (Int×Int)),k≤zs.length∧i=.int .i64 (k:Int)∧ys.length≤40*j+k∧xs++((zs.take k).filter fun y=>MF x y==node).map (fun y=>(x,y))=ys∧Outs f2 2 110 w1 wr o ys∧(∀g,o.ownBlock=some g→g<wj.heap.size∨w2.heap.size≤g)∧Tch (fun g=>g<wj.heap.size) w2 wr) (fun _ i _=>zs.length-(intOf i).toNat)
   case atStart=>exact⟨0,xs,Nat.zero_le _,rfl,hxl,by simp,hO2,(fun g hg=>.inl (HOB0.out g hg)),Tch.refl _ _⟩
   case round=>
    obtain⟨k,ys,hk,rfl,hyl,hylo,hOy,hob,hty⟩:=hrel
    obtain⟨wk,hwk⟩:∃x,x=wr:=⟨_,rfl⟩
    subst hwk;obtain⟨Qy,cqy,rfl,hqy1,hqy2⟩:=hOy.form;have HYLO:=Lib.hid hylo;have HOB:=Lib.hid hob;have hk0:=znn k;clear hylo hob;by_cases hkt:k<zs.length
    ·have hkt':(k:Int)<(zs.length:Int):=by omega
     have hz9:=HZR.out wk hty;obtain⟨g8,o8,rfl⟩:=hz9.head (by omega);have q0:=Row.one hz9 zap hkt rfl;have HQX:=Lib.hid (HZQ.out zs[k] (List.getElem_mem hkt))
     have HNY:=Lib.hid (show xs++((zs.take (k+1)).filter fun y=>MF x y==node).map (fun y=>(x,y))=ys++(if(MF x zs[k]==node)=true then[(x,zs[k])]else[]) by
      rw[List.take_succ_eq_append_getElem hkt,zdg,List.map_append,←List.append_assoc,HYLO.out];congr 1
      by_cases hh:(MF x zs[k]==node)=true<;>simp[hh])
     generalize zs[k]=q at *;have HPX:=Lib.hid (HPM.out wk (t1.trans hOy.tch) x q HEX.out.1 HQX.out);generalize(MF x q==node)=mb at *;have hyl9:ys.length≤1640:=by omega
     clear hz9;go_wp2_with fail;refine HPX.out.mono ?_;rintro _ w3 ⟨rfl,t3⟩;have hO3:=hOy.keep t3;have hty3:=hty.trans (Exn.touch t3);clear HPX q0 hOy hty t3
     cases mb
     ·have HNZ:=Lib.hid (show xs++((zs.take (k+1)).filter fun y=>MF x y==node).map (fun y=>(x,y))=ys by rw[HNY.out,if_neg (by simp),List.append_nil]);go_wp2;go_roundw
      case rel=>exact⟨k+1,ys,by omega,by go_num,by omega,HNZ.out,hO3,HOB.out,hty3⟩
      case measure=>simp[intOf]<;>omega
     ·have HNZ:=Lib.hid (show xs++((zs.take (k+1)).filter fun y=>MF x y==node).map (fun y=>(x,y))=ys++[(x,q)] by rw[HNY.out,if_pos rfl]);have hs3:=hty3.size;have hO3a:=hO3.keep (tal w3 (.cells #[.int .i64 x,.int .i64 q] 110));have hty4:=hty3.trans (Exn.touch (tal w3 (.cells #[.int .i64 x,.int .i64 q] 110)));have HBE:=Lib.hid (fun m9=>(Blk.new w3 110 #[.int .i64 x,.int .i64 q]).cell m9);clear hO3 hty3;go_wp2_with (at_builtin;refine Hid.out ?_);refine Lib.hid ?_;refine apd rowP2 hO3a.own (Go.Gk.Src.one (news:=f2 (x,q)) rfl (fun m9 u9 hu9=>by rw[HBE.out m9];simpa[f2]using hu9)) (z7a _) ?_;intro v2 w4 ho2 hg2 hl2;have hO4:=hO3a.step (x:=(x,q)) (Tch.refl _ _) ho2 hg2 hl2;have hty5:=hty4.trans' (F':=fun g=>g<wj.heap.size∨w2.heap.size≤g) (Tch.grown hg2 (fun k9 e9=>.inl (HOB.out k9 e9))) (fun i hi=>hi)
      have HOB4:=Lib.hid (show∀g,v2.ownBlock=some g→g<wj.heap.size∨w2.heap.size≤g from fun g hg=>by
       rcases hl2 g hg with h9|h9
       ·exact HOB.out g h9
       ·have:=hty4.size;exact .inr (by omega))
      obtain⟨O2,co2,rfl,_,_⟩:=zac ho2;clear hO3a hty4 ho2 hg2 hl2 HBE;go_wp2;go_roundw
      case rel=>exact⟨k+1,ys++[(x,q)],by omega,by go_num,by simp;omega,HNZ.out,by simpa using hO4,HOB4.out,hty5⟩
      case measure=>simp[intOf]<;>omega
    ·obtain rfl:k=zs.length:=by omega
     have hkt':¬(zs.length:Int)<(zs.length:Int):=by omega
     have HYZ:=Lib.hid (show(L.take (j+1)).flatMap PA=ys by
      rw[HNX.out,HAX.out];have h9:=HYLO.out;rw[List.take_length]at h9
      exact h9)
     clear hkt;go_wp2;go_roundw
     case rel=>exact⟨j+1,ys,by omega,by go_num,by omega,HYZ.out,hOy⟩
     case measure=>simp[intOf]<;>omega
  ·obtain rfl:j=L.length:=by omega
   have hlt':¬(L.length:Int)<(L.length:Int):=by omega
   have HXE:=Lib.hid (show xs=PD by rw[HPD.out,←HLOX.out,List.take_length]);have HTB:=Lib.hid (hO.base T1);clear hO;go_wp2;go_ret;exact⟨_,rfl,by rw[←HXE.out];exact HTB.out⟩
end
open Go.RowKit Go.Gk Go.Gk.V33
theorem zx4 {w:World} {z1 z2:Nat} {acc c4 c5:Int} (h1:w.cell? ⟨z1,0,none⟩=some (.int .i64 acc)) (h2:w.cell? ⟨z2,3,none⟩=some (.int .i64 c4)) (h3:w.cell? ⟨z2,4,none⟩=some (.int .i64 c5)) (x y:Int):
 Calls Tryz.prog 288 #[.agg #[.int .i64 x,.int .i64 y],.pointer (some ⟨z1,0,none⟩),.pointer (some ⟨z2,0,none⟩)] w fun e w'=>e=.returned (.agg #[.int .i64 3,.int .i64 x,.int .i64 acc,.int .i64 c4,.int .i64 c5,.int .i64 y])∧Tf w w':=by
 have ta:=tal w (.cells #[.int .i64 x,.int .i64 y] 110);have tb:=tal (w.alloc (.cells #[.int .i64 x,.int .i64 y] 110)) (.cells #[.int .i64 3,.int .i64 x,.int .i64 acc,.int .i64 c4,.int .i64 c5,.int .i64 y] 31);have HF:=Lib.hid (Blk.new2 w (.cells #[.int .i64 x,.int .i64 y] 110) 31 #[.int .i64 3,.int .i64 x,.int .i64 acc,.int .i64 c4,.int .i64 c5,.int .i64 y]);have HT:=Lib.hid (ta.trans tb);have tz:=tal (w.alloc (.cells #[.int .i64 x,.int .i64 y] 110)) (.cells #[.int .i64 0,.int .i64 0,.int .i64 0,.int .i64 0,.int .i64 0,.int .i64 0] 31);have k1:=(ta.trans tz).cell_some h1 id;have k2:=(ta.trans tz).cell_some h2 id;have k3:=(ta.trans tz).cell_some h3 id;clear ta tb tz h1 h2 h3;go_enter Tryz.func288,Tryz.ntmps288;go_wp2_with fail;(try simp only[Exit.inBlock,Exit.then]);(try rw[Exit.noGoto_ret]);refine zfe HF.out ?_;exact⟨rfl,HT.out⟩
theorem zx5 {w:World} {v:Value} {xs:List (Int×Int)} (hv:zae f2 2 (fun _=>True) w v xs) (hl:xs.length≤1600) {z1 z2:Nat} {acc c4 c5:Int} (HK0:∀w':World,Tf w w'→∀x y:Int,Calls Tryz.prog 288 #[.agg #[.int .i64 x,.int .i64 y],.pointer (some ⟨z1,0,none⟩),.pointer (some ⟨z2,0,none⟩)] w' fun e w''=>e=.returned (.agg #[.int .i64 3,.int .i64 x,.int .i64 acc,.int .i64 c4,.int .i64 c5,.int .i64 y])∧Tf w' w''):
 Calls Tryz.prog 287 #[v,.func (.func 288) #[] #[.pointer (some ⟨z1,0,none⟩),.pointer (some ⟨z2,0,none⟩)]] w fun e w'=>∃u,e=.returned u∧Outs za2 6 31 w w' u (xs.map (zhq acc c4 c5)):=by
 have HK:=Lib.hid HK0;have HV:=Lib.hid (fun w' (t:Tf w w')=>hv.keep t);obtain⟨A,c,rfl,hc1,hc2⟩:=hv.form;clear HK0 hv;go_enter Tryz.func287,Tryz.ntmps287;go_wp2_with fail;go_loopw [5,10] (fun o i wr=>∃(j:Nat) (ys:List Rt6),j≤xs.length∧i=.int .i64 (j:Int)∧(xs.take j).map (zhq acc c4 c5)=ys∧Outs za2 6 31 w wr o ys) (fun _ i _=>xs.length-(intOf i).toNat)
 case atStart=>exact⟨0,[],Nat.zero_le _,rfl,rfl,Outs.start _ _ _ (Tch.refl _ _)⟩
 case round=>
  obtain⟨j,ys,hj,rfl,hys,hO⟩:=hrel;obtain⟨O,co,rfl,ho1,ho2⟩:=hO.form;have hyl:ys.length≤1600:=by rw[←hys,List.length_map,List.length_take];omega
  have HYS:=Lib.hid hys;have hj0:=znn j;clear hys;by_cases hlt:j<xs.length
  ·have hlt':(j:Int)<(xs.length:Int):=by omega
   have hl9:=HV.out wr hO.tch;obtain⟨g,o9,rfl⟩:=hl9.head (by omega);obtain⟨q0,q1⟩:=Row.two hl9 z6p hlt rfl;have HN:=Lib.hid (show(xs.take (j+1)).map (zhq acc c4 c5)=ys++[zhq acc c4 c5 xs[j]] by rw[List.take_succ_eq_append_getElem hlt,List.map_append,HYS.out];rfl);generalize xs[j]=q at *;obtain⟨x,y⟩:=q;simp only at q0 q1;have tP:=tal wr (.cells #[.int .i64 x,.int .i64 y] 110);have bP:=Blk.new wr 110 #[.int .i64 x,.int .i64 y];have HK1:=Lib.hid (HK.out _ (hO.tch.trans tP) x y);have hO1:=hO.keep tP;obtain⟨p0,p1⟩:=bP.f2;clear hl9 tP bP hO;go_wp2_with fail;refine HK1.out.mono ?_;rintro _ w2 ⟨rfl,t2⟩;have hO2:=hO1.keep t2;clear HK1 p0 p1 q0 q1 hO1 t2;go_wp2_with (at_builtin;refine apd za1 (hO2.own.alloc _) (Go.Gk.Src.one (news:=za2 (3,x,acc,c4,c5,y)) rfl (fun m9 u9 hu9=>by rw[(Blk.new w2 31 #[.int .i64 3,.int .i64 x,.int .i64 acc,.int .i64 c4,.int .i64 c5,.int .i64 y]).cell m9];simpa[za2]using hu9)) (zjd _) ?_;intro v2 w4 ho2 hg2 hl2;have hO4:=hO2.step (x:=(3,x,acc,c4,c5,y)) (Tch.alloc _ _ _) ho2 hg2 (fun g hg=>by simpa using hl2 g hg);obtain⟨O2,co2,rfl,_,_⟩:=zac ho2);go_roundw
   case rel=>exact⟨j+1,_,by omega,by go_num,HN.out,by simpa[zhq]using hO4⟩
   case measure=>simp[intOf]<;>omega
  ·obtain rfl:j=xs.length:=by omega
   have hlt':¬(xs.length:Int)<(xs.length:Int):=by omega
   have hys:=HYS.out;rw[List.take_length]at hys;have HY2:=Lib.hid hys;clear hys;go_wp2;go_ret;exact⟨_,rfl,by rw[HY2.out];exact hO⟩
section
variable {w:World} {bv bi B t mr mp:Nat} {e a s r l n lv:Value} {fs:List Value} {b:Bks} {us:List (Ent×Value)}
theorem zx6 (h:Vw w bv bi B t mr mp e a s r l n lv fs b us) (hpo:(zay b.entries).length≤10000) (hok:zba b=true) (c1 c2 c3 c4 c5 c6 acc:Int) {p:Nat} (hc4:c4=(p:Int)) (hp:p<24) (hnode:1≤c2∧c2≤b.ents.length):
 Calls Tryz.prog 225 #[.pointer (some ⟨bv,0,none⟩),.agg #[.int .i64 c1,.int .i64 c2,.int .i64 c3,.int .i64 c4,.int .i64 c5,.int .i64 c6],.int .i64 acc] w fun x w'=>∃u:Value,x=.returned u∧Outs za2 6 31 w w' u (zce b (c1,c2,c3,c4,c5,c6) acc):=by
 subst hc4;have ta:=tal w (.cells #[.int .i64 c1,.int .i64 c2,.int .i64 c3,.int .i64 (p:Int),.int .i64 c5,.int .i64 c6] 31);have tb:=tal (w.alloc (.cells #[.int .i64 c1,.int .i64 c2,.int .i64 c3,.int .i64 (p:Int),.int .i64 c5,.int .i64 c6] 31)) (.cells #[.int .i64 acc] 3);have tw:=ta.trans tb;have bC:=(Blk.new w 31 #[.int .i64 c1,.int .i64 c2,.int .i64 c3,.int .i64 (p:Int),.int .i64 c5,.int .i64 c6]).keep tb id;have bA:=Blk.new2 w (.cells #[.int .i64 c1,.int .i64 c2,.int .i64 c3,.int .i64 (p:Int),.int .i64 c5,.int .i64 c6] 31) 3 #[.int .i64 acc];have HP:=Lib.hid (zx3 (h.keep tw) hpo hok hp c2 acc hnode);have hxl:=zl0 (zec hok).1 c2 acc (p:Int);have HSD:=Lib.hid (show zce b (c1,c2,c3,(p:Int),c5,c6) acc=(zeb b c2 acc p).map (zhq acc p c5)from rfl);generalize zeb b c2 acc p=xs at *;have HS:=Lib.hid (fun w' (t9:Tf _ w') x y=>zx4 (t9.cell_some (bA.cell 0) id) (t9.cell_some (bC.cell 3) id) (t9.cell_some (bC.cell 4) id) x y);have HTW:=Lib.hid tw;clear ta tb h tw bC bA;go_enter Tryz.func225,Tryz.ntmps225;go_wp2_with fail;refine HP.out.mono ?_;rintro _ w1 ⟨u,rfl,hO⟩;have HE:=Lib.hid (zx5 (acc:=acc) (c4:=(p:Int)) (c5:=c5) hO.row hxl (fun w' t9 x y=>HS.out w' (hO.tch.trans t9) x y));have T1:=HTW.out.trans hO.tch;obtain⟨O,co,rfl,_,_⟩:=hO.form;clear HP HS hO;go_wp2_with fail;refine HE.out.mono ?_;rintro _ w2 ⟨u2,rfl,hO2⟩;obtain⟨O2,co2,rfl,_,_⟩:=hO2.form;have HB:=Lib.hid (hO2.base T1);clear HE hO2;go_wp2;go_ret;exact⟨_,rfl,by rw[HSD.out];have h9:=HB.out;rw[List.length_map]at h9;exact h9⟩
theorem zsg (h:Vw w bv bi B t mr mp e a s r l n lv fs b us) (hn:(zag b.accs).length≤1000):
 Calls Tryz.prog 45 #[.pointer (some ⟨bv,0,none⟩)] w fun x w'=>∃u:Value,x=.returned u∧zet w w' u (zen b):=by
 have HL:=Lib.hid (zg4 h hn)
 have HA:=Lib.hid (fun w' (t9:Tf w w') x (hx:x∈zag b.accs)=>by
  obtain⟨k,hk,hkx,hka⟩:=zd4 (zhj hx)
  exact(show∃a1 kd a3,Calls Tryz.prog 37 #[.pointer (some ⟨bv,0,none⟩),.int .i64 x] w' fun y w''=>y=.returned (.tuple #[.agg #[.int .i64 a1,.int .i64 kd,.bool a3,.bool (zfh b x)],.bool true])∧Tf w' w'' from⟨b.accs[k].1,b.accs[k].2.1,b.accs[k].2.2.1,by rw[ztf (hk:=hk) hka];exact zdn (h.keep t9) hk x hkx⟩))
 have HAP:=Lib.hid (show zen b=(zag b.accs).filter (zfh b)from rfl);generalize zfh b=PB at *;generalize zen b=AP at *;generalize zag b.accs=L at *;clear h;go_enter Tryz.func45,Tryz.ntmps45;go_wp2_with fail;refine HL.out.mono ?_;rintro _ w1 ⟨u,rfl,hU⟩;have HR:=Lib.hid (fun w' (t9:Tf w1 w')=>hU.row.keep t9);have t1:=hU.tch;obtain⟨U,cu,rfl,hu1,hu2⟩:=hU.form;clear hU HL;go_wp2_with fail;go_loopw [3,11] (fun o i wr=>∃(j:Nat) (zs:List Int),j≤L.length∧i=.int .i64 (j:Int)∧zs.length≤j∧(L.take j).filter PB=zs∧zet w1 wr o zs) (fun _ i _=>L.length-(intOf i).toNat)
 case atStart=>exact⟨0,[],Nat.zero_le _,rfl,Nat.le_refl _,rfl,Outs.start _ _ _ (Tch.refl _ _)⟩
 case round=>
  obtain⟨j,zs,hj,rfl,hzl,hzf,hO⟩:=hrel;have HZF:=Lib.hid hzf;clear hzf;obtain⟨O,co,rfl,ho1,ho2⟩:=hO.form;have hj0:=znn j;by_cases hlt:j<L.length
  ·have hlt':(j:Int)<(L.length:Int):=by omega
   have hl9:=HR.out wr hO.tch;obtain⟨g,o9,rfl⟩:=hl9.head (by omega);have q0:=Row.one hl9 zap hlt rfl;obtain⟨a1,kd,a3,hac⟩:=HA.out wr (t1.trans hO.tch) L[j] (List.getElem_mem hlt);have HAC:=Lib.hid hac;have HNF:=Lib.hid (show(L.take (j+1)).filter PB=zs++(if PB L[j]=true then[L[j]]else[]) by rw[ze6 PB hlt,HZF.out]);generalize L[j]=x at *;generalize PB x=a4 at *;clear hl9 hac;go_wp2_with fail;refine HAC.out.mono ?_;rintro _ w2 ⟨rfl,t2⟩;have tA:=tal w2 (.cells #[.int .i64 a1,.int .i64 kd,.bool a3,.bool a4] 91);have bA:=Blk.new w2 91 #[.int .i64 a1,.int .i64 kd,.bool a3,.bool a4];have hO:=hO.keep (t2.trans tA);have p3:=bA.at3;have hz9:zs.length≤1000:=by omega
   clear HAC q0 t2 tA bA
   cases a4
   ·have HNG:=Lib.hid (show(L.take (j+1)).filter PB=zs by rw[HNF.out,if_neg (by simp),List.append_nil]);go_wp2;go_roundw
    case rel=>exact⟨j+1,zs,by omega,by go_num,by omega,HNG.out,hO⟩
    case measure=>simp[intOf]<;>omega
   ·go_wp2_with ((at_builtin;refine apd zaj (hO.own.alloc _) (Go.Gk.Src.one (news:=[.int .i64 (x)]) rfl (fun m9 u9 hu9=>by rw[(Blk.new2 (w2) (.cells #[.int .i64 a1,.int .i64 kd,.bool a3,.bool true] 91) 3 #[.int .i64 (x)]).cell m9];simpa using hu9)) (by simp;rfl) ?_;intro v2 w2 ho2 hg2 hl2;have hO2:=hO.step (x:=x) (Tch.alloc _ _ _) ho2 hg2 hl2;obtain⟨O2,co2,rfl,_,_⟩:=zac ho2));go_roundw
    case rel=>exact⟨j+1,_,by omega,by go_num,by simp;omega,by rw[HNF.out];simp,hO2⟩
    case measure=>simp[intOf]<;>omega
  ·obtain rfl:j=L.length:=by omega
   have hlt':¬(L.length:Int)<(L.length:Int):=by omega
   have HZP:=Lib.hid (show zs=AP by rw[HAP.out,←HZF.out,List.take_length]);have HB:=Lib.hid (hO.base t1);have hz9:zs.length≤1000:=by omega
   clear hO;go_wp2;go_ret;exact⟨_,rfl,by rw[←HZP.out];exact HB.out⟩
end
end Go.Proofs.YtoegobjnjljegaaGreatDoor
namespace Go.Gk.V33
open Go.RowKit
def v1 (v:Value):List Value:=[v]
theorem v1_len:∀v,(v1 v).length=1:=fun _=>rfl
def CellsR (P:Nat→Prop) (f:Int→List Rt6) (w:World) (xs:List Int) (vs:List Value):Prop:=∀(i:Nat) (v:Value) (x:Int),vs[i]?=some v→xs[i]?=some x→zae za2 6 P w v (f x)
theorem rows_one {P:Nat→Prop} {ys:List Rt6} {w:World} {v:Value} (h:zae za2 6 P w v ys):v.oneCell'=true:=by
 obtain⟨A,c,rfl,_,_⟩:=h.form;rfl
theorem CellsR.snoc {P P':Nat→Prop} {f:Int→List Rt6} {w w':World} {xs:List Int} {vs:List Value} (h:CellsR P f w xs vs) {v:Value} {x:Int} (hx:xs[vs.length]?=some x) (hv:zae za2 6 P w v (f x)) (hk:∀(u:Value) (ys:List Rt6),zae za2 6 P w u ys→zae za2 6 P' w' u ys):CellsR P' f w' xs (vs++[v]):=by
 intro i u y hu hy;by_cases hi:i<vs.length
 ·rw[List.getElem?_append_left hi]at hu;exact hk _ _ (h i u y hu hy)
 ·rw[List.getElem?_append_right (by omega)]at hu
  have h0:i-vs.length=0:=by
   rcases Nat.eq_zero_or_pos (i-vs.length)with h0|h0
   ·exact h0
   ·rw[List.getElem?_eq_none (by simp;omega)]at hu;cases hu
  rw[h0]at hu;obtain rfl:v=u:=by simpa using hu
  obtain rfl:i=vs.length:=by omega
  rw[hx]at hy;injection hy with hy;subst hy;exact hk _ _ hv
end Go.Gk.V33
namespace Go.Proofs.YtoegobjnjljegaaGreatDoor
open Go.RowKit Go.Gk Go.Gk.V33
theorem zx7:RowTy Tryz.prog 245 42 (.slice none 0 0) 1 24:=⟨Tryz.underlying245,by kernel_rfl,rfl,by decide⟩
section
variable {w:World} {bv bi B t mr mp:Nat} {e a s r l n lv:Value} {fs:List Value} {b:Bks} {us:List (Ent×Value)}
theorem recc_x (h:Vw w bv bi B t mr mp e a s r l n lv fs b us) (hpo:(zay b.entries).length≤10000) (hok:zba b=true) (c1 c2 c3 c4 c5 c6:Int) {p:Nat} (hc4:c4=(p:Int)) (hp:p<24) (hnode:1≤c2∧c2≤b.ents.length) {z1 z2:Nat} {T:TypeId} (h1:w.cell? ⟨z1,0,none⟩=some (.pointer (some ⟨bv,0,none⟩))) (h2:Blk w z2 T #[.int .i64 c1,.int .i64 c2,.int .i64 c3,.int .i64 c4,.int .i64 c5,.int .i64 c6]) (acc:Int):
 Calls Tryz.prog 227 #[.int .i64 acc,.pointer (some ⟨z1,0,none⟩),.pointer (some ⟨z2,0,none⟩)] w fun x w'=>∃u:Value,x=.returned u∧Outs za2 6 31 w w' u (zce b (c1,c2,c3,c4,c5,c6) acc):=by
 have HS:=Lib.hid (zx6 h hpo hok c1 c2 c3 c4 c5 c6 acc hc4 hp hnode);generalize zce b (c1,c2,c3,c4,c5,c6) acc=ys at *;obtain⟨k0,k1,k2,k3,k4,k5⟩:=h2.f6;clear h h2 hc4 hnode;go_enter Tryz.func227,Tryz.ntmps227;go_wp2_with fail;refine HS.out.mono ?_;rintro _ w1 ⟨u,rfl,hO⟩;obtain⟨O,co,rfl,_,_⟩:=hO.form;have HO:=Lib.hid hO;clear HS hO;go_wp2;go_ret;exact⟨_,rfl,HO.out⟩
theorem each1_x {v:Value} {xs:List Int} (hv:zae zby 1 (fun _=>True) w v xs) (hl:xs.length≤1000) {z1 z2:Nat} {f:Int→List Rt6} (HK0:∀w':World,Tf w w'→∀x:Int,Calls Tryz.prog 227 #[.int .i64 x,.pointer (some ⟨z1,0,none⟩),.pointer (some ⟨z2,0,none⟩)] w' fun y w''=>∃u:Value,y=.returned u∧Outs za2 6 31 w' w'' u (f x)):
 Calls Tryz.prog 226 #[v,.func (.func 227) #[] #[.pointer (some ⟨z1,0,none⟩),.pointer (some ⟨z2,0,none⟩)]] w fun x w'=>∃(u:Value) (vs:List Value),x=.returned u∧Outs v1 1 42 w w' u vs∧vs.length=xs.length∧CellsR (fun g=>w.heap.size≤g) f w' xs vs:=by
 have HK:=Lib.hid HK0;have HV:=Lib.hid (fun w' (t:Tf w w')=>hv.keep t);obtain⟨A,c,rfl,hc1,hc2⟩:=hv.form;clear HK0 hv;go_enter Tryz.func226,Tryz.ntmps226;go_wp2_with fail;go_loopw [5,10] (fun o i wr=>∃(j:Nat) (vs:List Value),j≤xs.length∧i=.int .i64 (j:Int)∧vs.length=j∧Outs v1 1 42 w wr o vs∧CellsR (fun g=>w.heap.size≤g∧o.ownBlock≠some g) f wr xs vs) (fun _ i _=>xs.length-(intOf i).toNat)
 case atStart=>exact⟨0,[],Nat.zero_le _,rfl,rfl,Outs.start _ _ _ (Tch.refl _ _),fun i v x hv=>by simp at hv⟩
 case round=>
  obtain⟨j,vs,hj,rfl,hvl,hO,hall⟩:=hrel;subst hvl;obtain⟨O,co,rfl,ho1,ho2⟩:=hO.form;have HALL:=Lib.hid hall;have hj0:(0:Int)≤(vs.length:Int):=Int.natCast_nonneg _;clear hall;by_cases hlt:vs.length<xs.length
  ·have hlt':(vs.length:Int)<(xs.length:Int):=by omega
   have hl9:=HV.out wr hO.tch;obtain⟨g,o9,rfl⟩:=hl9.head (by omega);have q0:=Row.one hl9 zap hlt rfl;have HXX:=Lib.hid (List.getElem?_eq_getElem hlt);generalize xs[vs.length]=x at *;have HK1:=Lib.hid (HK.out wr hO.tch x);clear hl9;go_wp2_with fail;refine HK1.out.mono ?_;rintro _ w2 ⟨u,rfl,hOy⟩;have HFX:=Lib.hid (show f x=f x from rfl);generalize hfx:f x=ys at hOy;have HFY:=Lib.hid hfx;clear hfx HFX;have t2:=hOy.tch;have hO2:=hO.keep t2;have hob:=fun g (hg:(Value.slice O vs.length co).ownBlock=some g)=>(hO.own.lt g hg).2
   have hoy:=fun g (hg:u.ownBlock=some g)=>hOy.own.lt g hg
   have hsw:=hO.tch.size;have HNEW:=Lib.hid (show zae za2 6 (fun g=>w.heap.size≤g∧(Value.slice O vs.length co).ownBlock≠some g) w2 u (f x) by rw[HFY.out];exact Row.own hOy.own (fun g hg=>⟨by have:=(hoy g hg).1;omega,fun h9=>by have h1:=hob g h9;have h2:=(hoy g hg).1;omega⟩));have HOLD:=Lib.hid (show CellsR (fun g=>w.heap.size≤g∧(Value.slice O vs.length co).ownBlock≠some g) f w2 xs vs from fun i v y h1 h2=>(HALL.out i v y h1 h2).keep t2);obtain⟨Y,cy,rfl,_,_⟩:=hOy.form;have hv9:vs.length≤1000:=by omega
   have HONE:=Lib.hid (rows_one HNEW.out);have tA:=tal w2 (.cells #[(Value.slice Y ys.length cy)] 42);have HBE:=Lib.hid (fun m9=>(Blk.new w2 42 #[(Value.slice Y ys.length cy)]).cell m9);have hO3:=hO2.keep tA;clear HK1 q0 hOy hoy t2 hO2 hO;go_wp2_with (at_builtin;refine Hid.out ?_);refine Lib.hid ?_;refine apd zx7 hO3.own (Go.Gk.Src.one (news:=v1 (Value.slice Y ys.length cy)) rfl (fun m9 y9 hy9=>by rw[HBE.out m9];simpa[v1]using hy9)) (by intro y9 hy9;simp[v1]at hy9;subst hy9;exact HONE.out) ?_;intro v2 w4 ho2 hg2 hl2;have hO4:=hO3.step (x:=(Value.slice Y ys.length cy)) (Tch.refl _ _) ho2 hg2 hl2;have tg:=Tch.grown (F:=fun g=>(Value.slice O vs.length co).ownBlock=some g) hg2 (fun k9 e9=>.inl e9)
   have hN4:=Lib.hid (show CellsR (fun g=>w.heap.size≤g∧v2.ownBlock≠some g) f w4 xs (vs++[(Value.slice Y ys.length cy)])from HOLD.out.snoc HXX.out HNEW.out fun u9 y9 h1=>Row.keepTo (P':=fun g=>w.heap.size≤g∧v2.ownBlock≠some g) (h1.keep tA) tg (fun g hlt9 hg=>⟨hg.2,hg.1,fun h9=>by
    rcases hl2 g h9 with h8|h8
    ·exact hg.2 h8
    ·omega⟩))
   obtain⟨O2,co2,rfl,_,_⟩:=zac ho2;clear hO3 ho2 hg2 hl2 HBE tA tg HOLD HNEW;go_wp2;go_roundw
   case rel=>exact⟨vs.length+1,vs++[(Value.slice Y ys.length cy)],by omega,by go_num,by simp,by simpa using hO4,hN4.out⟩
   case measure=>simp[intOf]<;>omega
  ·have hlt':¬(vs.length:Int)<(xs.length:Int):=by omega
   have HA2:=Lib.hid (show CellsR (fun g=>w.heap.size≤g) f wr xs vs from fun i v y h1 h2=>(HALL.out i v y h1 h2).weak (fun g hg=>hg.1));have HVE:=Lib.hid (show vs.length=xs.length by omega);have hv9:vs.length≤1000:=by omega
   have HO:=Lib.hid hO;clear hO;go_wp2;go_ret;exact⟨_,rfl,vs,HO.out,HVE.out,HA2.out⟩
theorem zx8 (h:Vw w bv bi B t mr mp e a s r l n lv fs b us) (hn:(zag b.accs).length≤1000) (hpo:(zay b.entries).length≤10000) (hok:zba b=true) (c1 c2 c3 c4 c5 c6:Int):
 Calls Tryz.prog 155 #[.pointer (some ⟨bv,0,none⟩),.agg #[.int .i64 c1,.int .i64 c2,.int .i64 c3,.int .i64 c4,.int .i64 c5,.int .i64 c6]] w (zfi b (c1,c2,c3,c4,c5,c6) w):=by
 have HV:=Lib.hid (fun w' (t9:Tf w w')=>h.keep t9);have ta:=tal w (.cells #[.pointer (some ⟨bv,0,none⟩)] 34);have tb:=tal (w.alloc (.cells #[.pointer (some ⟨bv,0,none⟩)] 34)) (.cells #[.int .i64 c1,.int .i64 c2,.int .i64 c3,.int .i64 c4,.int .i64 c5,.int .i64 c6] 31);have tc:=tal ((w.alloc (.cells #[.pointer (some ⟨bv,0,none⟩)] 34)).alloc (.cells #[.int .i64 c1,.int .i64 c2,.int .i64 c3,.int .i64 c4,.int .i64 c5,.int .i64 c6] 31)) (.cells #[.int .i64 0,.int .i64 0,.slice none 0 0,.slice none 0 0,.int .i64 0,.int .i64 0,.int .i64 0,.int .i64 0,.int .i64 0,.int .i64 0,.bool false,.int .i64 0,.int .i64 0,.bool false] 48);have tw:=(ta.trans tb).trans tc;have bV:=((Blk.new w 34 #[.pointer (some ⟨bv,0,none⟩)]).keep tb id).keep tc id;have bC:=(Blk.new2 w (.cells #[.pointer (some ⟨bv,0,none⟩)] 34) 31 #[.int .i64 c1,.int .i64 c2,.int .i64 c3,.int .i64 c4,.int .i64 c5,.int .i64 c6]).keep tc id;have bO:Blk (((w.alloc (.cells #[.pointer (some ⟨bv,0,none⟩)] 34)).alloc (.cells #[.int .i64 c1,.int .i64 c2,.int .i64 c3,.int .i64 c4,.int .i64 c5,.int .i64 c6] 31)).alloc (.cells #[.int .i64 0,.int .i64 0,.slice none 0 0,.slice none 0 0,.int .i64 0,.int .i64 0,.int .i64 0,.int .i64 0,.int .i64 0,.int .i64 0,.bool false,.int .i64 0,.int .i64 0,.bool false] 48)) (w.heap.size+1+1) 48 #[.int .i64 0,.int .i64 0,.slice none 0 0,.slice none 0 0,.int .i64 0,.int .i64 0,.int .i64 0,.int .i64 0,.int .i64 0,.int .i64 0,.bool false,.int .i64 0,.int .i64 0,.bool false]:=by simpa using Blk.new ((w.alloc (.cells #[.pointer (some ⟨bv,0,none⟩)] 34)).alloc (.cells #[.int .i64 c1,.int .i64 c2,.int .i64 c3,.int .i64 c4,.int .i64 c5,.int .i64 c6] 31)) 48 #[.int .i64 0,.int .i64 0,.slice none 0 0,.slice none 0 0,.int .i64 0,.int .i64 0,.int .i64 0,.int .i64 0,.int .i64 0,.int .i64 0,.bool false,.int .i64 0,.int .i64 0,.bool false]
 have HM:=Lib.hid (ze3 (HV.out _ tw) (c1,c2,c3,c4,c5,c6));have HFA:=Lib.hid (fun h=>zdo (b:=b) (c:=(c1,c2,c3,c4,c5,c6)) (lo:=6) (hi:=6) h)
 obtain⟨m,hm⟩:∃m,za7 b (c1,c2,c3,c4,c5,c6) 6 6=m:=⟨_,rfl⟩
 have HEN:=Lib.hid (show m≠0→zcf b (c1,c2,c3,c4,c5,c6)=(Rcp.none,m)from fun h0=>by unfold zcf;rw[hm,if_neg h0]);have HEY0:=Lib.hid (show m=0→zcf b (c1,c2,c3,c4,c5,c6)=({Rcp.none with plus:=zgb b (c1,c2,c3,c4,c5,c6),minus:=ze4 b (c1,c2,c3,c4,c5,c6)},0)from fun h0=>by unfold zcf;rw[hm,if_pos h0]);have HMD:=Lib.hid (show(if za3 (c1,c2,c3,c4,c5,c6) b.ents.length b.accs.length=0 then(if c1<6∨6<c1 then 25 else if zas b.accs c3 then 0 else 27)else za3 (c1,c2,c3,c4,c5,c6) b.ents.length b.accs.length)=m from hm);rw[hm]at HFA;unfold zcq at HM;simp only at HM;generalize za3 (c1,c2,c3,c4,c5,c6) b.ents.length b.accs.length=ci at *;clear ta tb tc h hm;go_enter Tryz.func155,Tryz.ntmps155;go_wp2_with fail;generalize((w.alloc (.cells #[.pointer (some ⟨bv,0,none⟩)] 34)).alloc (.cells #[.int .i64 c1,.int .i64 c2,.int .i64 c3,.int .i64 c4,.int .i64 c5,.int .i64 c6] 31)).alloc _=W at *;generalize hzw:w.heap.size=z at *;have HZW:=Lib.hid hzw;clear hzw;refine HM.out.mono ?_;rintro _ w1 ⟨rfl,t1⟩;have bV1:=bV.keep t1 id;have bC1:=bC.keep t1 id;have bO1:=bO.keep t1 id;have T1:=tw.trans t1;clear HM bV bC bO tw t1;obtain⟨k0,k1,k2,k3,k4,k5⟩:=bC1.f6;have v0:=bV1.at0;by_cases hci:ci=0
 rotate_left
 ·have hcb:(ci !=0)=true:=by simpa using hci
  obtain rfl:m=ci:=by rw[←HMD.out,if_neg hci]
  have HNM:=Lib.hid hci;clear hci HMD HFA bC1 bV1;go_wp2_with (refine stH (z+1+1) #[.int .i64 0,.int .i64 0,.slice none 0 0,.slice none 0 0,.int .i64 0,.int .i64 0,.int .i64 0,.int .i64 0,.int .i64 0,.int .i64 0,.bool false,.int .i64 0,.int .i64 0,.bool false] bO1 ?_);intro w9 HF HTF;clear bO1;go_wp2;(try simp only[exS]);refine zbi HF.out ?_;unfold zfi;rw[HEN.out HNM.out];exact⟨_,rfl,⟨_,_,rfl,Row.nil _ _ _,Row.nil _ _ _⟩,T1.trans' (F':=fun g=>g=z+1+1) HTF.out (fun i hi=>.inr (by have hi:i=z+1+1:=hi;have:=HZW.out;omega))⟩
 subst hci;by_cases hr6:c1=6
 rotate_left
 ·have hrb:(c1 !=6)=true:=by simpa using hr6
  obtain rfl:m=25:=by rw[←HMD.out,if_pos rfl,if_pos (by omega)]
  have HNM:=Lib.hid (show(25:Int)≠0 by decide);clear hr6 HMD HFA bC1 bV1;go_wp2_with (refine stH (z+1+1) #[.int .i64 0,.int .i64 0,.slice none 0 0,.slice none 0 0,.int .i64 0,.int .i64 0,.int .i64 0,.int .i64 0,.int .i64 0,.int .i64 0,.bool false,.int .i64 0,.int .i64 0,.bool false] bO1 ?_);intro w9 HF HTF;clear bO1;go_wp2;(try simp only[exS]);refine zbi HF.out ?_;unfold zfi;rw[HEN.out HNM.out];exact⟨_,rfl,⟨_,_,rfl,Row.nil _ _ _,Row.nil _ _ _⟩,T1.trans' (F':=fun g=>g=z+1+1) HTF.out (fun i hi=>.inr (by have hi:i=z+1+1:=hi;have:=HZW.out;omega))⟩
 subst hr6;have HLF:=Lib.hid (zdx (HV.out w1 T1) hn c3);rw[zb9]at HLF;go_wp2_with fail;refine HLF.out.mono ?_;rintro _ w2 ⟨rfl,t2⟩;have bV2:=bV1.keep t2 id;have bC2:=bC1.keep t2 id;have bO2:=bO1.keep t2 id;have T2:=T1.trans t2;clear HLF k0 k1 k2 k3 k4 k5 v0 bV1 bC1 bO1 T1 t2;by_cases hlf:zas b.accs c3=true
 rotate_left
 ·obtain rfl:m=27:=by have h9:=HMD.out;simp only[if_true,hlf]at h9;simpa using h9.symm
  have HNM:=Lib.hid (show(27:Int)≠0 by decide);have hlf2:zas b.accs c3=false:=by simpa using hlf
  rw[hlf2];clear hlf hlf2 HMD HFA bC2 bV2;go_wp2_with (refine stH (z+1+1) #[.int .i64 0,.int .i64 0,.slice none 0 0,.slice none 0 0,.int .i64 0,.int .i64 0,.int .i64 0,.int .i64 0,.int .i64 0,.int .i64 0,.bool false,.int .i64 0,.int .i64 0,.bool false] bO2 ?_);intro w9 HF HTF;clear bO2;go_wp2;(try simp only[exS]);refine zbi HF.out ?_;unfold zfi;rw[HEN.out HNM.out];exact⟨_,rfl,⟨_,_,rfl,Row.nil _ _ _,Row.nil _ _ _⟩,T2.trans' (F':=fun g=>g=z+1+1) HTF.out (fun i hi=>.inr (by have hi:i=z+1+1:=hi;have:=HZW.out;omega))⟩
 obtain rfl:m=0:=by have h9:=HMD.out;simp only[if_true,hlf]at h9;simpa using h9.symm
 rw[hlf];obtain⟨_,⟨hp0,hp1⟩,hnode,_⟩:=HFA.out rfl
 obtain⟨p,hc4p⟩:∃p:Nat,c4=(p:Int):=⟨c4.toNat,by have hp0:0≤c4:=hp0;omega⟩
 have hp24:p<24:=by have hp1:c4≤23:=hp1;omega
 have HEY:=Lib.hid (HEY0.out rfl);have HEP:=Lib.hid (show zgb b (6,c2,c3,c4,c5,c6)=if c3=3 then(zen b).flatMap (zce b (6,c2,c3,c4,c5,c6))else[]from rfl);have HEM:=Lib.hid (show ze4 b (6,c2,c3,c4,c5,c6)=if zfh b c3=true then zce b (6,c2,c3,c4,c5,c6) c3 else[]from rfl);have HSL:=Lib.hid (fun x=>zp2 (zec hok).1 (6,c2,c3,c4,c5,c6) x)
 obtain⟨SD,hSD⟩:∃SD:Int→List Rt6,zce b (6,c2,c3,c4,c5,c6)=SD:=⟨_,rfl⟩
 have HSD:=Lib.hid (fun x=>show zce b (6,c2,c3,c4,c5,c6) x=SD x by rw[←hSD]);rw[hSD]at HEP HEM HSL;clear hSD HEY0 HEN;have hc4h:=Lib.hid hc4p;obtain⟨k,hk,hkx,hka⟩:=zd4 hlf;have HPT:=Lib.hid (ztf (hk:=hk) hka);have tY:=tal w2 (.cells #[.int .i64 0,.int .i64 0,.slice none 0 0,.slice none 0 0,.int .i64 0,.int .i64 0,.int .i64 0,.int .i64 0,.int .i64 0,.int .i64 0,.bool false,.int .i64 0,.int .i64 0,.bool false] 48);have bY:=Blk.new w2 48 #[.int .i64 0,.int .i64 0,.slice none 0 0,.slice none 0 0,.int .i64 0,.int .i64 0,.int .i64 0,.int .i64 0,.int .i64 0,.int .i64 0,.bool false,.int .i64 0,.int .i64 0,.bool false];have HAC:=Lib.hid (zdn (HV.out _ (T2.trans tY)) hk c3 hkx);generalize b.accs[k]=ac at *;obtain⟨a1,kd,a3,a4⟩:=ac;unfold zfq at HAC;simp only at HAC;have bV3:=bV2.keep tY id;have bC3:=bC2.keep tY id;have bO3:=bO2.keep tY id;have T3:=T2.trans tY;have v0:=bV3.at0;have k2:=bC3.at2;have hzy:z+3≤w2.heap.size:=by have:=bO2.lt;omega
 have hnode:1≤c2∧c2≤(b.ents.length:Int):=hnode;clear HMD HFA hlf hp0 hp1 hkx hk hka bV2 bC2 bO2 T2 tY hc4p;go_wp2_with fail;generalize w2.alloc _=W2 at *;generalize hyy:w2.heap.size=y at *;have HYY:=Lib.hid hyy;clear hyy;refine HAC.out.mono ?_;rintro _ w3 ⟨rfl,t3⟩;have tA:=tal w3 (.cells #[.int .i64 a1,.int .i64 kd,.bool a3,.bool a4] 91);have bA:=Blk.new w3 91 #[.int .i64 a1,.int .i64 kd,.bool a3,.bool a4];have t3A:=t3.trans tA;have bV4:=bV3.keep t3A id;have bC4:=bC3.keep t3A id;have bO4:=bO3.keep t3A id;have bY4:=bY.keep t3A id;have T4:=T3.trans t3A;have hy4:=bY.lt;have hy5:=t3.size;have p3:=bA.at3;clear HAC v0 k2 bV3 bC3 bO3 bY T3 t3 tA t3A bA;have HC4P:=hc4h;(try simp only at HPT)
 cases a4
 ·have k2:=bC4.at2;by_cases h33:c3=3
  rotate_left
  ·have h33b:(c3==3)=false:=by simpa using h33
   have H33:=Lib.hid h33;clear h33;obtain⟨f0,f1,f2,f3,f4,f5,f6,f7,f8,f9,f10,f11,f12,f13⟩:=bY4.f14;clear bY4;go_wp2_with (refine stH (z+1+1) #[.int .i64 0,.int .i64 0,.slice none 0 0,.slice none 0 0,.int .i64 0,.int .i64 0,.int .i64 0,.int .i64 0,.int .i64 0,.int .i64 0,.bool false,.int .i64 0,.int .i64 0,.bool false] bO4 ?_);intro w9 HF HTF;clear bO4 f0 f1 f2 f3 f4 f5 f6 f7 f8 f9 f10 f11 f12 f13;go_wp2;(try simp only[exS]);refine zbi HF.out ?_;unfold zfi;rw[show zcf b (6,c2,c3,c4,c5,c6)=({Rcp.none with plus:=[],minus:=[]},0) by rw[HEY.out,HEP.out,HEM.out];rw[if_neg H33.out];rw[if_neg (by rw[HPT.out];simp)]];exact⟨_,rfl,⟨_,_,rfl,Row.nil _ _ _,Row.nil _ _ _⟩,T4.trans' (F':=fun g=>g=z+1+1) HTF.out (fun i hi=>.inr (by have hi:i=z+1+1:=hi;have:=HZW.out;omega))⟩
  have h33b:(c3==3)=true:=by simpa using h33
  have H33:=Lib.hid h33;clear h33;have v0:=bV4.at0;have HPA:=Lib.hid (zsg (HV.out (w3.alloc (.cells #[.int .i64 a1,.int .i64 kd,.bool a3,.bool false] 91)) T4) hn);have hzl:(zen b).length≤1000:=Nat.le_trans (List.length_filter_le _ _) hn;go_wp2_with fail;refine HPA.out.mono ?_;rintro _ wa ⟨u1,rfl,hOz⟩;generalize hzs:zen b=zs at *;have HZS:=Lib.hid hzs;clear hzs;have bVa:=bV4.keep hOz.tch id;have bCa:=bC4.keep hOz.tch id;have Ta:=T4.trans hOz.tch;have HE1:=Lib.hid (each1_x (f:=SD) hOz.row hzl (fun w' t9 x=>by rw[←HSD.out x];exact recc_x (T:=31) (HV.out w' (Ta.trans t9)) hpo hok 6 c2 c3 c4 c5 c6 HC4P.out hp24 hnode (t9.cell_some (bVa.cell 0) id) (bCa.keep t9 id) x));obtain⟨Uz,cz,rfl,_,_⟩:=hOz.form;have ta:=hOz.tch;clear HPA hOz k2 v0;go_wp2_with fail;refine HE1.out.mono ?_;rintro _ wb ⟨u2,vs,rfl,hOv,hvl,hvs⟩;have tab:=ta.trans hOv.tch;have hwbs:=tab.size;have HVS:=Lib.hid hvs;have hlow:=ta.size;have hyb0:=bY4.lt;have HVR:=Lib.hid (fun w' (t9:Tch (fun g=>g=y) wb w')=>Row.keepTo (P':=fun _=>True) (Row.own hOv.own (P:=fun g=>wa.heap.size≤g) (fun g hg=>(hOv.own.lt g hg).1)) t9 (fun g _ hg=>⟨fun e9=>by have e9:g=y:=e9;omega,trivial⟩));obtain⟨Uv,cv,rfl,_,_⟩:=hOv.form;have bRb:=bY4.keep tab id;have bOb:=bO4.keep tab id;have Tb:=T4.trans tab;have hvl2:(vs.length:Int)≤1000:=by omega
  have hvl3:vs.length≤1000:=by omega
  clear HE1 hOv hvs ta bVa bCa Ta;go_wp2_with fail;go_loopw [55] (fun i wr=>∃(j:Nat) (xs:List Rt6) (O:Option Addr) (co:Nat),j≤vs.length∧i=.int .i64 (j:Int)∧Blk wr y 48 #[.int .i64 0,.int .i64 0,.slice O xs.length co,.slice none 0 0,.int .i64 0,.int .i64 0,.int .i64 0,.int .i64 0,.int .i64 0,.int .i64 0,.bool false,.int .i64 0,.int .i64 0,.bool false]∧wr.ownsRow wb.heap.size 31 6 (.slice O xs.length co) xs.length (xs.flatMap za2)∧xs.length≤1600*j∧(zs.take j).flatMap SD=xs∧Tch (fun g=>g=y) wb wr) (fun i _=>vs.length-(intOf i).toNat)
  case atStart=>exact⟨0,[],none,0,Nat.zero_le _,rfl,bRb,World.ownsRow_nil _ _ _ _,Nat.le_refl _,rfl,Tch.refl _ _⟩
  case round=>
   obtain⟨j,xs,O,co,hj,rfl,hR,hown,hxl,hxlo,ht⟩:=hrel;have HXLO:=Lib.hid hxlo;have hj0:=znn j;clear hxlo;by_cases hlt:j<vs.length
   ·have hlt':(j:Int)<(vs.length:Int):=by omega
    have hl9:=HVR.out wr ht;obtain⟨g9,o9,rfl⟩:=hl9.head (by omega);have q0:=Row.one hl9 v1_len hlt rfl;have hjz:j<zs.length:=by omega
    have hys:=HVS.out j vs[j] zs[j] (List.getElem?_eq_getElem hlt) (List.getElem?_eq_getElem hjz);have HTK:=Lib.hid (show(zs.take (j+1)).flatMap SD=xs++SD zs[j] by rw[List.take_succ_eq_append_getElem hjz,List.flatMap_append,HXLO.out];simp);have hyl2:(SD zs[j]).length≤1600:=HSL.out _;generalize SD zs[j]=ys2 at *;have hsrc:zae za2 6 (fun _=>True) wr vs[j] ys2:=Row.keepTo (P':=fun _=>True) hys ht (fun g _ hg=>⟨fun e9=>by have e9:g=y:=e9;have hg:wa.heap.size≤g:=hg;omega,trivial⟩);generalize vs[j]=v9 at *;obtain⟨Q,cq,rfl,hq1,hq2⟩:=hsrc.form;have m2:wr.cell? ⟨y,1+1,none⟩=some (.slice O xs.length co):=hR.cell 2;have HLT:=Lib.hid (fun g hg=>hown.lt g hg);have hx9:xs.length≤1600000:=by omega
    have hszr:=ht.size;clear hl9 hys;go_wp2_with (at_builtin;refine Hid.out ?_);refine Lib.hid ?_;refine apd za1 hown hsrc.src (by intro u9 hu9;obtain⟨x9,_,hx9⟩:=List.mem_flatMap.1 hu9;exact zjd x9 u9 hx9) ?_;intro v2 wc ho2 hg2 hl2;have tg:Tch (fun g=>wb.heap.size≤g) wr wc:=Tch.grown hg2 fun k9 hk9=>.inl (HLT.out k9 hk9).1
    have hR2:=hR.keep tg (by omega);have t3:=ht.trans' tg (fun i hi=>.inr hi)
    have hob:∀g,v2.ownBlock=some g→wb.heap.size≤g:=fun g hg=>by
     rcases hl2 g hg with h9|h9
     ·exact(HLT.out g h9).1
     ·omega
    obtain⟨O2,co2,rfl,_,_⟩:=zac ho2;clear hR hown hsrc hg2 hl2 ht q0 m2 tg;go_wp2_with (refine zab rfl _ _ _ rfl y 2 (.slice O2 (xs.length+ys2.length) co2) (by rfl) (by rfl) rfl (by rfl) hR2 (by simp) ?_;refine Hid.out ?_);refine Lib.hid ?_;intro wd hR3 ts3;(try simp only[List.setIfInBounds_toArray,List.set_cons_succ,List.set_cons_zero]at hR3);have hown3:=ts3.own (zbk ho2 hob) (fun g hg he=>by have he:g=y:=he;have:=hob g hg;omega);have t4:=t3.trans ts3;have HLL:=Lib.hid (show xs.length+ys2.length=(xs++ys2).length by simp);have HN:=HTK;clear hR2 ho2 hob t3 ts3;go_wp2;go_roundw
    case rel=>exact⟨j+1,xs++ys2,O2,co2,by omega,by go_num,by rw[←HLL.out];exact hR3,by rw[←HLL.out];simpa[List.flatMap_append]using hown3,by simp;omega,HN.out,t4⟩
    case measure=>simp[intOf]<;>omega
   ·obtain rfl:j=vs.length:=by omega
    have hlt':¬(vs.length:Int)<(vs.length:Int):=by omega
    have bO9:=bOb.keep ht (by omega);have T9:=Tb.trans' ht (fun i hi=>.inr (by have hi:i=y:=hi;have:=HZW.out;omega));have HRX:=Lib.hid (fun w' (t9:Tch (fun g=>g=z+1+1) wr w')=>(show zae za2 6 (fun _=>True) w' (.slice O xs.length co) xs from Row.keepTo (P':=fun _=>True) (Row.own hown (P:=fun g=>wb.heap.size≤g) (fun g hg=>(hown.lt g hg).1)) t9 (fun g _ hg=>⟨fun e=>by have e:g=z+1+1:=e;have:=hyb0;have hg:wb.heap.size≤g:=hg;have:=tab.size;omega,trivial⟩)));have HT9:=Lib.hid (fun w' (t9:Tch (fun g=>g=z+1+1) wr w')=>((tab.mono (F':=fun g=>g=y∨g=z+1+1) (fun _ _ h=>h.elim)).trans (ht.mono fun _ _ h=>.inl h)).trans (t9.mono fun _ _ h=>.inr h));have HXE:=Lib.hid (show zs.flatMap SD=xs by rw[←HXLO.out,List.take_of_length_le (by omega)]);clear hown hlt ht bRb bOb Tb;obtain⟨f0,f1,f2,f3,f4,f5,f6,f7,f8,f9,f10,f11,f12,f13⟩:=hR.f14;clear hR;go_wp2_with (refine stH (z+1+1) #[.int .i64 0,.int .i64 0,.slice O xs.length co,.slice none 0 0,.int .i64 0,.int .i64 0,.int .i64 0,.int .i64 0,.int .i64 0,.int .i64 0,.bool false,.int .i64 0,.int .i64 0,.bool false] bO9 ?_);intro w9 HF HTF;clear bO9 f0 f1 f2 f3 f4 f5 f6 f7 f8 f9 f10 f11 f12 f13;go_wp2;(try simp only[exS]);refine zbi HF.out ?_;unfold zfi;rw[show zcf b (6,c2,c3,c4,c5,c6)=({Rcp.none with plus:=xs,minus:=[]},0) by rw[HEY.out,HEP.out,HEM.out];rw[if_pos H33.out,HXE.out];rw[if_neg (by rw[HPT.out];simp)]];exact⟨_,rfl,⟨_,_,rfl,HRX.out w9 HTF.out,Row.nil _ _ _⟩,T9.trans' (F':=fun g=>g=z+1+1) HTF.out (fun i hi=>.inr (by have hi:i=z+1+1:=hi;have:=HZW.out;omega))⟩
 ·obtain⟨k0,k1,k2,k3,k4,k5⟩:=bC4.f6;have v0:=bV4.at0;have HSI:=Lib.hid (zx6 (HV.out _ T4) hpo hok 6 c2 c3 c4 c5 c6 c3 HC4P.out hp24 hnode);rw[HSD.out]at HSI;have hyl:=HSL.out c3
  obtain⟨ys,hyse⟩:∃ys,SD c3=ys:=⟨_,rfl⟩
  have HYS:=Lib.hid hyse;rw[hyse]at HSI hyl;clear hyse;have hws:y<(w3.alloc (.cells #[.int .i64 a1,.int .i64 kd,.bool a3,.bool true] 91)).heap.size:=bY4.lt;go_wp2_with fail;refine HSI.out.mono ?_;rintro _ w5 ⟨u5,rfl,hOy⟩;have t5:=hOy.tch;have bV5:=bV4.keep t5 id;have bC5:=bC4.keep t5 id;have bO5:=bO4.keep t5 id;have bY5:=bY4.keep t5 id;have T5:=T4.trans t5;have hsz5:=t5.size;have HRW:=Lib.hid (fun w' (t9:Tch (fun g=>g=y∨g=z+1+1) w5 w')=>Row.keepTo (P':=fun _=>True) (Row.own hOy.own (P:=fun g=>(w3.alloc (.cells #[.int .i64 a1,.int .i64 kd,.bool a3,.bool true] 91)).heap.size≤g) (fun g hg=>(hOy.own.lt g hg).1)) t9 (fun g _ hg=>⟨fun e9=>by have hg:(w3.alloc (.cells #[.int .i64 a1,.int .i64 kd,.bool a3,.bool true] 91)).heap.size≤g:=hg;rcases e9 with e9|e9<;>omega,trivial⟩));obtain⟨M,cm,rfl,_,_⟩:=hOy.form;clear HSI hOy k0 k1 k2 k3 k4 k5 v0 bV4 bC4 bO4 bY4 T4 t5 p3;go_wp2_with (refine zab rfl _ _ _ rfl y 3 (.slice M ys.length cm) (by rfl) (by rfl) rfl (by rfl) bY5 (by simp) ?_;refine Hid.out ?_);refine Lib.hid ?_;intro w6 bY6 ts6;(try simp only[List.setIfInBounds_toArray,List.set_cons_succ,List.set_cons_zero]at bY6);have bV6:=bV5.keep ts6 (by omega);have bC6:=bC5.keep ts6 (by omega);have bO6:=bO5.keep ts6 (by omega);have T6:=T5.trans' ts6 (fun i hi=>.inr (by have hi:i=y:=hi;have:=HZW.out;omega));have HMR:=Lib.hid (fun w' (t9:Tch (fun g=>g=y∨g=z+1+1) w6 w')=>HRW.out w' ((ts6.mono fun _ _ h=>.inl h).trans t9));clear bY5 bV5 bC5 bO5 T5 ts6;have k2:=bC6.at2
  have h33:¬c3=3:=fun h9=>by
   have h8:=HPT.out;rw[h9,zp3 hok]at h8
   cases h8
  have h33b:(c3==3)=false:=by simpa using h33
  have H33:=Lib.hid h33;clear h33;obtain⟨f0,f1,f2,f3,f4,f5,f6,f7,f8,f9,f10,f11,f12,f13⟩:=bY6.f14;clear bY6;go_wp2_with (refine stH (z+1+1) #[.int .i64 0,.int .i64 0,.slice none 0 0,.slice M ys.length cm,.int .i64 0,.int .i64 0,.int .i64 0,.int .i64 0,.int .i64 0,.int .i64 0,.bool false,.int .i64 0,.int .i64 0,.bool false] bO6 ?_);intro w9 HF HTF;clear bO6 f0 f1 f2 f3 f4 f5 f6 f7 f8 f9 f10 f11 f12 f13;go_wp2;(try simp only[exS]);refine zbi HF.out ?_;unfold zfi;rw[show zcf b (6,c2,c3,c4,c5,c6)=({Rcp.none with plus:=[],minus:=ys},0) by rw[HEY.out,HEP.out,HEM.out];rw[if_neg H33.out];rw[if_pos HPT.out,HYS.out]];exact⟨_,rfl,⟨_,_,rfl,Row.nil _ _ _,HMR.out w9 (HTF.out.mono fun _ _ h=>.inr h)⟩,T6.trans' (F':=fun g=>g=z+1+1) HTF.out (fun i hi=>.inr (by have hi:i=z+1+1:=hi;have:=HZW.out;omega))⟩
