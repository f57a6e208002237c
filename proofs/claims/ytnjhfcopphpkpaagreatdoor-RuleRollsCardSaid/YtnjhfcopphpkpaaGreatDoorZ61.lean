/-
  Forests: those above, those under, where two meet.
-/
import Derived.Test.YtnjhfcopphpkpaaGreatDoorZ64
import Derived.Test.YtnjhfcopphpkpaaGreatDoorZ21
set_option maxRecDepth 100000
set_option maxHeartbeats 6400000
namespace Go.Gk.V33
open Go.RowKit
def lenV:Value→Nat
 | .slice _ n _=>n
 |_=>0
end Go.Gk.V33
namespace Go.Proofs.YtnjhfcopphpkpaaGreatDoor
open Go.RowKit Go.Gk Go.Gk.V33
section
variable {w:World} {g n:Nat} {l:List Stk4} {p:Nat}
theorem fup_any (h:Blk w g 190 (holdsCells l n p n).toArray) (h40:n≤40) (hok:stakesOK l n=true) (h400:l.length≤400) (hp:p<24) {x:Int} (hx:1≤x∧x≤n):
 Calls Tryz.prog 310 #[.pointer (some ⟨g,0,none⟩),.int .i64 x] w fun e w'=>∃u,e=.returned u∧OutI w w' u (upsOf l p x):=by
 have HP:=Lib.hid (fun w' (t:Tf w w') i (hi:1≤i∧i≤(n:Int))=>by have:=fparent_any (h.keep t id) h40 i;rw[if_pos hi]at this;exact this);have HC:=Lib.hid (fun(out:List Int) (y:Int) (hc:Chain (fun y=>stkUp l y p) x out y)=>chain_new hp hok hc);have HR:=Lib.hid (fun y (hy:stkUp l y p≠0)=>up_range hok hy);have HP0:=Lib.hid (HP.out w (Tch.refl _ _) x hx);have HST:=Lib.hid (Chain.start (f:=fun y=>stkUp l y p) (e:=x));generalize hy0:stkUp l x p=y0 at *;have HY0:=Lib.hid hy0;clear h hy0;go_enter Tryz.func310,Tryz.ntmps310;go_wp2_with fail;refine HP0.out.mono ?_;rintro _ _ ⟨rfl,rfl⟩;clear HP0;go_wp2_with fail;go_loopw [5,6] (fun o i wr=>∃(xs:List Int) (y:Int),i=.int .i64 y∧Chain (fun y=>stkUp l y p) x xs y∧OutI w wr o xs) (fun o _ _=>1000-lenV o)
 case atStart=>exact⟨[],y0,rfl,HST.out,Outs.start _ _ _ (Tch.refl _ _)⟩
 case round=>
  obtain⟨xs,y,rfl,hc,hO⟩:=hrel;obtain⟨O,co,rfl,ho1,ho2⟩:=hO.form;have hxl:xs.length≤400:=Nat.le_trans (chain_len hc) h400;have HCH:=Lib.hid hc;by_cases hy:y=0
  ·subst hy;have HU:=Lib.hid (ups_chain hc);clear hc;go_wp2;go_ret;exact⟨_,rfl,by rw[HU.out];exact hO⟩
  ·have hyb:(y !=0)=true:=by simpa using hy
   have HN:=Lib.hid (Chain.step hc hy (HC.out xs y hc))
   have HYR:=Lib.hid (show 1≤y∧y≤(n:Int) by
    obtain⟨z,hz⟩:=hc.image.1;rw[hz]at hy⊢
    exact HR.out z hy)
   clear hc hy;go_wp2_with ((at_builtin;refine apd rowInts (hO.own.alloc _) (Go.Gk.Src.one (news:=[.int .i64 (y)]) rfl (fun m9 u9 hu9=>by rw[(Blk.new (wr) 3 #[.int .i64 (y)]).cell m9];simpa using hu9)) (by simp;rfl) ?_;intro v2 w2 ho2 hg2 hl2;have hO2:=hO.step (x:=y) (Tch.alloc _ _ _) ho2 hg2 hl2;obtain⟨O2,co2,rfl,_,_⟩:=own_form ho2));have HPY:=Lib.hid (HP.out _ hO2.tch y HYR.out);generalize stkUp l y p=y2 at *;refine HPY.out.mono ?_;rintro _ _ ⟨rfl,rfl⟩;clear HPY;go_wp2;go_roundw
   case rel=>exact⟨xs++[y],y2,rfl,HN.out,hO2⟩
   case measure=>simp[lenV]<;>omega
theorem funder_any (h:Blk w g 190 (holdsCells l n p n).toArray) (h40:n≤40) (hok:stakesOK l n=true) (h400:l.length≤400) (hp:p<24) {x:Int} (hx:1≤x∧x≤n) (top:Int):
 Calls Tryz.prog 312 #[.pointer (some ⟨g,0,none⟩),.int .i64 top,.int .i64 x] w fun e w'=>e=.returned (.bool (underOf l p top x))∧Tf w w':=by
 have HU:=Lib.hid (fup_any h h40 hok h400 hp hx);have HL:=Lib.hid (ups_len l p x);have HD:=Lib.hid (show underOf l p top x=(top==x||(upsOf l p x).contains top)from rfl);generalize underOf l p top x=R at *;generalize upsOf l p x=U at *;clear h;by_cases he:top=x
 ·have hb:(top==x)=true:=by simpa using he
  obtain rfl:R=true:=by rw[HD.out,hb];rfl
  clear HU HD he;go_enter Tryz.func312,Tryz.ntmps312;go_wp2;go_ret;exact⟨rfl,Tch.refl _ _⟩
 ·have hb:(top==x)=false:=by simpa using he
  have HD2:=Lib.hid (show R=U.contains top by rw[HD.out,hb];rfl);clear HD he;go_enter Tryz.func312,Tryz.ntmps312;go_wp2_with fail;refine HU.out.mono ?_;rintro _ w1 ⟨u,rfl,hO⟩;have HC:=Lib.hid (contains_any hO.row (by have:=HL.out;omega) top);rw[←HD2.out]at HC;obtain⟨O,co,rfl,_,_⟩:=hO.form;have HT:=Lib.hid hO.tch;clear HU hO;go_wp2_with fail;refine HC.out.mono ?_;rintro _ w2 ⟨rfl,t2⟩;go_wp2;go_ret;exact⟨rfl,HT.out.trans t2⟩
theorem funderc_any (h:Blk w g 190 (holdsCells l n p n).toArray) (h40:n≤40) (hok:stakesOK l n=true) (h400:l.length≤400) (hp:p<24) {z1 z2:Nat} {top:Int} (h1:w.cell? ⟨z1,0,none⟩=some (.pointer (some ⟨g,0,none⟩))) (h2:w.cell? ⟨z2,0,none⟩=some (.int .i64 top)) (i:Int) (hi:1≤i∧i≤n):
 Calls Tryz.prog 313 #[.int .i64 i,.pointer (some ⟨z1,0,none⟩),.pointer (some ⟨z2,0,none⟩)] w fun e w'=>e=.returned (.bool (underOf l p top i))∧Tf w w':=by
 have HU:=Lib.hid (funder_any h h40 hok h400 hp hi top);generalize underOf l p top i=R at *;clear h;go_enter Tryz.func313,Tryz.ntmps313;go_wp2_with fail;refine HU.out.mono ?_;rintro _ w1 ⟨rfl,t1⟩;go_wp2;go_ret;exact⟨rfl,t1⟩
theorem fmeetc_any (h:Blk w g 190 (holdsCells l n p n).toArray) (h40:n≤40) (hok:stakesOK l n=true) (h400:l.length≤400) (hp:p<24) {z1 z2:Nat} {b:Int} (h1:w.cell? ⟨z1,0,none⟩=some (.pointer (some ⟨g,0,none⟩))) (h2:w.cell? ⟨z2,0,none⟩=some (.int .i64 b)) (hb:1≤b∧b≤n) (t:Int):
 Calls Tryz.prog 311 #[.int .i64 t,.pointer (some ⟨z1,0,none⟩),.pointer (some ⟨z2,0,none⟩)] w fun e w'=>e=.returned (.bool (underOf l p t b))∧Tf w w':=by
 have HU:=Lib.hid (funder_any h h40 hok h400 hp hb t);generalize underOf l p t b=R at *;clear h;go_enter Tryz.func311,Tryz.ntmps311;go_wp2_with fail;refine HU.out.mono ?_;rintro _ w1 ⟨rfl,t1⟩;go_wp2;go_ret;exact⟨rfl,t1⟩
theorem fthoseu_any (h:Blk w g 190 (holdsCells l n p n).toArray) {z1 z2:Nat} {F:Int→Bool} (HK0:∀w':World,Tf w w'→∀i:Int,1≤i∧i≤(n:Int)→Calls Tryz.prog 313 #[.int .i64 i,.pointer (some ⟨z1,0,none⟩),.pointer (some ⟨z2,0,none⟩)] w' fun e w''=>e=.returned (.bool (F i))∧Tf w' w'') (h40:n≤40):
 Calls Tryz.prog 245 #[.pointer (some ⟨g,0,none⟩),.func (.func 313) #[] #[.pointer (some ⟨z1,0,none⟩),.pointer (some ⟨z2,0,none⟩)]] w fun e w'=>∃u,e=.returned u∧OutI w w' u ((accIds n).filter F):=by
 have HI:=Lib.hid (fun w' (t:Tf w w') i=>fis_any (h.keep t id) i);have HK:=Lib.hid HK0;clear HK0 h;go_enter Tryz.func245,Tryz.ntmps245;go_wp2_with fail;go_loopw [5,6] (fun out i wr=>∃(j:Nat) (xs:List Int),j≤n∧i=.int .i64 ((j:Int)+1)∧(accIds j).filter F=xs∧OutI w wr out xs) (fun _ i _=>n+1-(intOf i).toNat)
 case atStart=>exact⟨0,[],Nat.zero_le _,rfl,rfl,Outs.start _ _ _ (Tch.refl _ _)⟩
 case round=>
  obtain⟨j,xs,hj,rfl,hx,hO⟩:=hrel;obtain⟨O,co,rfl,ho1,ho2⟩:=hO.form
  have hxl:xs.length≤j:=by
   rw[←hx];exact Nat.le_trans (List.length_filter_le _ _) (by rw[accIds_len];omega)
  have HX:=Lib.hid hx;have hj0:=znn j;clear hx;by_cases hlt:j<n
  ·have hlt':(j:Int)<(n:Int):=by omega
   have HI1:=Lib.hid (HI.out wr hO.tch ((j:Int)+1));rw[decide_eq_true (show 1≤(j:Int)+1∧(j:Int)+1≤n by omega)]at HI1;have HK1:=Lib.hid (HK.out wr hO.tch ((j:Int)+1) (by omega));have HS:=Lib.hid (show(accIds (j+1)).filter F=xs++(if F ((j:Int)+1)then[(j:Int)+1]else[]) by rw[accIds_succ,filter_snoc,HX.out]);generalize F ((j:Int)+1)=f at *;go_wp2_with fail;refine HI1.out.mono ?_;rintro _ _ ⟨rfl,rfl⟩;clear HI1;go_wp2_with fail;refine HK1.out.mono ?_;rintro _ w1 ⟨rfl,t1⟩;clear HK1;have hO:=hO.keep t1
   cases f
   ·have HS:=Lib.hid (show(accIds (j+1)).filter F=xs by rw[HS.out];simp);go_wp2;go_roundw
    case rel=>exact⟨j+1,xs,by omega,by go_num,HS.out,hO⟩
    case measure=>simp[intOf];omega
   ·go_wp2_with ((at_builtin;refine apd rowInts (hO.own.alloc _) (Go.Gk.Src.one (news:=[.int .i64 ((j:Int)+1)]) rfl (fun m9 u9 hu9=>by rw[(Blk.new (w1) 3 #[.int .i64 ((j:Int)+1)]).cell m9];simpa using hu9)) (by simp;rfl) ?_;intro v2 w2 ho2 hg2 hl2;have hO2:=hO.step (x:=(j:Int)+1) (Tch.alloc _ _ _) ho2 hg2 hl2;obtain⟨O2,co2,rfl,_,_⟩:=own_form ho2));go_roundw
    case rel=>exact⟨j+1,_,by omega,by go_num,HS.out,hO2⟩
    case measure=>simp[intOf];omega
  ·obtain rfl:n=j:=by omega
   have HI1:=Lib.hid (HI.out wr hO.tch ((n:Int)+1));rw[decide_eq_false (show¬(1≤(n:Int)+1∧(n:Int)+1≤n) by omega)]at HI1;have e:=HX.out;subst e;go_wp2_with fail;refine HI1.out.mono ?_;rintro _ _ ⟨rfl,rfl⟩;go_wp2;go_ret;exact⟨_,rfl,hO⟩
theorem fUnder_any (h:Blk w g 190 (holdsCells l n p n).toArray) (h40:n≤40) (hok:stakesOK l n=true) (h400:l.length≤400) (hp:p<24) {x:Int} (hx:1≤x∧x≤n):
 Calls Tryz.prog 281 #[.pointer (some ⟨g,0,none⟩),.int .i64 x] w fun e w'=>∃u,e=.returned u∧OutI w w' u ((accIds n).filter (underOf l p x)):=by
 have ta:=tal w (.cells #[.pointer (some ⟨g,0,none⟩)] 89);have tb:=tal (w.alloc (.cells #[.pointer (some ⟨g,0,none⟩)] 89)) (.cells #[.int .i64 x] 3);have tw:=ta.trans tb;have bF:=(Blk.new w 89 #[.pointer (some ⟨g,0,none⟩)]).keep tb id;have bX:=Blk.new2 w (.cells #[.pointer (some ⟨g,0,none⟩)] 89) 3 #[.int .i64 x];have h2:=h.keep tw id;have HI:=Lib.hid (fis_any h2 x);rw[decide_eq_true hx]at HI;have HT:=Lib.hid (fthoseu_any (F:=underOf l p x) h2 (fun w' t i hi=>funderc_any (h2.keep t id) h40 hok h400 hp (t.cell_some (bF.cell 0) id) (t.cell_some (bX.cell 0) id) i hi) h40);have HTW:=Lib.hid tw;clear ta tb tw h h2 bF bX;go_enter Tryz.func281,Tryz.ntmps281;go_wp2_with fail;refine HI.out.mono ?_;rintro _ _ ⟨rfl,rfl⟩;go_wp2_with fail;refine HT.out.mono ?_;rintro _ w4 ⟨u,rfl,hO⟩;obtain⟨O,co,rfl,_,_⟩:=hO.form;go_wp2;go_ret;exact⟨_,rfl,hO.base HTW.out⟩
theorem findmeet_any {v:Value} {xs:List Int} (hv:RowsOf int1 1 (fun _=>True) w v xs) (hl:xs.length≤100000) {z1 z2:Nat} {F:Int→Bool} (HK0:∀w':World,Tf w w'→∀i:Int,Calls Tryz.prog 311 #[.int .i64 i,.pointer (some ⟨z1,0,none⟩),.pointer (some ⟨z2,0,none⟩)] w' fun e w''=>e=.returned (.bool (F i))∧Tf w' w''):
 Calls Tryz.prog 153 #[v,.func (.func 311) #[] #[.pointer (some ⟨z1,0,none⟩),.pointer (some ⟨z2,0,none⟩)]] w fun e w'=>((xs.find? F=none∧e=.returned (.int .i64 (-1)))∨∃j:Nat,∃hj:j<xs.length,xs.find? F=some xs[j]∧e=.returned (.int .i64 (j:Int)))∧Tf w w':=by
 have HK:=Lib.hid HK0;have HV:=Lib.hid (fun w' (t:Tf w w')=>hv.keep t);obtain⟨A,c,rfl,hc1,hc2⟩:=hv.form;clear HK0 hv;go_enter Tryz.func153,Tryz.ntmps153;go_wp2_with fail;go_loopw [8] (fun i wr=>∃j:Nat,j≤xs.length∧i=.int .i64 (j:Int)∧(∀i (hi:i<xs.length),i<j→F xs[i]=false)∧Tf w wr) (fun i _=>xs.length-(intOf i).toNat)
 case atStart=>exact⟨0,Nat.zero_le _,rfl,fun i hi h=>by omega,Tch.refl _ _⟩
 case round=>
  obtain⟨j,hj,rfl,hn,ht⟩:=hrel;have HN:=Lib.hid hn;have hj0:=znn j;clear hn;by_cases hlt:j<xs.length
  ·have hlt':(j:Int)<(xs.length:Int):=by omega
   have hl9:=HV.out wr ht;obtain⟨g,o,rfl⟩:=hl9.head (by omega);have q0:=Row.one hl9 int1_len hlt rfl;have HK1:=Lib.hid (HK.out wr ht xs[j]);have HF1:=Lib.hid (fun h1:F xs[j]=true=>find_at hlt h1 HN.out)
   have HF0:=Lib.hid (show F xs[j]=false→∀i (hi:i<xs.length),i<j+1→F xs[i]=false from fun h0 i hi h=>by
    by_cases e:i=j
    ·subst e;exact h0
    ·exact HN.out i hi (by omega))
   generalize hxj:xs[j]=x at *;generalize F x=f at *;have HXJ:=Lib.hid hxj;clear hl9 hxj;go_wp2_with fail;refine HK1.out.mono ?_;rintro _ w1 ⟨rfl,t1⟩
   cases f
   ·clear HK1 q0 HF1;go_wp2;go_roundw
    case rel=>exact⟨j+1,by omega,by go_num,HF0.out (by simp),ht.trans t1⟩
    case measure=>simp[intOf]<;>omega
   ·clear HK1 q0 HF0;go_wp2;(try rw[Exit.noGoto_ret]);go_ret;exact⟨.inr ⟨j,hlt,by rw[HF1.out (by simp),HXJ.out],rfl⟩,ht.trans t1⟩
  ·obtain rfl:j=xs.length:=by omega
   have hlt':¬(xs.length:Int)<(xs.length:Int):=by omega
   have HNO:=Lib.hid (find_no (F:=F) (xs:=xs) fun i hi=>HN.out i hi hi);go_wp2;go_ret;exact⟨.inl ⟨by simpa using HNO.out,rfl⟩,ht⟩
end
open Go.RowKit Go.Gk Go.Gk.V33
section
variable {w:World} {g n:Nat} {l:List Stk4} {p:Nat}
theorem own_int1 {w:World} {y:Nat} {a:Int} (h:Blk w y 3 #[.int .i64 a]):w.ownsRow 0 3 1 (.slice (some ⟨y,0,none⟩) 1 1) 1 [.int .i64 a]:=
 ⟨rfl,.inr ⟨y,1,#[.int .i64 a],rfl,Nat.zero_le _,h,Nat.le_refl _,by decide,rfl,rfl⟩⟩
theorem fmeet_any (h:Blk w g 190 (holdsCells l n p n).toArray) (h40:n≤40) (hok:stakesOK l n=true) (h400:l.length≤400) (hp:p<24) (a b:Int):
 Calls Tryz.prog 280 #[.pointer (some ⟨g,0,none⟩),.int .i64 a,.int .i64 b] w fun e w'=>e=.returned (.int .i64 (if(1≤a∧a≤n)∧(1≤b∧b≤n)then meetOf l p a b else 0))∧Tf w w':=by
 have ta:=tal w (.cells #[.pointer (some ⟨g,0,none⟩)] 89);have tb:=tal (w.alloc (.cells #[.pointer (some ⟨g,0,none⟩)] 89)) (.cells #[.int .i64 b] 3);have tw:=ta.trans tb;have bF:=(Blk.new w 89 #[.pointer (some ⟨g,0,none⟩)]).keep tb id;have bB:=Blk.new2 w (.cells #[.pointer (some ⟨g,0,none⟩)] 89) 3 #[.int .i64 b];have h2:=h.keep tw id;have HIA:=Lib.hid (fis_any h2 a);have HIB:=Lib.hid (fis_any h2 b);clear ta tb h
 obtain⟨R,hR⟩:∃R,(if(1≤a∧a≤(n:Int))∧(1≤b∧b≤(n:Int))then meetOf l p a b else 0)=R:=⟨_,rfl⟩
 rw[hR];have HR:=Lib.hid hR;clear hR;by_cases ha:1≤a∧a≤(n:Int)
 rotate_left
 ·obtain rfl:R=0:=by rw[←HR.out,if_neg (fun h=>ha h.1)]
  rw[decide_eq_false ha]at HIA;have HTW:=Lib.hid tw;clear HIB HR ha bF bB h2 tw;go_enter Tryz.func280,Tryz.ntmps280;go_wp2_with fail;refine HIA.out.mono ?_;rintro _ _ ⟨rfl,rfl⟩;go_wp2;go_ret;exact⟨rfl,HTW.out⟩
 by_cases hb:1≤b∧b≤(n:Int)
 rotate_left
 ·obtain rfl:R=0:=by rw[←HR.out,if_neg (fun h=>hb h.2)]
  rw[decide_eq_true ha]at HIA;rw[decide_eq_false hb]at HIB;have HTW:=Lib.hid tw;clear HR ha hb h2 tw;go_enter Tryz.func280,Tryz.ntmps280;go_wp2_with fail;refine HIA.out.mono ?_;rintro _ _ ⟨rfl,rfl⟩;go_wp2_with fail;refine HIB.out.mono ?_;rintro _ _ ⟨rfl,rfl⟩;go_wp2;go_ret;exact⟨rfl,HTW.out⟩
 rw[decide_eq_true ha]at HIA;rw[decide_eq_true hb]at HIB;have HR2:=Lib.hid (show((a::upsOf l p a).find? fun t=>underOf l p t b).getD 0=R by rw[←HR.out,if_pos ⟨ha,hb⟩];rfl);have HUP:=Lib.hid (fun w' (t:Tf _ w')=>fup_any (h2.keep t id) h40 hok h400 hp ha);have HMC:=Lib.hid (fun w' (t:Tf _ w') i=>fmeetc_any (h2.keep t id) h40 hok h400 hp (t.cell_some (bF.cell 0) id) (t.cell_some (bB.cell 0) id) hb i);have HL:=Lib.hid (ups_len l p a);clear HR ha hb h2;go_enter Tryz.func280,Tryz.ntmps280;go_wp2_with fail;refine HIA.out.mono ?_;rintro _ _ ⟨rfl,rfl⟩;go_wp2_with fail;refine HIB.out.mono ?_;rintro _ _ ⟨rfl,rfl⟩;clear HIA HIB;have tY:=tal ((w.alloc (.cells #[.pointer (some ⟨g,0,none⟩)] 89)).alloc (.cells #[.int .i64 b] 3)) (.cells #[.int .i64 a] 3);have bY:Blk (((w.alloc (.cells #[.pointer (some ⟨g,0,none⟩)] 89)).alloc (.cells #[.int .i64 b] 3)).alloc (.cells #[.int .i64 a] 3)) (w.heap.size+1+1) 3 #[.int .i64 a]:=by simpa using Blk.new ((w.alloc (.cells #[.pointer (some ⟨g,0,none⟩)] 89)).alloc (.cells #[.int .i64 b] 3)) 3 #[.int .i64 a]
 have bF2:=bF.keep tY id;have f0:=bF2.at0;have HTY:=Lib.hid tY;have HTW:=Lib.hid tw;have HUP1:=Lib.hid (HUP.out _ tY);clear bF bB tw tY;go_wp2_with fail;refine HUP1.out.mono ?_;rintro _ w1 ⟨u,rfl,hO⟩;have bY1:=bY.keep hO.tch id;have hrow:=hO.row;have T1:=(HTW.out.trans HTY.out).trans hO.tch;have t01:=HTY.out.trans hO.tch;obtain⟨O,co,rfl,ho1,ho2⟩:=hO.form;generalize upsOf l p a=U at *;have hul:U.length≤401:=by have:=HL.out;omega
 have hown:=own_int1 bY1;clear HUP HUP1 f0 bF2 bY bY1 hO;go_wp2_with (at_builtin;refine Hid.out ?_);refine Lib.hid ?_;refine apd rowInts hown hrow.src (by intro u9 hu9;obtain⟨x9,_,hx9⟩:=List.mem_flatMap.1 hu9;simp[int1]at hx9;subst hx9;rfl) ?_;intro v2 w2 ho3 hg2 hl2
 have hrow2:RowsOf int1 1 (fun _=>True) w2 v2 (a::U):=by
  have h:=Row.own (P:=fun _=>True) ho3 (fun _ _=>trivial);have e9:1+U.length=(a::U).length:=by simp[Nat.add_comm]
  unfold RowsOf;rw[←e9];simpa[int1]using h
 have tg:=Tch.grown (F:=fun g=>w.heap.size+1+1≤g) hg2 (fun k hk=>.inl (by have hk:some (w.heap.size+1+1)=some k:=hk;injection hk with hk;omega));have T2:=T1.trans' tg (fun i hi=>.inr (by have hi:w.heap.size+1+1≤i:=hi;omega));have t02:=t01.trans' tg (fun i hi=>.inr (by have hi:w.heap.size+1+1≤i:=hi;simp;omega));have HIX:=Lib.hid (findmeet_any (F:=fun t=>underOf l p t b) hrow2 (by simp;omega) (fun w' t9 i=>HMC.out w' (t02.trans t9) i));have HR3:=Lib.hid (fun w' (t9:Tf w2 w')=>hrow2.keep t9);have hwl:(a::U).length≤402:=by simp;omega
 obtain⟨V,cv,rfl,hv1,hv2⟩:=hrow2.form;generalize hway:a::U=way at *;clear hg2 hl2 ho3 hrow hown T1 t01 t02 tg hrow2 hway HMC;go_wp2_with fail;refine HIX.out.mono ?_;rintro _ w3 ⟨hix,t3⟩;have T3:=T2.trans t3
 rcases hix with⟨hno,rfl⟩|⟨j,hj,hfi,rfl⟩
 ·obtain rfl:R=0:=by rw[←HR2.out,hno];rfl
  clear HIX HR2 hno;go_wp2;go_ret;exact⟨rfl,T3⟩
 ·have hr:=HR3.out w3 t3;obtain⟨g9,o9,rfl⟩:=hr.head (by omega);have q0:=Row.one hr int1_len hj rfl;have hrj:R=way[j]:=by rw[←HR2.out,hfi];rfl
  have hj':(j:Int)<(way.length:Int):=by omega
  have hj0:=znn j;have hj1:¬(j:Int)<0:=by omega
  generalize way[j]=x at *;have HRX:=Lib.hid hrj;clear HIX HR2 hfi hr HR3 hrj;go_wp2;go_ret;exact⟨by rw[HRX.out];rfl,T3⟩
end
end Go.Proofs.YtnjhfcopphpkpaaGreatDoor
namespace Go.Gk.V33
def f2 (q:Int×Int):List Value:=[.int .i64 q.1,.int .i64 q.2]
theorem f2_len:∀q,(f2 q).length=2:=fun _=>rfl
theorem f2_one (q:Int×Int):∀u∈f2 q,u.oneCell'=true:=fun u hu=>by
 simp[f2]at hu;rcases hu with rfl|rfl<;>rfl
end Go.Gk.V33
namespace Go.Proofs.YtnjhfcopphpkpaaGreatDoor
open Go.RowKit Go.Gk Go.Gk.V33
theorem rowP2:RowTy Tryz.prog 273 275 (.agg #[.int .i64 0,.int .i64 0]) 2 16:=⟨Tryz.underlying273,by kernel_rfl,rfl,by decide⟩
theorem pmeet_any {w:World} {g n:Nat} {l:List Stk4} {p:Nat} (h:Blk w g 190 (holdsCells l n p n).toArray) (h40:n≤40) (hok:stakesOK l n=true) (h400:l.length≤400) (hp:p<24) {z1 z2:Nat} {node:Int} (h1:w.cell? ⟨z1,0,none⟩=some (.pointer (some ⟨g,0,none⟩))) (h2:w.cell? ⟨z2,0,none⟩=some (.int .i64 node)) (a b:Int) (ha:1≤a∧a≤n) (hb:1≤b∧b≤n):
 Calls Tryz.prog 279 #[.int .i64 a,.int .i64 b,.pointer (some ⟨z1,0,none⟩),.pointer (some ⟨z2,0,none⟩)] w fun e w'=>e=.returned (.bool (meetOf l p a b==node))∧Tf w w':=by
 have HM:=Lib.hid (fun w' (t:Tf w w')=>fmeet_any (h.keep t id) h40 hok h400 hp a b);simp only[if_pos (show(1≤a∧a≤(n:Int))∧(1≤b∧b≤(n:Int))from⟨ha,hb⟩)]at HM;generalize meetOf l p a b=m at *;have y1:=within_cell (F:=fun _=>False) h1 id;have y2:=within_cell (F:=fun _=>False) h2 id;clear h h1 h2 ha hb;go_enter Tryz.func279,Tryz.ntmps279;go_wp2_with fail;refine wp_touch (fun _=>False) [] 5 [(3,.inl (.int .i64 m))] [] ?_ ?_
 ·exact trivial
 intro bef _;iterate 3 (refine t_dq ?_;(try simp only[putS]))
 refine t_fix (.int .i64 m) (by rfl) (by rfl) (fun w2 hr hf=>?_) ?_
 ·refine yields_of_wp (d:=10) rfl (by simp) (fun K hK=>?_);go_step;refine(HM.out w2 ((Tch.drew _ w).trans hr)).mono ?_;rintro _ w3 ⟨rfl,t3⟩;exact hK _ _ ⟨⟨rfl,t3⟩,newAt_no⟩
 simp only[putS];(refine t_dq ?_;(try simp only[putS]));refine t_nil ?_;intro w2 hr hp1 hap;have t2:=(Tch.drew (fun _=>False) w).trans hr;clear hap hp1 hr y1 y2 HM;go_wp2;go_ret;exact⟨rfl,t2⟩
section
variable {w:World} {bv bi B t mr mp:Nat} {e a s r l n lv:Value} {fs:List Value} {b:Bks} {us:List (Ent×Value)}
theorem pairsof_x (h:Vw w bv bi B t mr mp e a s r l n lv fs b us) (hpo:(posts b.entries).length≤10000) (hok:booksOK b=true) {p:Nat} (hp:p<24) (node acc:Int) (hnode:1≤node∧node≤b.ents.length):
 Calls Tryz.prog 241 #[.pointer (some ⟨bv,0,none⟩),.int .i64 node,.int .i64 acc,.int .i64 (p:Int)] w fun x w'=>∃u:Value,x=.returned u∧Outs f2 2 275 w w' u (pairsD b node acc p):=by
 obtain⟨g,hg,hbg⟩:=h.forests p hp;obtain⟨h40,h400,hst⟩:=ok_stakes hok;have ta:=tal w (.cells #[.int .i64 node] 3);have tb:=tal (w.alloc (.cells #[.int .i64 node] 3)) (.cells #[.pointer (some ⟨g,0,none⟩)] 89);have tw:=ta.trans tb;have bN:=(Blk.new w 3 #[.int .i64 node]).keep tb id;have bF:=Blk.new2 w (.cells #[.int .i64 node] 3) 89 #[.pointer (some ⟨g,0,none⟩)];have HFO:=Lib.hid (vwforest_at (h.keep ta) hp hg);have HUN:=Lib.hid (fUnder_any (hbg.keep tw id) h40 hst h400 hp hnode);have HPM:=Lib.hid (fun w' (t9:Tf _ w') x y hx hy=>pmeet_any ((hbg.keep tw id).keep t9 id) h40 hst h400 hp (t9.cell_some (bF.cell 0) id) (t9.cell_some (bN.cell 0) id) x y hx hy);have HPA:=Lib.hid (fun w' (t9:Tf w w') ent=>vwpart_lt (h.keep t9) hpo ent acc (p:Int));have HPF:=Lib.hid (fun ent (zs:List Int) hn hm=>pts_are (e:=ent) (a:=acc) (p:=(p:Int)) (zs:=zs) hok hn hm);have HPL:=Lib.hid (fun ent=>show(ptsOf b ent acc p).length≤40 from Nat.le_trans (pts_len b ent acc p) h40);have HPI:=Lib.hid (fun ent q (hq:q∈ptsOf b ent acc p)=>pts_in hq);have HPD:=Lib.hid (pairs_under (b:=b) (a:=acc) (p:=(p:Int)) hnode.1);have HAT:=Lib.hid (fun x=>show pairsAt b node acc p x=((ptsOf b x acc p).filter fun y=>meetOf b.stakes p x y==node).map fun y=>(x,y)from rfl)
 obtain⟨PA,hPA⟩:∃PA:Int→List (Int×Int),pairsAt b node acc p=PA:=⟨_,rfl⟩
 obtain⟨PT,hPT⟩:∃PT:Int→List Int,(fun x=>ptsOf b x acc p)=PT:=⟨_,rfl⟩
 have HPT:∀x,ptsOf b x acc p=PT x:=fun x=>by rw[←hPT]
 simp only[HPT]at HPF HPL HPI HAT;rw[hPA]at HPD HAT;generalize pairsD b node acc p=PD at *;generalize underOf b.stakes (p:Int) node=UN at *;generalize hMF:(fun x q=>meetOf b.stakes (p:Int) x q)=MF at *;have HMF:∀x q,meetOf b.stakes (p:Int) x q=MF x q:=fun x q=>by rw[←hMF]
 simp only[HMF]at HPM HAT;have hsz:((w.alloc (.cells #[.int .i64 node] 3)).alloc (.cells #[.pointer (some ⟨g,0,none⟩)] 89)).heap.size=w.heap.size+2:=by simp
 have f0:=bF.at0;have f1:=bN.at0;have HTW:=Lib.hid tw;clear ta tb h hbg hMF HMF bN bF tw hPA hPT HPT;go_enter Tryz.func241,Tryz.ntmps241;go_wp2_with fail;refine HFO.out.mono ?_;rintro _ _ ⟨rfl,rfl⟩;clear HFO;go_wp2_with fail;refine HUN.out.mono ?_;rintro _ w1 ⟨u,rfl,hU⟩;have HR:=Lib.hid (fun w' (t9:Tf w1 w')=>hU.row.keep t9);have T1:=HTW.out.trans hU.tch;have t1:=hU.tch;obtain⟨O,co,rfl,ho1,ho2⟩:=hU.form;have HEI:=Lib.hid (show∀x∈(accIds b.ents.length).filter UN,(1≤x∧x≤(b.ents.length:Int))∧UN x=true from fun x hx=>⟨ids_iff.1 (List.mem_filter.1 hx).1,(List.mem_filter.1 hx).2⟩);have hel:((accIds b.ents.length).filter UN).length≤40:=Nat.le_trans (List.length_filter_le _ _) (by rw[accIds_len];exact h40);generalize(accIds b.ents.length).filter UN=L at *;clear HUN f0 f1 hU;go_wp2_with fail;go_loopw [11,26] (fun o i wr=>∃(j:Nat) (xs:List (Int×Int)),j≤L.length∧i=.int .i64 (j:Int)∧xs.length≤40*j∧(L.take j).flatMap PA=xs∧Outs f2 2 275 w1 wr o xs) (fun _ i _=>L.length-(intOf i).toNat)
 case atStart=>exact⟨0,[],Nat.zero_le _,rfl,Nat.le_refl _,rfl,Outs.start _ _ _ (Tch.refl _ _)⟩
 case round=>
  obtain⟨j,xs,hj,rfl,hxl,hlo,hO⟩:=hrel
  obtain⟨wj,hwj⟩:∃x,x=wr:=⟨_,rfl⟩
  subst hwj;obtain⟨Q,cq,rfl,hq1,hq2⟩:=hO.form;have HLOX:=Lib.hid hlo;have hj0:=znn j;clear hlo;by_cases hlt:j<L.length
  ·have hlt':(j:Int)<(L.length:Int):=by omega
   have hl9:=HR.out wj hO.tch;obtain⟨g9,o9,rfl⟩:=hl9.head (by omega);have q0:=Row.one hl9 int1_len hlt rfl;have HEX:=Lib.hid (HEI.out L[j] (List.getElem_mem hlt));have HNX:=Lib.hid (show(L.take (j+1)).flatMap PA=xs++PA L[j] by rw[List.take_succ_eq_append_getElem hlt,List.flatMap_append,HLOX.out];simp);generalize L[j]=x at *;have HPT:=Lib.hid (HPA.out wj (T1.trans hO.tch) x);clear hl9;go_wp2_with fail;refine HPT.out.mono ?_;rintro _ w2 ⟨u2,zs,rfl,hzr,hzn,hzm,_,t2⟩;obtain rfl:=HPF.out x zs hzn hzm;have hzl:=HPL.out x;have HZQ:=Lib.hid (HPI.out x);have HAX:=Lib.hid (HAT.out x);generalize PT x=zs at *;have HZR:=Lib.hid (fun w' (t9:Tch (fun g=>g<wj.heap.size) w2 w')=>Row.keepTo (P':=fun _=>True) hzr t9 (fun g _ hg=>⟨by omega,trivial⟩));obtain⟨Z,cz,rfl,hz1,hz2⟩:=hzr.form;have hO2:=hO.keep t2;have HOB0:=Lib.hid (fun g (hg:(Value.slice Q xs.length cq).ownBlock=some g)=>(hO.own.lt g hg).2);have hsz2:=t2.size;have hzl40:zs.length≤40:=hzl;clear HPT q0 hzr hzn hzm hO t2;go_wp2_with fail;go_loopw [11,36] (fun o i wr=>∃(k:Nat) (ys:List (Int×Int)),k≤zs.length∧i=.int .i64 (k:Int)∧ys.length≤40*j+k∧xs++((zs.take k).filter fun y=>MF x y==node).map (fun y=>(x,y))=ys∧Outs f2 2 275 w1 wr o ys∧(∀g,o.ownBlock=some g→g<wj.heap.size∨w2.heap.size≤g)∧Tch (fun g=>g<wj.heap.size) w2 wr) (fun _ i _=>zs.length-(intOf i).toNat)
   case atStart=>exact⟨0,xs,Nat.zero_le _,rfl,hxl,by simp,hO2,(fun g hg=>.inl (HOB0.out g hg)),Tch.refl _ _⟩
   case round=>
    obtain⟨k,ys,hk,rfl,hyl,hylo,hOy,hob,hty⟩:=hrel
    obtain⟨wk,hwk⟩:∃x,x=wr:=⟨_,rfl⟩
    subst hwk;obtain⟨Qy,cqy,rfl,hqy1,hqy2⟩:=hOy.form;have HYLO:=Lib.hid hylo;have HOB:=Lib.hid hob;have hk0:=znn k;clear hylo hob;by_cases hkt:k<zs.length
    ·have hkt':(k:Int)<(zs.length:Int):=by omega
     have hz9:=HZR.out wk hty;obtain⟨g8,o8,rfl⟩:=hz9.head (by omega);have q0:=Row.one hz9 int1_len hkt rfl;have HQX:=Lib.hid (HZQ.out zs[k] (List.getElem_mem hkt))
     have HNY:=Lib.hid (show xs++((zs.take (k+1)).filter fun y=>MF x y==node).map (fun y=>(x,y))=ys++(if(MF x zs[k]==node)=true then[(x,zs[k])]else[]) by
      rw[List.take_succ_eq_append_getElem hkt,filter_snoc,List.map_append,←List.append_assoc,HYLO.out];congr 1
      by_cases hh:(MF x zs[k]==node)=true<;>simp[hh])
     generalize zs[k]=q at *;have HPX:=Lib.hid (HPM.out wk (t1.trans hOy.tch) x q HEX.out.1 HQX.out);generalize(MF x q==node)=mb at *;have hyl9:ys.length≤1640:=by omega
     clear hz9;go_wp2_with fail;refine HPX.out.mono ?_;rintro _ w3 ⟨rfl,t3⟩;have hO3:=hOy.keep t3;have hty3:=hty.trans (Exn.touch t3);clear HPX q0 hOy hty t3
     cases mb
     ·have HNZ:=Lib.hid (show xs++((zs.take (k+1)).filter fun y=>MF x y==node).map (fun y=>(x,y))=ys by rw[HNY.out,if_neg (by simp),List.append_nil]);go_wp2;go_roundw
      case rel=>exact⟨k+1,ys,by omega,by go_num,by omega,HNZ.out,hO3,HOB.out,hty3⟩
      case measure=>simp[intOf]<;>omega
     ·have HNZ:=Lib.hid (show xs++((zs.take (k+1)).filter fun y=>MF x y==node).map (fun y=>(x,y))=ys++[(x,q)] by rw[HNY.out,if_pos rfl]);have hs3:=hty3.size;have hO3a:=hO3.keep (tal w3 (.cells #[.int .i64 x,.int .i64 q] 275));have hty4:=hty3.trans (Exn.touch (tal w3 (.cells #[.int .i64 x,.int .i64 q] 275)));have HBE:=Lib.hid (fun m9=>(Blk.new w3 275 #[.int .i64 x,.int .i64 q]).cell m9);clear hO3 hty3;go_wp2_with (at_builtin;refine Hid.out ?_);refine Lib.hid ?_;refine apd rowP2 hO3a.own (Go.Gk.Src.one (news:=f2 (x,q)) rfl (fun m9 u9 hu9=>by rw[HBE.out m9];simpa[f2]using hu9)) (f2_one _) ?_;intro v2 w4 ho2 hg2 hl2;have hO4:=hO3a.step (x:=(x,q)) (Tch.refl _ _) ho2 hg2 hl2;have hty5:=hty4.trans' (F':=fun g=>g<wj.heap.size∨w2.heap.size≤g) (Tch.grown hg2 (fun k9 e9=>.inl (HOB.out k9 e9))) (fun i hi=>hi)
      have HOB4:=Lib.hid (show∀g,v2.ownBlock=some g→g<wj.heap.size∨w2.heap.size≤g from fun g hg=>by
       rcases hl2 g hg with h9|h9
       ·exact HOB.out g h9
       ·have:=hty4.size;exact .inr (by omega))
      obtain⟨O2,co2,rfl,_,_⟩:=own_form ho2;clear hO3a hty4 ho2 hg2 hl2 HBE;go_wp2;go_roundw
      case rel=>exact⟨k+1,ys++[(x,q)],by omega,by go_num,by simp;omega,HNZ.out,by simpa using hO4,HOB4.out,hty5⟩
      case measure=>simp[intOf]<;>omega
    ·obtain rfl:k=zs.length:=by omega
     have hkt':¬(zs.length:Int)<(zs.length:Int):=by omega
     have HYZ:=Lib.hid (show(L.take (j+1)).flatMap PA=ys by
      rw[HNX.out,HAX.out];have h9:=HYLO.out;rw[List.take_length]at h9
      exact h9)
     clear hkt;go_wp2;go_roundw
     case rel=>exact⟨j+1,ys,by omega,by go_num,by omega,HYZ.out,hOy⟩
     case measure=>simp[intOf]<;>omega
  ·obtain rfl:j=L.length:=by omega
   have hlt':¬(L.length:Int)<(L.length:Int):=by omega
   have HXE:=Lib.hid (show xs=PD by rw[HPD.out,←HLOX.out,List.take_length]);have HTB:=Lib.hid (hO.base T1);clear hO;go_wp2;go_ret;exact⟨_,rfl,by rw[←HXE.out];exact HTB.out⟩
end
open Go.RowKit Go.Gk Go.Gk.V33
theorem sidec_any {w:World} {z1 z2:Nat} {acc c4 c5:Int} (h1:w.cell? ⟨z1,0,none⟩=some (.int .i64 acc)) (h2:w.cell? ⟨z2,3,none⟩=some (.int .i64 c4)) (h3:w.cell? ⟨z2,4,none⟩=some (.int .i64 c5)) (x y:Int):
 Calls Tryz.prog 242 #[.agg #[.int .i64 x,.int .i64 y],.pointer (some ⟨z1,0,none⟩),.pointer (some ⟨z2,0,none⟩)] w fun e w'=>e=.returned (.agg #[.int .i64 3,.int .i64 x,.int .i64 acc,.int .i64 c4,.int .i64 c5,.int .i64 y])∧Tf w w':=by
 have ta:=tal w (.cells #[.int .i64 x,.int .i64 y] 275);have tb:=tal (w.alloc (.cells #[.int .i64 x,.int .i64 y] 275)) (.cells #[.int .i64 3,.int .i64 x,.int .i64 acc,.int .i64 c4,.int .i64 c5,.int .i64 y] 31);have HF:=Lib.hid (Blk.new2 w (.cells #[.int .i64 x,.int .i64 y] 275) 31 #[.int .i64 3,.int .i64 x,.int .i64 acc,.int .i64 c4,.int .i64 c5,.int .i64 y]);have HT:=Lib.hid (ta.trans tb);have tz:=tal (w.alloc (.cells #[.int .i64 x,.int .i64 y] 275)) (.cells #[.int .i64 0,.int .i64 0,.int .i64 0,.int .i64 0,.int .i64 0,.int .i64 0] 31);have k1:=(ta.trans tz).cell_some h1 id;have k2:=(ta.trans tz).cell_some h2 id;have k3:=(ta.trans tz).cell_some h3 id;clear ta tb tz h1 h2 h3;go_enter Tryz.func242,Tryz.ntmps242;go_wp2_with fail;(try simp only[Exit.inBlock,Exit.then]);(try rw[Exit.noGoto_ret]);refine retR HF.out ?_;exact⟨rfl,HT.out⟩
theorem each2_any {w:World} {v:Value} {xs:List (Int×Int)} (hv:RowsOf f2 2 (fun _=>True) w v xs) (hl:xs.length≤1600) {z1 z2:Nat} {acc c4 c5:Int} (HK0:∀w':World,Tf w w'→∀x y:Int,Calls Tryz.prog 242 #[.agg #[.int .i64 x,.int .i64 y],.pointer (some ⟨z1,0,none⟩),.pointer (some ⟨z2,0,none⟩)] w' fun e w''=>e=.returned (.agg #[.int .i64 3,.int .i64 x,.int .i64 acc,.int .i64 c4,.int .i64 c5,.int .i64 y])∧Tf w' w''):
 Calls Tryz.prog 240 #[v,.func (.func 242) #[] #[.pointer (some ⟨z1,0,none⟩),.pointer (some ⟨z2,0,none⟩)]] w fun e w'=>∃u,e=.returned u∧Outs int6 6 31 w w' u (xs.map (sideG acc c4 c5)):=by
 have HK:=Lib.hid HK0;have HV:=Lib.hid (fun w' (t:Tf w w')=>hv.keep t);obtain⟨A,c,rfl,hc1,hc2⟩:=hv.form;clear HK0 hv;go_enter Tryz.func240,Tryz.ntmps240;go_wp2_with fail;go_loopw [5,10] (fun o i wr=>∃(j:Nat) (ys:List Rt6),j≤xs.length∧i=.int .i64 (j:Int)∧(xs.take j).map (sideG acc c4 c5)=ys∧Outs int6 6 31 w wr o ys) (fun _ i _=>xs.length-(intOf i).toNat)
 case atStart=>exact⟨0,[],Nat.zero_le _,rfl,rfl,Outs.start _ _ _ (Tch.refl _ _)⟩
 case round=>
  obtain⟨j,ys,hj,rfl,hys,hO⟩:=hrel;obtain⟨O,co,rfl,ho1,ho2⟩:=hO.form;have hyl:ys.length≤1600:=by rw[←hys,List.length_map,List.length_take];omega
  have HYS:=Lib.hid hys;have hj0:=znn j;clear hys;by_cases hlt:j<xs.length
  ·have hlt':(j:Int)<(xs.length:Int):=by omega
   have hl9:=HV.out wr hO.tch;obtain⟨g,o9,rfl⟩:=hl9.head (by omega);obtain⟨q0,q1⟩:=Row.two hl9 f2_len hlt rfl;have HN:=Lib.hid (show(xs.take (j+1)).map (sideG acc c4 c5)=ys++[sideG acc c4 c5 xs[j]] by rw[List.take_succ_eq_append_getElem hlt,List.map_append,HYS.out];rfl);generalize xs[j]=q at *;obtain⟨x,y⟩:=q;simp only at q0 q1;have tP:=tal wr (.cells #[.int .i64 x,.int .i64 y] 275);have bP:=Blk.new wr 275 #[.int .i64 x,.int .i64 y];have HK1:=Lib.hid (HK.out _ (hO.tch.trans tP) x y);have hO1:=hO.keep tP;obtain⟨p0,p1⟩:=bP.f2;clear hl9 tP bP hO;go_wp2_with fail;refine HK1.out.mono ?_;rintro _ w2 ⟨rfl,t2⟩;have hO2:=hO1.keep t2;clear HK1 p0 p1 q0 q1 hO1 t2;go_wp2_with (at_builtin;refine apd rowCells (hO2.own.alloc _) (Go.Gk.Src.one (news:=int6 (3,x,acc,c4,c5,y)) rfl (fun m9 u9 hu9=>by rw[(Blk.new w2 31 #[.int .i64 3,.int .i64 x,.int .i64 acc,.int .i64 c4,.int .i64 c5,.int .i64 y]).cell m9];simpa[int6]using hu9)) (one6 _) ?_;intro v2 w4 ho2 hg2 hl2;have hO4:=hO2.step (x:=(3,x,acc,c4,c5,y)) (Tch.alloc _ _ _) ho2 hg2 (fun g hg=>by simpa using hl2 g hg);obtain⟨O2,co2,rfl,_,_⟩:=own_form ho2);go_roundw
   case rel=>exact⟨j+1,_,by omega,by go_num,HN.out,by simpa[sideG]using hO4⟩
   case measure=>simp[intOf]<;>omega
  ·obtain rfl:j=xs.length:=by omega
   have hlt':¬(xs.length:Int)<(xs.length:Int):=by omega
   have hys:=HYS.out;rw[List.take_length]at hys;have HY2:=Lib.hid hys;clear hys;go_wp2;go_ret;exact⟨_,rfl,by rw[HY2.out];exact hO⟩
section
variable {w:World} {bv bi B t mr mp:Nat} {e a s r l n lv:Value} {fs:List Value} {b:Bks} {us:List (Ent×Value)}
theorem sides_x (h:Vw w bv bi B t mr mp e a s r l n lv fs b us) (hpo:(posts b.entries).length≤10000) (hok:booksOK b=true) (c1 c2 c3 c4 c5 c6 acc:Int) {p:Nat} (hc4:c4=(p:Int)) (hp:p<24) (hnode:1≤c2∧c2≤b.ents.length):
 Calls Tryz.prog 182 #[.pointer (some ⟨bv,0,none⟩),.agg #[.int .i64 c1,.int .i64 c2,.int .i64 c3,.int .i64 c4,.int .i64 c5,.int .i64 c6],.int .i64 acc] w fun x w'=>∃u:Value,x=.returned u∧Outs int6 6 31 w w' u (sidesD b (c1,c2,c3,c4,c5,c6) acc):=by
 subst hc4;have ta:=tal w (.cells #[.int .i64 c1,.int .i64 c2,.int .i64 c3,.int .i64 (p:Int),.int .i64 c5,.int .i64 c6] 31);have tb:=tal (w.alloc (.cells #[.int .i64 c1,.int .i64 c2,.int .i64 c3,.int .i64 (p:Int),.int .i64 c5,.int .i64 c6] 31)) (.cells #[.int .i64 acc] 3);have tw:=ta.trans tb;have bC:=(Blk.new w 31 #[.int .i64 c1,.int .i64 c2,.int .i64 c3,.int .i64 (p:Int),.int .i64 c5,.int .i64 c6]).keep tb id;have bA:=Blk.new2 w (.cells #[.int .i64 c1,.int .i64 c2,.int .i64 c3,.int .i64 (p:Int),.int .i64 c5,.int .i64 c6] 31) 3 #[.int .i64 acc];have HP:=Lib.hid (pairsof_x (h.keep tw) hpo hok hp c2 acc hnode);have hxl:=pairs_len (ok_stakes hok).1 c2 acc (p:Int);have HSD:=Lib.hid (show sidesD b (c1,c2,c3,(p:Int),c5,c6) acc=(pairsD b c2 acc p).map (sideG acc p c5)from rfl);generalize pairsD b c2 acc p=xs at *;have HS:=Lib.hid (fun w' (t9:Tf _ w') x y=>sidec_any (t9.cell_some (bA.cell 0) id) (t9.cell_some (bC.cell 3) id) (t9.cell_some (bC.cell 4) id) x y);have HTW:=Lib.hid tw;clear ta tb h tw bC bA;go_enter Tryz.func182,Tryz.ntmps182;go_wp2_with fail;refine HP.out.mono ?_;rintro _ w1 ⟨u,rfl,hO⟩;have HE:=Lib.hid (each2_any (acc:=acc) (c4:=(p:Int)) (c5:=c5) hO.row hxl (fun w' t9 x y=>HS.out w' (hO.tch.trans t9) x y));have T1:=HTW.out.trans hO.tch;obtain⟨O,co,rfl,_,_⟩:=hO.form;clear HP HS hO;go_wp2_with fail;refine HE.out.mono ?_;rintro _ w2 ⟨u2,rfl,hO2⟩;obtain⟨O2,co2,rfl,_,_⟩:=hO2.form;have HB:=Lib.hid (hO2.base T1);clear HE hO2;go_wp2;go_ret;exact⟨_,rfl,by rw[HSD.out];have h9:=HB.out;rw[List.length_map]at h9;exact h9⟩
theorem paccounts_x (h:Vw w bv bi B t mr mp e a s r l n lv fs b us) (hn:(accLeaves b.accs).length≤1000):
 Calls Tryz.prog 184 #[.pointer (some ⟨bv,0,none⟩)] w fun x w'=>∃u:Value,x=.returned u∧OutI w w' u (accsP b):=by
 have HL:=Lib.hid (vwleaves_any h hn)
 have HA:=Lib.hid (fun w' (t9:Tf w w') x (hx:x∈accLeaves b.accs)=>by
  obtain⟨k,hk,hkx,hka⟩:=accIs_at (leaves_are hx)
  exact(show∃a1 kd a3,Calls Tryz.prog 177 #[.pointer (some ⟨bv,0,none⟩),.int .i64 x] w' fun y w''=>y=.returned (.tuple #[.agg #[.int .i64 a1,.int .i64 kd,.bool a3,.bool (accPtn b x)],.bool true])∧Tf w' w'' from⟨b.accs[k].1,b.accs[k].2.1,b.accs[k].2.2.1,by rw[ptn_is (hk:=hk) hka];exact vwaccount_any (h.keep t9) hk x hkx⟩))
 have HAP:=Lib.hid (show accsP b=(accLeaves b.accs).filter (accPtn b)from rfl);generalize accPtn b=PB at *;generalize accsP b=AP at *;generalize accLeaves b.accs=L at *;clear h;go_enter Tryz.func184,Tryz.ntmps184;go_wp2_with fail;refine HL.out.mono ?_;rintro _ w1 ⟨u,rfl,hU⟩;have HR:=Lib.hid (fun w' (t9:Tf w1 w')=>hU.row.keep t9);have t1:=hU.tch;obtain⟨U,cu,rfl,hu1,hu2⟩:=hU.form;clear hU HL;go_wp2_with fail;go_loopw [3,11] (fun o i wr=>∃(j:Nat) (zs:List Int),j≤L.length∧i=.int .i64 (j:Int)∧zs.length≤j∧(L.take j).filter PB=zs∧OutI w1 wr o zs) (fun _ i _=>L.length-(intOf i).toNat)
 case atStart=>exact⟨0,[],Nat.zero_le _,rfl,Nat.le_refl _,rfl,Outs.start _ _ _ (Tch.refl _ _)⟩
 case round=>
  obtain⟨j,zs,hj,rfl,hzl,hzf,hO⟩:=hrel;have HZF:=Lib.hid hzf;clear hzf;obtain⟨O,co,rfl,ho1,ho2⟩:=hO.form;have hj0:=znn j;by_cases hlt:j<L.length
  ·have hlt':(j:Int)<(L.length:Int):=by omega
   have hl9:=HR.out wr hO.tch;obtain⟨g,o9,rfl⟩:=hl9.head (by omega);have q0:=Row.one hl9 int1_len hlt rfl;obtain⟨a1,kd,a3,hac⟩:=HA.out wr (t1.trans hO.tch) L[j] (List.getElem_mem hlt);have HAC:=Lib.hid hac;have HNF:=Lib.hid (show(L.take (j+1)).filter PB=zs++(if PB L[j]=true then[L[j]]else[]) by rw[take_filter PB hlt,HZF.out]);generalize L[j]=x at *;generalize PB x=a4 at *;clear hl9 hac;go_wp2_with fail;refine HAC.out.mono ?_;rintro _ w2 ⟨rfl,t2⟩;have tA:=tal w2 (.cells #[.int .i64 a1,.int .i64 kd,.bool a3,.bool a4] 81);have bA:=Blk.new w2 81 #[.int .i64 a1,.int .i64 kd,.bool a3,.bool a4];have hO:=hO.keep (t2.trans tA);have p3:=bA.at3;have hz9:zs.length≤1000:=by omega
   clear HAC q0 t2 tA bA
   cases a4
   ·have HNG:=Lib.hid (show(L.take (j+1)).filter PB=zs by rw[HNF.out,if_neg (by simp),List.append_nil]);go_wp2;go_roundw
    case rel=>exact⟨j+1,zs,by omega,by go_num,by omega,HNG.out,hO⟩
    case measure=>simp[intOf]<;>omega
   ·go_wp2_with ((at_builtin;refine apd rowInts (hO.own.alloc _) (Go.Gk.Src.one (news:=[.int .i64 (x)]) rfl (fun m9 u9 hu9=>by rw[(Blk.new2 (w2) (.cells #[.int .i64 a1,.int .i64 kd,.bool a3,.bool true] 81) 3 #[.int .i64 (x)]).cell m9];simpa using hu9)) (by simp;rfl) ?_;intro v2 w2 ho2 hg2 hl2;have hO2:=hO.step (x:=x) (Tch.alloc _ _ _) ho2 hg2 hl2;obtain⟨O2,co2,rfl,_,_⟩:=own_form ho2));go_roundw
    case rel=>exact⟨j+1,_,by omega,by go_num,by simp;omega,by rw[HNF.out];simp,hO2⟩
    case measure=>simp[intOf]<;>omega
  ·obtain rfl:j=L.length:=by omega
   have hlt':¬(L.length:Int)<(L.length:Int):=by omega
   have HZP:=Lib.hid (show zs=AP by rw[HAP.out,←HZF.out,List.take_length]);have HB:=Lib.hid (hO.base t1);have hz9:zs.length≤1000:=by omega
   clear hO;go_wp2;go_ret;exact⟨_,rfl,by rw[←HZP.out];exact HB.out⟩
