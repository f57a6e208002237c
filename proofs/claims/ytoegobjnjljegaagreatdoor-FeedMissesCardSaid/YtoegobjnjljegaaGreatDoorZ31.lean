/-
  Plain: what a node has: the parts that are added.
-/
import Derived.Test.YtoegobjnjljegaaGreatDoorZ27
set_option maxRecDepth 100000
set_option maxHeartbeats 1600000
namespace Go.Gk
theorem zdf (j:Nat):zal (j+1)=zal j++[(j:Int)+1]:=by
 unfold zal;rw[List.range_succ,List.map_append];rfl
theorem za5 (j:Nat):(zal j).length=j:=by unfold zal;simp
theorem zdg {α:Type} (F:α→Bool) (l:List α) (x:α):(l++[x]).filter F=l.filter F++(if F x then[x]else[]):=by
 rw[List.filter_append];congr 1;by_cases h:F x=true<;>simp[h]
def isKid (b:Bks) (x p:Int) (i:Int):Bool:=zam b.stakes i p==x
def zgk (b:Bks) (x p:Int):List Int:=if 1≤x∧x≤b.ents.length then(zal b.ents.length).filter (isKid b x p)else[]
def zcn (b:Bks):List Int:=(zag b.accs).filter (zfj b)
def ofC (c:Rt6) (r e a:Int):Rt6:=(r,e,a,c.2.2.2.1,c.2.2.2.2.1,0)
def zd0 (c:Rt6) (kids splits:List Int):List Rt6:=kids.flatMap fun k=>splits.map fun a=>ofC c 5 k a
def zco (c:Rt6) (kids splits:List Int):List Rt6:=ofC c 3 c.2.1 c.2.2.1::(kids.map (fun k=>ofC c 4 k c.2.2.1)++((if c.2.2.1=2 then zd0 c kids splits else[])++[ofC c 6 c.2.1 c.2.2.1]))
def zfz (b:Bks) (c:Rt6):Rcp×Int:=if za7 b c 7 7=0 then({Rcp.none with plus:=zco c (zgk b c.2.1 c.2.2.2.1) (zcn b)},0)else(Rcp.none,za7 b c 7 7)
theorem zp6 {b:Bks} {c:Rt6} {lo hi:Int} (h:za7 b c lo hi=0) (h4:3<lo):c.2.2.2.2.2=0:=by
 have hf:=zdo h;unfold za7 at h;by_cases h0:za3 c b.ents.length b.accs.length=0
 ·unfold za3 at h0;by_cases hc:zc2 c=true
  ·unfold zc2 at hc;simp only[Bool.and_eq_true,wi,decide_eq_true_eq]at hc;have h1:¬c.1≤3:=by omega
   rw[if_neg h1]at hc;omega
  ·rw[if_neg hc]at h0;cases h0
 ·rw[if_neg h0]at h;exact absurd h h0
theorem zi1 (b:Bks) (x p:Int):(zgk b x p).length≤b.ents.length:=by
 unfold zgk;split
 ·exact Nat.le_trans (List.length_filter_le _ _) (by rw[za5];omega)
 ·simp
theorem zni (b:Bks):(zcn b).length≤b.accs.length:=by
 unfold zcn zag;exact Nat.le_trans (List.length_filter_le _ _) (Nat.le_trans (List.length_filter_le _ _) (by rw[za5];omega))
end Go.Gk
namespace Go.Proofs.YtoegobjnjljegaaGreatDoor
open Go.RowKit Go.Gk
section
variable {w:World} {g n:Nat} {l:List zbv} {p:Int}
theorem fkid_any (h:Blk w g 176 (zah l n p n).toArray) (h40:n≤40) {z1 z2:Nat} {x:Int} (h1:w.cell? ⟨z1,0,none⟩=some (.func (.func 33) #[.pointer (some ⟨g,0,none⟩)] #[])) (h2:w.cell? ⟨z2,0,none⟩=some (iV x)) (i:Int) (hi:1≤i∧i≤n):
 Calls Tryz.prog 87 #[iV i,.pointer (some ⟨z1,0,none⟩),.pointer (some ⟨z2,0,none⟩)] w fun e w'=>e=.returned (.bool (zam l i p==x))∧Tf w w':=by
 have HP:=Lib.hid (fun w' (t:Tf w w')=>zl5 (h.keep t id) h40 i);simp only[if_pos hi]at HP;generalize zam l i p=u at *;have y1:=wc0 h1;have y2:=wc0 h2;clear h h1 h2 hi;go_enter Tryz.func87,Tryz.ntmps87;go_wp2_with fail;refine zai (fun _=>False) [] 4 [(2,.inl (iV u))] [] ?_ ?_
 ·exact trivial
 intro bef _;iterate 2 (refine zbt ?_;(try simp only[zaw]))
 refine zb3 (iV u) (by rfl) (by rfl) (fun w2 hr hf=>?_) ?_
 ·refine zaa (d:=7) rfl (by simp) (fun K hK=>?_);go_step;refine(HP.out w2 ((Tch.drew _ w).trans hr)).mono ?_;rintro _ _ ⟨rfl,rfl⟩;exact hK _ _ ⟨⟨rfl,Tch.refl _ _⟩,zaf⟩
 simp only[zaw];(refine zbt ?_;(try simp only[zaw]));refine za6 ?_;intro w2 hr hp1 hap;have t2:=(Tch.drew (fun _=>False) w).trans hr;clear hap hp1 hr y1 y2 HP;go_wp2;go_ret;exact⟨rfl,t2⟩
theorem zu6 (h:Blk w g 176 (zah l n p n).toArray) (h40:n≤40) {z1 z2:Nat} {x:Int} (h1:w.cell? ⟨z1,0,none⟩=some (.func (.func 33) #[.pointer (some ⟨g,0,none⟩)] #[])) (h2:w.cell? ⟨z2,0,none⟩=some (iV x)):
 Calls Tryz.prog 72 #[.pointer (some ⟨g,0,none⟩),.func (.func 87) #[] #[.pointer (some ⟨z1,0,none⟩),.pointer (some ⟨z2,0,none⟩)]] w fun e w'=>∃u,e=.returned u∧zet w w' u ((zal n).filter (fun i=>zam l i p==x)):=by
 obtain⟨F,hF⟩:∃F:Int→Bool,(fun i=>zam l i p==x)=F:=⟨_,rfl⟩
 rw[hF];have HI:=Lib.hid (fun w' (t:Tf w w') i=>zg5 (h.keep t id) i);have HK:=Lib.hid (fun w' (t:Tf w w') i hi=>fkid_any (h.keep t id) h40 (t.cell_some h1 id) (t.cell_some h2 id) i hi);have HKF:=Lib.hid (fun i=>show(zam l i p==x)=F i by rw[←hF]);simp only[HKF.out]at HK;clear hF HKF h h1 h2;go_enter Tryz.func72,Tryz.ntmps72;go_wp2_with fail;go_loopw [5,6] (fun out i wr=>∃(j:Nat) (xs:List Int),j≤n∧i=.int .i64 ((j:Int)+1)∧(zal j).filter F=xs∧zet w wr out xs) (fun _ i _=>n+1-(intOf i).toNat)
 case atStart=>exact⟨0,[],Nat.zero_le _,rfl,rfl,Outs.start _ _ _ (Tch.refl _ _)⟩
 case round=>
  obtain⟨j,xs,hj,rfl,hx,hO⟩:=hrel;obtain⟨O,co,rfl,ho1,ho2⟩:=hO.form
  have hxl:xs.length≤j:=by
   rw[←hx];exact Nat.le_trans (List.length_filter_le _ _) (by rw[za5];omega)
  have HX:=Lib.hid hx;have hj0:=znn j;clear hx;by_cases hlt:j<n
  ·have hlt':(j:Int)<(n:Int):=by omega
   have HI1:=Lib.hid (HI.out wr hO.tch ((j:Int)+1));rw[decide_eq_true (show 1≤(j:Int)+1∧(j:Int)+1≤n by omega)]at HI1;have HK1:=Lib.hid (HK.out wr hO.tch ((j:Int)+1) (by omega));have HS:=Lib.hid (show(zal (j+1)).filter F=xs++(if F ((j:Int)+1)then[(j:Int)+1]else[]) by rw[zdf,zdg,HX.out]);generalize F ((j:Int)+1)=f at *;go_wp2_with fail;refine HI1.out.mono ?_;rintro _ _ ⟨rfl,rfl⟩;clear HI1;go_wp2_with fail;refine HK1.out.mono ?_;rintro _ w1 ⟨rfl,t1⟩;clear HK1;have hO:=hO.keep t1
   cases f
   ·have HS:=Lib.hid (show(zal (j+1)).filter F=xs by rw[HS.out];simp);go_wp2;go_roundw
    case rel=>exact⟨j+1,xs,by omega,by go_num,HS.out,hO⟩
    case measure=>simp[intOf];omega
   ·go_wp2_with ((at_builtin;refine apd zaj (hO.own.alloc _) (Go.Gk.Src.one (news:=[iV ((j:Int)+1)]) rfl (fun m9 u9 hu9=>by rw[(Blk.new (w1) 3 #[iV ((j:Int)+1)]).cell m9];simpa using hu9)) (by simp;rfl) ?_;intro v2 w2 ho2 hg2 hl2;have hO2:=hO.step (x:=(j:Int)+1) (Tch.alloc _ _ _) ho2 hg2 hl2;obtain⟨O2,co2,rfl,_,_⟩:=zac ho2));go_roundw
    case rel=>exact⟨j+1,_,by omega,by go_num,HS.out,hO2⟩
    case measure=>simp[intOf];omega
  ·obtain rfl:n=j:=by omega
   have HI1:=Lib.hid (HI.out wr hO.tch ((n:Int)+1));rw[decide_eq_false (show¬(1≤(n:Int)+1∧(n:Int)+1≤n) by omega)]at HI1;have e:=HX.out;subst e;go_wp2_with fail;refine HI1.out.mono ?_;rintro _ _ ⟨rfl,rfl⟩;go_wp2;go_ret;exact⟨_,rfl,hO⟩
theorem zoj (h:Blk w g 176 (zah l n p n).toArray) (h40:n≤40) (x:Int):
 Calls Tryz.prog 34 #[.pointer (some ⟨g,0,none⟩),iV x] w fun e w'=>∃u,e=.returned u∧zet w w' u (if 1≤x∧x≤n then(zal n).filter (fun i=>zam l i p==x)else[]):=by
 have tw:=tal w (.cells #[iV x] 3);have bx:=Blk.new w 3 #[iV x];have HI:=Lib.hid (fun x=>zg5 (h.keep tw id) x);by_cases hin:1≤x∧x≤n
 ·have HI1:=Lib.hid (HI.out x);rw[decide_eq_true hin]at HI1;rw[if_pos hin];have q0:=bx.at0;go_enter Tryz.func34,Tryz.ntmps34;go_wp2_with fail;refine HI1.out.mono ?_;rintro _ _ ⟨rfl,rfl⟩;have tf:=tal (w.alloc (.cells #[iV x] 3)) (.cells #[.nilFunc] 86);have bf:=Blk.new2 w (.cells #[iV x] 3) 86 #[.nilFunc];have bx2:=bx.keep tf id;have h2:=(h.keep tw id).keep tf id;have hg:=h.lt;have tt:=tw.trans tf;have hsz:((w.alloc (.cells #[iV x] 3)).alloc (.cells #[.nilFunc] 86)).heap.size=w.heap.size+2:=by simp
  clear HI HI1 q0 h tw tf bx;go_wp2_with (refine zab rfl _ _ _ rfl (w.heap.size+1) 0 (.func (.func 33) #[.pointer (some ⟨g,0,none⟩)] #[]) (by rfl) (by rfl) rfl (by rfl) bf (by simp) ?_;refine Hid.out ?_);refine Lib.hid ?_;intro w3 b3 ts;(try simp only[List.setIfInBounds_toArray,List.set_cons_succ,List.set_cons_zero]at b3);have hb3:=h2.keep ts (by omega);have x3:=bx2.keep ts (by omega);have t3:=tt.trans' (F':=fun g=>g=w.heap.size+1) ts (fun i hi=>.inr (by have hi:i=w.heap.size+1:=hi;omega));have HT:=Lib.hid (zu6 hb3 h40 b3.at0 x3.at0);have T3:=Lib.hid t3;clear bf bx2 h2 ts b3 hb3 x3 tt hsz t3;go_wp2_with fail;refine HT.out.mono ?_;rintro _ w4 ⟨u,rfl,hO⟩;obtain⟨O,co,rfl,_,_⟩:=hO.form;go_wp2;go_ret;exact⟨_,rfl,hO.base T3.out⟩
 ·have HI1:=Lib.hid (HI.out x);rw[decide_eq_false hin]at HI1;rw[if_neg hin];have q0:=bx.at0;go_enter Tryz.func34,Tryz.ntmps34;go_wp2_with fail;refine HI1.out.mono ?_;rintro _ _ ⟨rfl,rfl⟩;go_wp2;go_ret;exact⟨_,rfl,Outs.start _ _ _ tw⟩
