/-
  The document's whole numbers: as numbers of 64 bits.
-/
import Derived.Test.YtoegobjnjljegaaGreatDoorZ6
import Derived.Laws.Externs
set_option maxRecDepth 100000
set_option maxHeartbeats 800000
namespace Go.Gk
theorem zo3 {l:List Nat} {k:Nat} (h:k<l.length):zbe (l.drop k)=l.getD k 0+10*zbe (l.drop (k+1)):=by
 rw[List.drop_eq_getElem_cons h,zbe];simp[h]
theorem zjz (l:List Nat):∀k,zbe (l.drop k)≤zbe l
 |0=>by simp
 |k+1=>by
  by_cases h:k<l.length
  ·have:=zo3 h;have:=zjz l k;omega
  ·rw[List.drop_eq_nil_of_le (by omega)];exact Nat.zero_le _
end Go.Gk
namespace Go.Proofs.YtoegobjnjljegaaGreatDoor
open Go.RowKit Go.Gk
theorem int_low {B:Nat→Prop} {w:World} {v:Value} {x:Int} (hx:BigIs B w v x) (nx:(dg x.natAbs).length≤50000) (hlt:x< -9223372036854775808) (hB:∀g,w.heap.size≤g→B g):
 Calls Tryz.prog 30 #[v] w fun e w'=>e=.returned (.tuple #[iV 0,.bool false])∧Tf w w':=by
 have hO:=fun(w':World) (t:Tf w w')=>zft (B:=B) (w:=w') (x:= -9223372036854775808) (by decide) (by decide) (fun g hg=>hB g (Nat.le_trans t.size hg))
 have hC:=fun(w':World) (u:Value) (t:Tf w w') (h:BigIs B w' u (-9223372036854775808))=>zh0 (hx.keep t) h nx (Nat.le_trans (zfl 64 (by decide)) (by decide)) (fun g hg=>hB g (Nat.le_trans t.size hg))
 rw[if_pos hlt]at hC;have HO:=Hid.out (p:=Hid _) hO;have HC:=Hid.out (p:=Hid _) hC;obtain⟨du,rfl,hu⟩:=hx;obtain⟨A,c,rfl,_,_⟩:=hu.form;clear hO hC hu nx hlt;generalize(dg x.natAbs).length=lx at *;generalize decide (x<0)=sx at *;have hb:=Blk.new w 83 #[.bool sx,.slice A lx c];have tw:=tal w (.cells #[.bool sx,.slice A lx c] 83)
 obtain⟨V,hV⟩:∃V:Value→World→Prop,V=fun d w'=>BigIs B w' d (-9223372036854775808):=⟨_,rfl⟩
 have HV:=Hid.out (p:=Hid (V=_)) hV;clear hV;go_enter Tryz.func30,Tryz.ntmps30;go_wp2_with fail;generalize w.alloc (.cells #[.bool sx,.slice A lx c] 83)=W at *;generalize hz:w.heap.size=z at *;have HZ:=Hid.out (p:=Hid (w.heap.size=z)) hz;clear hz;obtain⟨c0,c1⟩:=hb.w2;refine za4 (fun _=>False) [] 7 [(1,.inr V),(2,.inl (iV (-1))),(6,.inr fun _ _=>True)] [] (by kernel_rfl) rfl (by kernel_rfl) rfl (fun d _ _ _ _ h=>by cases d<;>exact h) ?_ ?_
 ·rw[HV.out];exact⟨fun u a b hr h=>h.keep hr,fun _ _ _ _ _=>trivial,trivial⟩
 intro bef ops hbef hops;have hb1:(bef.getD 2 0).testBit 1=true:=by rw[hbef];kernel_rfl
 clear hbef;subst hops;simp only[List.take_succ_cons,List.take_zero,List.drop_succ_cons,List.drop_zero];iterate 1 (refine zgv (by rfl) (by rfl) (by rfl) (by rfl) (fun K hK=>?_);go_big_quiet_op;(first|refine hK _ ?_|refine⟨_,fun _=>rfl,hK _ ?_⟩);clear hK K)
 refine zaq (by rfl) (by rfl) (fun w1 hr hf=>?_) (fun d=>?_)
 ·refine zaa (d:=7) rfl (by simp) (fun K hK=>?_);go_step;refine(HO.out w1 (tw.trans ((Tch.drew _ W).trans hr))).mono ?_;rintro e w2 ⟨v',rfl,ho,t2⟩;refine hK _ _ ⟨⟨?_,t2⟩,zaf⟩;rw[HV.out];exact ho
 simp only[Act.put,List.setIfInBounds_toArray,List.set_cons_succ,List.set_cons_zero];refine zb3 (iV (-1)) (by rfl) (by rfl) (fun w1 hr hf=>?_) ?_
 ·have hv:=hf (1,V d) (List.mem_singleton.2 rfl) hb1;rw[HV.out]at hv;have hC:=HC.out w1 d (tw.trans ((Tch.drew _ W).trans hr)) hv;refine zaa (d:=8) rfl (by simp) (fun K hK=>?_);obtain⟨dd,rfl,_⟩:=hv;generalize decide ((-9223372036854775808:Int)<0)=sn at *;go_step;refine hC.mono ?_;rintro e w2 ⟨rfl,t2⟩;exact hK _ _ ⟨⟨rfl,t2⟩,zaf⟩
 simp only[Act.put,List.setIfInBounds_toArray,List.set_cons_succ,List.set_cons_zero];iterate 2 (refine zgv (by rfl) (by rfl) (by rfl) (by rfl) (fun K hK=>?_);go_big_quiet_op;(first|refine hK _ ?_|refine⟨_,fun _=>rfl,hK _ ?_⟩);clear hK K)
 refine zm8 (by rfl) ?_;refine zm8 (by rfl) ?_;refine za6 ?_;intro w1 hr hp hap;have t1:=tw.trans ((Tch.drew _ W).trans hr);simp only[Act.put,List.setIfInBounds_toArray,List.set_cons_succ,List.set_cons_zero];clear hap hp c0 c1 hb1 hr;go_wp2;go_ret2
 exact⟨rfl,t1⟩
theorem int_high {B:Nat→Prop} {w:World} {v:Value} {x:Int} (hx:BigIs B w v x) (nx:(dg x.natAbs).length≤50000) (hgt:9223372036854775807<x) (hB:∀g,w.heap.size≤g→B g):
 Calls Tryz.prog 30 #[v] w fun e w'=>e=.returned (.tuple #[iV 0,.bool false])∧Tf w w':=by
 have hO:=fun(w':World) (t:Tf w w')=>zft (B:=B) (w:=w') (x:= -9223372036854775808) (by decide) (by decide) (fun g hg=>hB g (Nat.le_trans t.size hg))
 have hO2:=fun(w':World) (t:Tf w w')=>zft (B:=B) (w:=w') (x:=9223372036854775807) (by decide) (by decide) (fun g hg=>hB g (Nat.le_trans t.size hg))
 have hC:=fun(w':World) (u:Value) (t:Tf w w') (h:BigIs B w' u (-9223372036854775808))=>zh0 (hx.keep t) h nx (Nat.le_trans (zfl 64 (by decide)) (by decide)) (fun g hg=>hB g (Nat.le_trans t.size hg))
 have hC2:=fun(w':World) (u:Value) (t:Tf w w') (h:BigIs B w' u 9223372036854775807)=>zh0 (hx.keep t) h nx (Nat.le_trans (zfl 64 (by decide)) (by decide)) (fun g hg=>hB g (Nat.le_trans t.size hg))
 rw[if_neg (by omega),if_pos (by omega)]at hC;rw[if_neg (by omega),if_pos hgt]at hC2;have HO:=Hid.out (p:=Hid _) hO;have HO2:=Hid.out (p:=Hid _) hO2;have HC:=Hid.out (p:=Hid _) hC;have HC2:=Hid.out (p:=Hid _) hC2;obtain⟨du,rfl,hu⟩:=hx;obtain⟨A,c,rfl,hcA1,hcA2⟩:=hu.form;clear hO hO2 hC hC2;clear hu nx hgt;generalize(dg x.natAbs).length=lx at *;generalize decide (x<0)=sx at *;have hb:=Blk.new w 83 #[.bool sx,.slice A lx c];have tw:=tal w (.cells #[.bool sx,.slice A lx c] 83)
 obtain⟨V,hV⟩:∃V:Value→World→Prop,V=fun d w'=>BigIs B w' d (-9223372036854775808):=⟨_,rfl⟩
 obtain⟨V2,hV2⟩:∃V:Value→World→Prop,V=fun d w'=>BigIs B w' d 9223372036854775807:=⟨_,rfl⟩
 have HV:=Hid.out (p:=Hid (V=_)) hV;have HV2:=Hid.out (p:=Hid (V2=_)) hV2;clear hV hV2;go_enter Tryz.func30,Tryz.ntmps30;go_wp2_with fail;generalize w.alloc (.cells #[.bool sx,.slice A lx c] 83)=W at *;generalize hz:w.heap.size=z at *;have HZ:=Hid.out (p:=Hid (w.heap.size=z)) hz;clear hz;obtain⟨c0,c1⟩:=hb.w2;refine za4 (fun _=>False) [] 7 [(1,.inr V),(2,.inl (iV 1)),(6,.inr V2)] [] (by kernel_rfl) rfl (by kernel_rfl) rfl (fun d _ _ _ _ h=>by cases d<;>exact h) ?_ ?_
 ·rw[HV.out,HV2.out];exact⟨fun u a b hr h=>h.keep hr,fun u a b hr h=>h.keep hr,trivial⟩
 intro bef ops hbef hops;have hb1:(bef.getD 2 0).testBit 1=true:=by rw[hbef];kernel_rfl
 clear hbef;subst hops;simp only[List.take_succ_cons,List.take_zero,List.drop_succ_cons,List.drop_zero];iterate 1 (refine zgv (by rfl) (by rfl) (by rfl) (by rfl) (fun K hK=>?_);go_big_quiet_op;(first|refine hK _ ?_|refine⟨_,fun _=>rfl,hK _ ?_⟩);clear hK K)
 refine zaq (by rfl) (by rfl) (fun w1 hr hf=>?_) (fun d=>?_)
 ·refine zaa (d:=7) rfl (by simp) (fun K hK=>?_);go_step;refine(HO.out w1 (tw.trans ((Tch.drew _ W).trans hr))).mono ?_;rintro e w2 ⟨v',rfl,ho,t2⟩;refine hK _ _ ⟨⟨?_,t2⟩,zaf⟩;rw[HV.out];exact ho
 simp only[Act.put,List.setIfInBounds_toArray,List.set_cons_succ,List.set_cons_zero];refine zb3 (iV 1) (by rfl) (by rfl) (fun w1 hr hf=>?_) ?_
 ·have hv:=hf (1,V d) (List.mem_singleton.2 rfl) hb1;rw[HV.out]at hv;have hC:=HC.out w1 d (tw.trans ((Tch.drew _ W).trans hr)) hv;refine zaa (d:=8) rfl (by simp) (fun K hK=>?_);obtain⟨dd,rfl,_⟩:=hv;generalize decide ((-9223372036854775808:Int)<0)=sn at *;go_step;refine hC.mono ?_;rintro e w2 ⟨rfl,t2⟩;exact hK _ _ ⟨⟨rfl,t2⟩,zaf⟩
 simp only[Act.put,List.setIfInBounds_toArray,List.set_cons_succ,List.set_cons_zero];iterate 3 (refine zgv (by rfl) (by rfl) (by rfl) (by rfl) (fun K hK=>?_);go_big_quiet_op;(first|refine hK _ ?_|refine⟨_,fun _=>rfl,hK _ ?_⟩);clear hK K)
 refine zaq (by rfl) (by rfl) (fun w1 hr hf=>?_) (fun d2=>?_)
 ·refine zaa (d:=12) rfl (by simp) (fun K hK=>?_);go_step;refine(HO2.out w1 (tw.trans ((Tch.drew _ W).trans hr))).mono ?_;rintro e w2 ⟨v',rfl,ho,t2⟩;refine hK _ _ ⟨⟨?_,t2⟩,zaf⟩;rw[HV2.out];exact ho
 refine za6 ?_;intro w1 hr hp hap;have hv:=hp (6,V2 d2) (List.mem_cons_self ..);dsimp only at hv
 rw[HV2.out]at hv;have t1:=tw.trans ((Tch.drew _ W).trans hr);have hb4:=hb.keep ((Tch.drew (fun _=>False) W).trans hr) id;have hC:=HC2.out w1 d2 t1 hv;obtain⟨dd,rfl,_⟩:=hv;generalize decide ((9223372036854775807:Int)<0)=sn at *;simp only[Act.put,List.setIfInBounds_toArray,List.set_cons_succ,List.set_cons_zero];clear hap hp c0 c1 hb1 hr HO HO2 HC HC2 HV HV2 hb tw;go_wp2_with fail;refine hC.mono ?_;rintro e w2 ⟨rfl,t2⟩;clear hC hb4;go_wp2;go_ret2
 exact⟨rfl,t1.trans t2⟩
open Go.RowKit Go.Gk
theorem int_in {B:Nat→Prop} {w:World} {v:Value} {x:Int} (hx:BigIs B w v x) (nx:(dg x.natAbs).length≤50000) (h1: -9223372036854775808≤x) (h2:x≤9223372036854775807) (hB:∀g,w.heap.size≤g→B g):
 Calls Tryz.prog 30 #[v] w fun e w'=>e=.returned (.tuple #[iV x,.bool true])∧Tf w w':=by
 have hO:=fun(w':World) (t:Tf w w')=>zft (B:=B) (w:=w') (x:= -9223372036854775808) (by decide) (by decide) (fun g hg=>hB g (Nat.le_trans t.size hg))
 have hO2:=fun(w':World) (t:Tf w w')=>zft (B:=B) (w:=w') (x:=9223372036854775807) (by decide) (by decide) (fun g hg=>hB g (Nat.le_trans t.size hg))
 have hC:=fun(w':World) (u:Value) (t:Tf w w') (h:BigIs B w' u (-9223372036854775808))=>zh0 (hx.keep t) h nx (Nat.le_trans (zfl 64 (by decide)) (by decide)) (fun g hg=>hB g (Nat.le_trans t.size hg))
 have hC2:=fun(w':World) (u:Value) (t:Tf w w') (h:BigIs B w' u 9223372036854775807)=>zh0 (hx.keep t) h nx (Nat.le_trans (zfl 64 (by decide)) (by decide)) (fun g hg=>hB g (Nat.le_trans t.size hg))
 have hr1:∃r1:Int,(if x< -9223372036854775808 then(-1:Int)else if -9223372036854775808<x then 1 else 0)=r1∧decide (r1<0)=false:=by
  rw[if_neg (by omega)];split<;>exact⟨_,rfl,by decide⟩
 have hr2:∃r2:Int,(if x<9223372036854775807 then(-1:Int)else if 9223372036854775807<x then 1 else 0)=r2∧decide (0<r2)=false∧¬0<r2:=by
  split
  ·exact⟨_,rfl,by decide,by decide⟩
  ·rw[if_neg (by omega)];exact⟨_,rfl,by decide,by decide⟩
 obtain⟨r1,e1,hr1⟩:=hr1;obtain⟨r2,e2,hr2,hr2'⟩:=hr2;rw[e1]at hC;rw[e2]at hC2;clear e1 e2;have HO:=Hid.out (p:=Hid _) hO;have HO2:=Hid.out (p:=Hid _) hO2;have HC:=Hid.out (p:=Hid _) hC;have HC2:=Hid.out (p:=Hid _) hC2;obtain⟨du,rfl,hu⟩:=hx;obtain⟨A,c,rfl,hcA1,hcA2⟩:=hu.form;clear hO hO2 hC hC2;have hd:=za0 x.natAbs;generalize hL:dg x.natAbs=L at *;have HL:=Hid.out (p:=Hid (L.length≤50000)) nx
 have hX:(if decide (x<0)then -((zbe L:Nat):Int)else((zbe L:Nat):Int))=x:=by
  rw[hd];by_cases h:x<0
  ·rw[if_pos (decide_eq_true h)];omega
  ·rw[if_neg (by simpa using h)];omega
 have HX:=Hid.out (p:=Hid _) hX
 have hD:∀k,zbe (L.drop k)≤9223372036854775808∧(decide (x<0)=false→zbe (L.drop k)≤9223372036854775807):=fun k=>by
  have:=zjz L k;rw[hd]at this;refine⟨by omega,fun h=>?_⟩;have h:=of_decide_eq_false h;omega
 have HD:=Hid.out (p:=Hid _) hD;clear hX hD;clear nx h1 h2 hd hL;generalize decide (x<0)=sx at *;have hb:=Blk.new w 83 #[.bool sx,.slice A L.length c];have tw:=tal w (.cells #[.bool sx,.slice A L.length c] 83)
 obtain⟨V,hV⟩:∃V:Value→World→Prop,V=fun d w'=>BigIs B w' d (-9223372036854775808):=⟨_,rfl⟩
 obtain⟨V2,hV2⟩:∃V:Value→World→Prop,V=fun d w'=>BigIs B w' d 9223372036854775807:=⟨_,rfl⟩
 have HV:=Hid.out (p:=Hid (V=_)) hV;have HV2:=Hid.out (p:=Hid (V2=_)) hV2;clear hV hV2;go_enter Tryz.func30,Tryz.ntmps30;go_wp2_with fail;generalize w.alloc (.cells #[.bool sx,.slice A L.length c] 83)=W at *;generalize hz:w.heap.size=z at *;have HZ:=Hid.out (p:=Hid (w.heap.size=z)) hz;clear hz;obtain⟨c0,c1⟩:=hb.w2;refine za4 (fun _=>False) [] 7 [(1,.inr V),(2,.inl (iV r1)),(6,.inr V2)] [] (by kernel_rfl) rfl (by kernel_rfl) rfl (fun d _ _ _ _ h=>by cases d<;>exact h) ?_ ?_
 ·rw[HV.out,HV2.out];exact⟨fun u a b hr h=>h.keep hr,fun u a b hr h=>h.keep hr,trivial⟩
 intro bef ops hbef hops;have hb1:(bef.getD 2 0).testBit 1=true:=by rw[hbef];kernel_rfl
 clear hbef;subst hops;simp only[List.take_succ_cons,List.take_zero,List.drop_succ_cons,List.drop_zero];iterate 1 (refine zgv (by rfl) (by rfl) (by rfl) (by rfl) (fun K hK=>?_);go_big_quiet_op;(first|refine hK _ ?_|refine⟨_,fun _=>rfl,hK _ ?_⟩);clear hK K)
 refine zaq (by rfl) (by rfl) (fun w1 hr hf=>?_) (fun d=>?_)
 ·refine zaa (d:=7) rfl (by simp) (fun K hK=>?_);go_step;refine(HO.out w1 (tw.trans ((Tch.drew _ W).trans hr))).mono ?_;rintro e w2 ⟨v',rfl,ho,t2⟩;refine hK _ _ ⟨⟨?_,t2⟩,zaf⟩;rw[HV.out];exact ho
 simp only[Act.put,List.setIfInBounds_toArray,List.set_cons_succ,List.set_cons_zero];refine zb3 (iV r1) (by rfl) (by rfl) (fun w1 hr hf=>?_) ?_
 ·have hv:=hf (1,V d) (List.mem_singleton.2 rfl) hb1;rw[HV.out]at hv;have hC:=HC.out w1 d (tw.trans ((Tch.drew _ W).trans hr)) hv;refine zaa (d:=8) rfl (by simp) (fun K hK=>?_);obtain⟨dd,rfl,_⟩:=hv;generalize decide ((-9223372036854775808:Int)<0)=sn at *;go_step;refine hC.mono ?_;rintro e w2 ⟨rfl,t2⟩;exact hK _ _ ⟨⟨rfl,t2⟩,zaf⟩
 simp only[Act.put,List.setIfInBounds_toArray,List.set_cons_succ,List.set_cons_zero];iterate 1 (refine zgv (by rfl) (by rfl) (by rfl) (by rfl) (fun K hK=>?_);go_big_quiet_op;(first|refine hK _ ?_|refine⟨_,fun _=>rfl,hK _ ?_⟩);clear hK K)
 iterate 2 (refine zgv (by rfl) (by rfl) (by rfl) (by rfl) (fun K hK=>?_);go_big_quiet_op;(first|refine hK _ ?_|refine⟨_,fun _=>rfl,hK _ ?_⟩);clear hK K)
 refine zaq (by rfl) (by rfl) (fun w1 hr hf=>?_) (fun d2=>?_)
 ·refine zaa (d:=12) rfl (by simp) (fun K hK=>?_);go_step;refine(HO2.out w1 (tw.trans ((Tch.drew _ W).trans hr))).mono ?_;rintro e w2 ⟨v',rfl,ho,t2⟩;refine hK _ _ ⟨⟨?_,t2⟩,zaf⟩;rw[HV2.out];exact ho
 refine za6 ?_;intro w1 hr hp hap;have hv:=hp (6,V2 d2) (List.mem_cons_self ..);dsimp only at hv
 rw[HV2.out]at hv;have t1:=tw.trans ((Tch.drew _ W).trans hr);have hb4:=hb.keep ((Tch.drew (fun _=>False) W).trans hr) id;have hC:=HC2.out w1 d2 t1 hv;obtain⟨dd,rfl,_⟩:=hv;generalize decide ((9223372036854775807:Int)<0)=sn at *;simp only[Act.put,List.setIfInBounds_toArray,List.set_cons_succ,List.set_cons_zero];clear hap hp c0 c1 hb1 hr HO HO2 HC HC2 HV HV2 hb tw;go_wp2_with fail;refine hC.mono ?_;rintro e w2 ⟨rfl,t2⟩;have tt:=t1.trans t2;have hb5:=hb4.keep t2 id;have hu5:=hu.keep tt;clear hC hb4 hu t1 t2;obtain⟨q0,q1⟩:=hb5.f2;go_wp2;go_loop [4,5] (fun n i=>∃k:Nat,k≤L.length∧i=iV ((k:Int)-1)∧n=iV (if sx then -((zbe (L.drop k):Nat):Int)else((zbe (L.drop k):Nat):Int))) (fun _ i=>(intOf i+1).toNat)
 case atStart=>exact⟨L.length,Nat.le_refl _,rfl,by simp[zbe]⟩
 case round=>
  obtain⟨k,hk,rfl,rfl⟩:=hrel
  cases k with
  |zero=>
   have hx:=HX.out;rw[List.drop_zero];generalize(if sx then -((zbe L:Nat):Int)else((zbe L:Nat):Int))=y at *;subst hx;go_wp2;go_ret2
   exact⟨rfl,tt⟩
  |succ k=>
   obtain⟨g,o,rfl⟩:=hu5.head (by omega);have q:=zjf hu5 (i:=k) (by omega);have hd:=HD.out k;have hst:=zo3 (l:=L) (k:=k) (by omega);have hk1:(k:Int)<(L.length:Int):=by omega
   have hk0:(0:Int)≤(k:Int):=by omega
   have hk2:((k+1:Nat):Int)-1=(k:Int):=by omega
   rw[hk2];have HST:=Hid.out (p:=Hid _) hst
   cases sx with
   |true=>
    have hd:=hd.1;have hd':zbe (L.drop (k+1))*10+L.getD k 0≤9223372036854775808:=by omega
    clear hst hd;rw[if_pos rfl];generalize hE:zbe (L.drop (k+1))=E at *;generalize hx:L.getD k 0=e at *;have HE:=Hid.out (p:=Hid _) hE;have HX2:=Hid.out (p:=Hid _) hx;clear hE hx hk2;go_wp2;go_round
    case rel=>exact⟨k,by omega,rfl,by have:=HST.out;congr 1;omega⟩
    case measure=>simp[intOf]
   |false=>
    have hd:=hd.2 rfl;have hd':zbe (L.drop (k+1))*10+L.getD k 0≤9223372036854775807:=by omega
    clear hst hd;rw[if_neg (by decide)];generalize hE:zbe (L.drop (k+1))=E at *;generalize hx:L.getD k 0=e at *;have HE:=Hid.out (p:=Hid _) hE;have HX2:=Hid.out (p:=Hid _) hx;clear hE hx hk2;go_wp2;go_round
    case rel=>exact⟨k,by omega,rfl,by have:=HST.out;congr 1;show _=((zbe (L.drop k):Nat):Int);omega⟩
    case measure=>simp[intOf]
def asInt (x:Int):Value:=if -9223372036854775808≤x∧x≤9223372036854775807 then .tuple #[iV x,.bool true]else .tuple #[iV 0,.bool false]
theorem zq9 {B:Nat→Prop} {w:World} {v:Value} {x:Int} (hx:BigIs B w v x) (nx:(dg x.natAbs).length≤50000) (hB:∀g,w.heap.size≤g→B g):
 Calls Tryz.prog 30 #[v] w fun e w'=>e=.returned (asInt x)∧Tf w w':=by
 unfold asInt;split
 ·rename_i h
  exact int_in hx nx h.1 h.2 hB
 ·rename_i h
  by_cases h1:x< -9223372036854775808
  ·exact int_low hx nx h1 hB
  ·exact int_high hx nx (by omega) hB
open Go.RowKit Go.Gk
def zex (x:Int):Value:=if -9223372036854775808≤x∧x≤9223372036854775807 then .tuple #[iV x,iV 0]else .tuple #[iV 0,iV 10]
theorem zdu (x:Int):∃n c:Int,zex x=.tuple #[iV n,iV c]:=by
 unfold zex;split<;>exact⟨_,_,rfl⟩
theorem told_any {B:Nat→Prop} {w:World} {v:Value} {x:Int} (hx:BigIs B w v x) (nx:(dg x.natAbs).length≤50000) (hB:∀g,w.heap.size≤g→B g):
 Calls Tryz.prog 166 #[v] w fun e w'=>e=.returned (zex x)∧Tf w w':=by
 have hI:=fun(w':World) (t:Tf w w')=>zq9 (hx.keep t) nx (fun g hg=>hB g (Nat.le_trans t.size hg))
 unfold asInt at hI;unfold zex;obtain⟨du,rfl,hu⟩:=hx;obtain⟨A,c,rfl,hcA1,hcA2⟩:=hu.form;clear hu nx;generalize(dg x.natAbs).length=lx at *;generalize decide (x<0)=sx at *;have hb:=Blk.new w 83 #[.bool sx,.slice A lx c];have tw:=tal w (.cells #[.bool sx,.slice A lx c] 83);have hI:=hI _ tw;by_cases h: -9223372036854775808≤x∧x≤9223372036854775807
 ·rw[if_pos h]at hI⊢;clear h;go_enter Tryz.func166,Tryz.ntmps166;go_wp2_with fail;refine hI.mono ?_;rintro e w1 ⟨rfl,t1⟩;have tt:=tw.trans t1;clear hI tw t1 hb;go_wp2;go_ret2
  exact⟨rfl,tt⟩
 ·rw[if_neg h]at hI⊢;clear h;go_enter Tryz.func166,Tryz.ntmps166;go_wp2_with fail;refine hI.mono ?_;rintro e w1 ⟨rfl,t1⟩;have tt:=tw.trans t1;clear hI tw t1 hb;go_wp2;go_ret2
  exact⟨rfl,tt⟩
theorem net_any {w:World} {u v:Value} {k l:List Int} (hk:zae zby 1 (fun _=>True) w u k) (hl:zae zby 1 (fun _=>True) w v l) (k64:zwa k) (l64:zwa l) (nk:k.length≤10000) (nl:l.length≤10000):
 Calls Tryz.prog 90 #[u,v] w fun e w'=>e=.returned (zex (k.sum-l.sum))∧Tf w w':=by
 have bk:=zfu k64 k.length (Nat.le_refl _);have bl:=zfu l64 l.length (Nat.le_refl _);rw[List.take_length]at bk bl;have hT1:=zo6 (B:=fun _=>True) hk k64 nk (fun _ _=>trivial);have hT2:=fun(w':World) (t:Tf w w')=>zo6 (B:=fun _=>True) (hl.keep t) l64 nl (fun _ _=>trivial)
 have hM:=fun(w':World) (a b:Value) (ha:BigIs (fun _=>True) w' a k.sum) (hb:BigIs (fun _=>True) w' b l.sum)=>zo5 ha hb (Nat.le_trans (zfl 80 (by omega)) (by decide)) (Nat.le_trans (zfl 80 (by omega)) (by decide)) (fun _ _=>trivial)
 have hQ:=fun(w':World) (a:Value) (ha:BigIs (fun _=>True) w' a (k.sum-l.sum))=>told_any ha (Nat.le_trans (zfl 80 (by omega)) (by decide)) (fun _ _=>trivial)
 obtain⟨n,q,eq⟩:=zdu (k.sum-l.sum);rw[eq]at hQ⊢;clear eq;have HT2:=Hid.out (p:=Hid _) hT2;have HM:=Hid.out (p:=Hid _) hM;have HQ:=Hid.out (p:=Hid _) hQ;clear hT2 hM hQ bk bl k64 l64;obtain⟨A,c,rfl,_,_⟩:=hk.form;obtain⟨A',c',rfl,_,_⟩:=hl.form;clear hk hl nk nl;go_enter Tryz.func90,Tryz.ntmps90;go_wp2_with fail;refine hT1.mono ?_;rintro e w1 ⟨a,rfl,ha,t1⟩;clear hT1;have hT2:=HT2.out w1 t1;go_wp2_with fail;refine hT2.mono ?_;rintro e w2 ⟨b,rfl,hb,t2⟩;clear hT2;have hM:=HM.out w2 a b (ha.keep t2) hb;go_wp2_with fail;refine hM.mono ?_;rintro e w3 ⟨d,rfl,hd,t3⟩;have hQ:=HQ.out w3 d hd;clear hM;go_wp2_with fail;refine hQ.mono ?_;rintro e w4 ⟨rfl,t4⟩;clear hQ;have tt:=((t1.trans t2).trans t3).trans t4;go_wp2;go_ret2
 exact⟨rfl,tt⟩
open Go.RowKit Go.Gk
theorem zv1 (x y c:Nat) (hc:c≤1) (w:World):(callFunc 290 #[.int .u64 x,.int .u64 y,.int .u64 c]).run Tryz.prog w=
 .ok (.value (Extern.MathBitsCarry.pair ((x+y+c)%Extern.MathBitsCarry.m64) ((x+y+c)/Extern.MathBitsCarry.m64))) w:=by
 obtain rfl|rfl:c=0∨c=1:=by omega
 ·kernel_rfl
 ·kernel_rfl
theorem zv2 (x y c:Nat) (hc:c≤1) (w:World):(callFunc 291 #[.int .u64 x,.int .u64 y,.int .u64 c]).run Tryz.prog w=
 .ok (.value (Extern.MathBitsCarry.pair ((x+Extern.MathBitsCarry.m64-y-c)%Extern.MathBitsCarry.m64) (if x<y+c then 1 else 0))) w:=by
 obtain rfl|rfl:c=0∨c=1:=by omega
 ·kernel_rfl
 ·kernel_rfl
theorem add64 (x y c:Int) (hx:0≤x) (hy:0≤y) (hc0:0≤c) (hc:c≤1) (w:World):(callFunc 290 #[.int .u64 x,.int .u64 y,.int .u64 c]).run Tryz.prog w=
 .ok (.value (.tuple #[.int .u64 ((x+y+c)%18446744073709551616),.int .u64 ((x+y+c)/18446744073709551616)])) w:=by
 obtain⟨x,rfl⟩:=Int.eq_ofNat_of_zero_le hx;obtain⟨y,rfl⟩:=Int.eq_ofNat_of_zero_le hy;obtain⟨c,rfl⟩:=Int.eq_ofNat_of_zero_le hc0;refine(zv1 x y c (by omega) w).trans ?_;unfold Extern.MathBitsCarry.pair Extern.MathBitsCarry.m64;congr 5<;>simp
def bor (x y:Int):Int:=if x<y then 1 else 0
theorem sub64 (x y b:Int) (hx:0≤x) (hy:0≤y) (hy':y<18446744073709551616) (hb0:0≤b) (hb:b≤1) (w:World):(callFunc 291 #[.int .u64 x,.int .u64 y,.int .u64 b]).run Tryz.prog w=
 .ok (.value (.tuple #[.int .u64 ((x-y-b)%18446744073709551616),.int .u64 (bor x (y+b))])) w:=by
 obtain⟨x,rfl⟩:=Int.eq_ofNat_of_zero_le hx;obtain⟨y,rfl⟩:=Int.eq_ofNat_of_zero_le hy;obtain⟨b,rfl⟩:=Int.eq_ofNat_of_zero_le hb0;have e1:(((x+18446744073709551616-y-b)%18446744073709551616:Nat):Int)=((x:Int)-y-b)%18446744073709551616:=by omega
 have e2:((if x<y+b then 1 else 0:Nat):Int)=if(x:Int)<y+b then 1 else 0:=by split<;>split<;>omega
 unfold bor;rw[←e1,←e2];exact zv2 x y b (by omega) w
theorem z4h (x y:Int) (hx:0≤x) (hy:0≤y) (w:World):(callFunc 290 #[.int .u64 x,.int .u64 y,.int .u64 0]).run Tryz.prog w=
 .ok (.value (.tuple #[.int .u64 ((x+y)%18446744073709551616),.int .u64 ((x+y)/18446744073709551616)])) w:=by
 simpa using add64 x y 0 hx hy (Int.le_refl 0) (by decide) w
theorem sub64_0 (x y:Int) (hx:0≤x) (hy:0≤y) (hy':y<18446744073709551616) (w:World):(callFunc 291 #[.int .u64 x,.int .u64 y,.int .u64 0]).run Tryz.prog w=
 .ok (.value (.tuple #[.int .u64 ((x-y)%18446744073709551616),.int .u64 (bor x y)])) w:=by
 simpa using sub64 x y 0 hx hy hy' (Int.le_refl 0) (by decide) w
def wd (x:Int):Value:=.agg #[.int .u64 (x/18446744073709551616%18446744073709551616),.int .u64 (x%18446744073709551616)]
theorem zv3 (x y:Int) (w:World):
 Calls Tryz.prog 234 #[wd x,wd y] w fun e w'=>e=.returned (wd (x+y))∧Tf w w':=by
 unfold wd;have a1:0≤x/18446744073709551616%18446744073709551616:=by omega
 have b1:0≤x%18446744073709551616:=by omega
 have c1:0≤y/18446744073709551616%18446744073709551616:=by omega
 have d1:0≤y%18446744073709551616:=by omega
 have k0:0≤(x%18446744073709551616+y%18446744073709551616)/18446744073709551616:=by omega
 have k1:(x%18446744073709551616+y%18446744073709551616)/18446744073709551616≤1:=by omega
 have e1:(x/18446744073709551616%18446744073709551616+y/18446744073709551616%18446744073709551616+(x%18446744073709551616+y%18446744073709551616)/18446744073709551616)%18446744073709551616=(x+y)/18446744073709551616%18446744073709551616:=by omega
 have e2:(x%18446744073709551616+y%18446744073709551616)%18446744073709551616=(x+y)%18446744073709551616:=by omega
 have E1:=Hid.out (p:=Hid _) e1;have E2:=Hid.out (p:=Hid _) e2;clear e1 e2;generalize x/18446744073709551616%18446744073709551616=a at *;generalize x%18446744073709551616=b at *;generalize y/18446744073709551616%18446744073709551616=c at *;generalize y%18446744073709551616=d at *;rw[←E1.out,←E2.out];go_enter Tryz.func234,Tryz.ntmps234;go_wp2_with (first|simp only[z4h b d b1 d1]|simp only[add64 a c _ a1 c1 k0 k1]);simp[bodyPost,results,Tryz.results234,go_sem];exact((Tch.alloc _ _ _).trans (Tch.alloc _ _ _)).trans (Tch.alloc _ _ _)
theorem zv4 (x y:Int) (w:World):
 Calls Tryz.prog 236 #[wd x,wd y] w fun e w'=>e=.returned (wd (x-y))∧Tf w w':=by
 unfold wd;have a1:0≤x/18446744073709551616%18446744073709551616:=by omega
 have b1:0≤x%18446744073709551616:=by omega
 have c1:0≤y/18446744073709551616%18446744073709551616:=by omega
 have d1:0≤y%18446744073709551616:=by omega
 have c2:y/18446744073709551616%18446744073709551616<18446744073709551616:=by omega
 have d2:y%18446744073709551616<18446744073709551616:=by omega
 have k0:0≤bor (x%18446744073709551616) (y%18446744073709551616):=by unfold bor;split<;>decide
 have k1:bor (x%18446744073709551616) (y%18446744073709551616)≤1:=by unfold bor;split<;>decide
 have e1:(x/18446744073709551616%18446744073709551616-y/18446744073709551616%18446744073709551616-bor (x%18446744073709551616) (y%18446744073709551616))%18446744073709551616=(x-y)/18446744073709551616%18446744073709551616:=by unfold bor;split<;>omega
 have e2:(x%18446744073709551616-y%18446744073709551616)%18446744073709551616=(x-y)%18446744073709551616:=by omega
 have E1:=Hid.out (p:=Hid _) e1;have E2:=Hid.out (p:=Hid _) e2;clear e1 e2;generalize x/18446744073709551616%18446744073709551616=a at *;generalize x%18446744073709551616=b at *;generalize y/18446744073709551616%18446744073709551616=c at *;generalize y%18446744073709551616=d at *;rw[←E1.out,←E2.out];go_enter Tryz.func236,Tryz.ntmps236;go_wp2_with (first|simp only[sub64_0 b d b1 d1 d2]|simp only[sub64 a c _ a1 c1 c2 k0 k1]);simp[bodyPost,results,Tryz.results236,go_sem];exact((Tch.alloc _ _ _).trans (Tch.alloc _ _ _)).trans (Tch.alloc _ _ _)
theorem zkw {x:Int} (h1: -9223372036854775808≤x) (h2:x≤9223372036854775807) (w:World):
 Calls Tryz.prog 232 #[iV x] w fun e w'=>e=.returned (wd x)∧Tf w w':=by
 unfold wd;by_cases h:x<0
 ·have e1:x/18446744073709551616%18446744073709551616=18446744073709551615:=by omega
  rw[e1];clear e1;go_enter Tryz.func232,Tryz.ntmps232;go_wp2;simp[bodyPost,results,Tryz.results232,go_sem];exact⟨rfl,Tch.alloc _ _ _⟩
 ·have e1:x/18446744073709551616%18446744073709551616=0:=by omega
  rw[e1];clear e1;go_enter Tryz.func232,Tryz.ntmps232;go_wp2;simp[bodyPost,results,Tryz.results232,go_sem];exact⟨by omega,Tch.alloc _ _ _⟩
open Go.RowKit Go.Gk
theorem zv5 (a b c d:Int) (w:World):(Op.equalIn 10000 303 (.agg #[.int .u64 a,.int .u64 b]) (.agg #[.int .u64 c,.int .u64 d])).run Tryz.prog w=.ok (a==c&&b==d) w:=by
 have u3:=Tryz.underlying242;have a3:=Tryz.isAgg242;have z3:=Tryz.sizeOf242;rw[show(10000:Nat)=9999+1 from rfl,Op.equalIn];simp only[Sem.run_bind,run_underlying Tryz.underlying303,Result.andThen_ok];simp only[Std.Legacy.Range.forIn_eq_forIn_range',Std.Legacy.Range.size,Nat.sub_zero,Nat.add_sub_cancel,Nat.div_one,List.range'_succ,List.range'_zero,List.forIn_cons,List.forIn_nil];go_simp
 by_cases h1:a=c<;>by_cases h2:b=d<;>simp[h1,h2]
theorem wint_in {x:Int} (h1: -9223372036854775808≤x) (h2:x≤9223372036854775807) (w:World):
 Calls Tryz.prog 237 #[wd x] w fun e w'=>e=.returned (.tuple #[iV x,iV 0])∧Tf w w':=by
 have hW:=fun(w':World)=>zkw h1 h2 w'
 have e1:IntKind.i64.wrap (x%18446744073709551616)=x:=by simp[IntKind.wrap,IntKind.bits,IntKind.signed];omega
 unfold wd at hW⊢;generalize hb:x%18446744073709551616=b at *;generalize ha:x/18446744073709551616%18446744073709551616=a at *;have hw0:=Blk.new w 303 #[.int .u64 a,.int .u64 b];have tw:=tal w (.cells #[.int .u64 a,.int .u64 b] 303);go_enter Tryz.func237,Tryz.ntmps237;go_wp2_with fail;have HE:=Hid.out (p:=Hid _) e1;have HA:=Hid.out (p:=Hid _) ha;have HB:=Hid.out (p:=Hid _) hb;have HW:=Hid.out (p:=Hid _) hW;clear e1 ha hb hW;generalize w.alloc (.cells #[.int .u64 a,.int .u64 b] 303)=W at *;generalize hz:w.heap.size=z at *;clear hz;obtain⟨c0,c1⟩:=hw0.w2;refine za4 (fun _=>False) [] 3 [(1,.inl (.agg #[.int .u64 a,.int .u64 b]))] [] (by kernel_rfl) rfl (by kernel_rfl) rfl (fun d _ _ _ _ h=>by cases d<;>exact h) ?_ ?_
 ·exact trivial
 intro bef ops hbef hops;clear hbef;subst hops;simp only[List.take_succ_cons,List.take_zero,List.drop_succ_cons,List.drop_zero];iterate 1 (refine zgv (by rfl) (by rfl) (by rfl) (by rfl) (fun K hK=>?_);go_big_quiet_op;(first|refine hK _ ?_|refine⟨_,fun _=>rfl,hK _ ?_⟩);clear hK K)
 refine zb3 (.agg #[.int .u64 a,.int .u64 b]) (by rfl) (by rfl) (fun w1 hr hf=>?_) ?_
 ·refine zaa (d:=9) rfl (by simp) (fun K hK=>?_);go_step;refine(HW.out w1).mono ?_;rintro e w2 ⟨rfl,t2⟩;exact hK _ _ ⟨⟨rfl,t2⟩,zaf⟩
 simp only[Act.put,List.setIfInBounds_toArray,List.set_cons_succ,List.set_cons_zero];iterate 1 (refine zgv (by rfl) (by rfl) (by rfl) (by rfl) (fun K hK=>?_);go_big_quiet_op;(first|refine hK _ ?_|refine⟨_,fun _=>rfl,hK _ ?_⟩);clear hK K)
 refine za6 ?_;intro w1 hr hp hap;have t1:=tw.trans ((Tch.drew _ W).trans hr);clear hap hp c0 c1 hr HW;have hq:=zv5 a b a b;simp only[beq_self_eq_true,Bool.and_self]at hq;go_wp2;go_ret2
 exact⟨rfl,t1⟩
theorem wint_out {x:Int} (h1: -170141183460469231731687303715884105728≤x) (h2:x<170141183460469231731687303715884105728) (h:¬(-9223372036854775808≤x∧x≤9223372036854775807)) (w:World):
 Calls Tryz.prog 237 #[wd x] w fun e w'=>e=.returned (.tuple #[iV 0,iV 10])∧Tf w w':=by
 obtain⟨n,hn,hn1,hn2⟩:∃n,IntKind.i64.wrap (x%18446744073709551616)=n∧ -9223372036854775808≤n∧n≤9223372036854775807:=⟨_,rfl,by simp[IntKind.wrap,IntKind.bits,IntKind.signed];omega,by simp[IntKind.wrap,IntKind.bits,IntKind.signed];omega⟩
 have hW:=fun(w':World)=>zkw hn1 hn2 w'
 have e1:=hn;have hne:n/18446744073709551616%18446744073709551616≠x/18446744073709551616%18446744073709551616:=by simp[IntKind.wrap,IntKind.bits,IntKind.signed]at hn;omega
 have hq:((n/18446744073709551616%18446744073709551616)==(x/18446744073709551616%18446744073709551616))=false:=by simpa using hne
 unfold wd at hW⊢;clear hn hne;generalize n/18446744073709551616%18446744073709551616=a' at *;generalize n%18446744073709551616=b' at *;generalize hb:x%18446744073709551616=b at *;generalize ha:x/18446744073709551616%18446744073709551616=a at *;have hw0:=Blk.new w 303 #[.int .u64 a,.int .u64 b];have tw:=tal w (.cells #[.int .u64 a,.int .u64 b] 303);go_enter Tryz.func237,Tryz.ntmps237;go_wp2_with fail;have HE:=Hid.out (p:=Hid _) e1;have HA:=Hid.out (p:=Hid _) ha;have HB:=Hid.out (p:=Hid _) hb;have HW:=Hid.out (p:=Hid _) hW;clear e1 ha hb hW;generalize w.alloc (.cells #[.int .u64 a,.int .u64 b] 303)=W at *;generalize hz:w.heap.size=z at *;clear hz;obtain⟨c0,c1⟩:=hw0.w2;refine za4 (fun _=>False) [] 3 [(1,.inl (.agg #[.int .u64 a',.int .u64 b']))] [] (by kernel_rfl) rfl (by kernel_rfl) rfl (fun d _ _ _ _ h=>by cases d<;>exact h) ?_ ?_
 ·exact trivial
 intro bef ops hbef hops;clear hbef;subst hops;simp only[List.take_succ_cons,List.take_zero,List.drop_succ_cons,List.drop_zero];iterate 1 (refine zgv (by rfl) (by rfl) (by rfl) (by rfl) (fun K hK=>?_);go_big_quiet_op;(first|refine hK _ ?_|refine⟨_,fun _=>rfl,hK _ ?_⟩);clear hK K)
 refine zb3 (.agg #[.int .u64 a',.int .u64 b']) (by rfl) (by rfl) (fun w1 hr hf=>?_) ?_
 ·refine zaa (d:=9) rfl (by simp) (fun K hK=>?_);go_step;refine(HW.out w1).mono ?_;rintro e w2 ⟨rfl,t2⟩;exact hK _ _ ⟨⟨rfl,t2⟩,zaf⟩
 simp only[Act.put,List.setIfInBounds_toArray,List.set_cons_succ,List.set_cons_zero];iterate 1 (refine zgv (by rfl) (by rfl) (by rfl) (by rfl) (fun K hK=>?_);go_big_quiet_op;(first|refine hK _ ?_|refine⟨_,fun _=>rfl,hK _ ?_⟩);clear hK K)
 refine za6 ?_;intro w1 hr hp hap;have t1:=tw.trans ((Tch.drew _ W).trans hr);clear hap hp c0 c1 hr HW;have hr:=zv5 a' b' a b;rw[hq,Bool.false_and]at hr;go_wp2;go_ret2
 exact⟨rfl,t1⟩
theorem wint_any {x:Int} (h1: -170141183460469231731687303715884105728≤x) (h2:x<170141183460469231731687303715884105728) (w:World):
 Calls Tryz.prog 237 #[wd x] w fun e w'=>e=.returned (zex x)∧Tf w w':=by
 unfold zex;split
 ·rename_i h;exact wint_in h.1 h.2 w
 ·rename_i h;exact wint_out h1 h2 h w
open Go.RowKit Go.Gk
def zd7 (x:Int):Array Value:= #[.int .u64 (x/18446744073709551616%18446744073709551616),.int .u64 (x%18446744073709551616)]
theorem up_any (x y:Int) {w:World} {s:Nat} (hs:Blk w s 303 (zd7 y)):
 Calls Tryz.prog 233 #[wd x,.pointer (some ⟨s,0,none⟩)] w fun e w'=>e=.returned (wd (y+x))∧Tf w w':=by
 have hP:=fun w'=>zv3 y x w'
 unfold wd at hP⊢;unfold zd7 at hs;generalize x/18446744073709551616%18446744073709551616=a at *;generalize x%18446744073709551616=b at *;generalize y/18446744073709551616%18446744073709551616=c at *;generalize y%18446744073709551616=d at *;generalize(y+x)/18446744073709551616%18446744073709551616=e at *;generalize(y+x)%18446744073709551616=f at *;have hs1:=(hs.alloc (.cells #[.int .u64 a,.int .u64 b] 303)).alloc (.cells #[.int .u64 0,.int .u64 0] 303);have tw:Tf w ((w.alloc (.cells #[.int .u64 a,.int .u64 b] 303)).alloc (.cells #[.int .u64 0,.int .u64 0] 303)):=(Tch.alloc _ _ _).trans (Tch.alloc _ _ _);have hb2:=Blk.new2 w (.cells #[.int .u64 a,.int .u64 b] 303) 303 #[.int .u64 0,.int .u64 0];have hb1:=(Blk.new w 303 #[.int .u64 a,.int .u64 b]).alloc (.cells #[.int .u64 0,.int .u64 0] 303);have HP:=Hid.out (p:=Hid _) hP;clear hP;have n0:w.heap.size≠s:=Nat.ne_of_gt hs.lt;have cs0:=show World.cell? _ ⟨s,0,none⟩=some (.int .u64 c)from hs1.cell 0
 have cs1:=show World.cell? _ ⟨s,1,none⟩=some (.int .u64 d)from hs1.cell 1
 have cp0:=show World.cell? _ ⟨w.heap.size,0,none⟩=some (.int .u64 a)from hb1.cell 0
 have cp1:=show World.cell? _ ⟨w.heap.size,1,none⟩=some (.int .u64 b)from hb1.cell 1
 go_enter Tryz.func233,Tryz.ntmps233;go_wp2_with fail;refine(HP.out _).mono ?_;rintro e1 w2 ⟨rfl,t2⟩;have hb3:=hb2.keep t2 id;have r0:=hb3.frozen 0;have r1:=hb3.frozen 1;obtain⟨r2,r3⟩:=hb3.f2;have tt:=tw.trans t2;have t3:=Tch.two w2 (w.heap.size+1) (.int .u64 e) (.int .u64 f);have hbF:=(hb3.set_ 0 (.int .u64 e)).set_ 1 (.int .u64 f);simp only[List.setIfInBounds_toArray,List.set_cons_succ,List.set_cons_zero]at hbF;go_wp2;(try simp only[exS]);refine zfe hbF ?_;exact⟨rfl,tt.trans' t3 (fun g e=>.inr (by omega))⟩
theorem down_any (x y:Int) {w:World} {s:Nat} (hs:Blk w s 303 (zd7 y)):
 Calls Tryz.prog 235 #[wd x,.pointer (some ⟨s,0,none⟩)] w fun e w'=>e=.returned (wd (y-x))∧Tf w w':=by
 have hP:=fun w'=>zv4 y x w'
 unfold wd at hP⊢;unfold zd7 at hs;generalize x/18446744073709551616%18446744073709551616=a at *;generalize x%18446744073709551616=b at *;generalize y/18446744073709551616%18446744073709551616=c at *;generalize y%18446744073709551616=d at *;generalize(y-x)/18446744073709551616%18446744073709551616=e at *;generalize(y-x)%18446744073709551616=f at *;have hs1:=(hs.alloc (.cells #[.int .u64 a,.int .u64 b] 303)).alloc (.cells #[.int .u64 0,.int .u64 0] 303);have tw:Tf w ((w.alloc (.cells #[.int .u64 a,.int .u64 b] 303)).alloc (.cells #[.int .u64 0,.int .u64 0] 303)):=(Tch.alloc _ _ _).trans (Tch.alloc _ _ _);have hb2:=Blk.new2 w (.cells #[.int .u64 a,.int .u64 b] 303) 303 #[.int .u64 0,.int .u64 0];have hb1:=(Blk.new w 303 #[.int .u64 a,.int .u64 b]).alloc (.cells #[.int .u64 0,.int .u64 0] 303);have HP:=Hid.out (p:=Hid _) hP;clear hP;have n0:w.heap.size≠s:=Nat.ne_of_gt hs.lt;have cs0:=show World.cell? _ ⟨s,0,none⟩=some (.int .u64 c)from hs1.cell 0
 have cs1:=show World.cell? _ ⟨s,1,none⟩=some (.int .u64 d)from hs1.cell 1
 have cp0:=show World.cell? _ ⟨w.heap.size,0,none⟩=some (.int .u64 a)from hb1.cell 0
 have cp1:=show World.cell? _ ⟨w.heap.size,1,none⟩=some (.int .u64 b)from hb1.cell 1
 go_enter Tryz.func235,Tryz.ntmps235;go_wp2_with fail;refine(HP.out _).mono ?_;rintro e1 w2 ⟨rfl,t2⟩;have hb3:=hb2.keep t2 id;have r0:=hb3.frozen 0;have r1:=hb3.frozen 1;obtain⟨r2,r3⟩:=hb3.f2;have tt:=tw.trans t2;have t3:=Tch.two w2 (w.heap.size+1) (.int .u64 e) (.int .u64 f);have hbF:=(hb3.set_ 0 (.int .u64 e)).set_ 1 (.int .u64 f);simp only[List.setIfInBounds_toArray,List.set_cons_succ,List.set_cons_zero]at hbF;go_wp2;(try simp only[exS]);refine zfe hbF ?_;exact⟨rfl,tt.trans' t3 (fun g e=>.inr (by omega))⟩
