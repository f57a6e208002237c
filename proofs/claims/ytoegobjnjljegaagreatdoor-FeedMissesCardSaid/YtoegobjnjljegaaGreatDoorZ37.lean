/-
  Values: sums less others.
-/
import Derived.Test.YtoegobjnjljegaaGreatDoorZ20
import Derived.Test.YtoegobjnjljegaaGreatDoorZ35
set_option maxRecDepth 100000
set_option maxHeartbeats 6400000
namespace Go.Gk
open Go.RowKit
section
variable {P:Program} {ops:Array Oper} {rest:List Oper} {o:Oper} {a:Act} {Q:Exit→Act→World→Prop} {w:World}
theorem zzw (hgd:o.guard=none) (t:TypeId) (x y:Operand) (ho:o.op=.makeSlice t x y) {α:Type} {f:α→List Value} {e:TypeId} {z:Value} {size bytes:Nat} (hr:RowTy P t e z size bytes) {N:Int} {n:Nat} (hN:N=n) (hx:a.eval x=iV 0) (hy:a.eval y=iV N) (hb:bytes*n≤281474976710656) (h63:n≤4611686018427387904)
 (h:∀(A:Option Addr) (c:Nat) (W:World),n≤c→c≤maxLen→Outs f size e w W (.slice A 0 c) []→wpList P ops Q rest (a.put o.dst (.slice A 0 c)) W):wpList P ops Q (o::rest) a w:=by
 subst hN;obtain⟨i,hi,hz,hsize,hby⟩:=info_parts hr.info;obtain⟨W,hrun,how,hgr⟩:=run_make_own (P:=P) w w.heap.size t e i z size hr.und hi hz hsize .i64 .i64 n (by rw[hby];exact hb) (by unfold maxLen;omega) (Nat.le_refl _);refine wpList_plain hgd fun K hK=>?_
 unfold Oper.wp execOp;simp only[ho,hx,hy,Sem.run_bind,Sem.run_pure,Result.andThen_ok,hrun];exact hK _ _ (h _ _ W (Nat.le_refl _) (by unfold maxLen;omega) ⟨how,Tch.grown hgr (fun k hk=>by cases hk)⟩)
end
end Go.Gk
namespace Go.Proofs.YtoegobjnjljegaaGreatDoor
open Go.RowKit Go.Gk
theorem z1f (x:Int):(if(zda x).2≠0 then(0,(zda x).2)else((zda x).1,0))=zda x:=by
 unfold zda;split<;>simp
theorem z4e (x:Int):zex x=.tuple #[iV (zda x).1,iV (zda x).2]:=by
 unfold zex zda;split<;>rfl
theorem z19 (n e:Int) (w:World):
 Calls Tryz.prog 163 #[iV n,iV e] w fun x w'=>x=.returned (vlV (if e≠0 then(0,e)else(n,0)))∧Tf w w':=by
 unfold vlV;by_cases he:e=0
 ·subst he;rw[if_neg (by decide)];go_enter Tryz.func163,Tryz.ntmps163;go_wp2;refine zfe (Blk.new w 41 _) ?_;exact⟨rfl,Tch.alloc _ _ _⟩
 ·have he':(e !=0)=true:=by simpa using he
  rw[if_pos he];clear he;go_enter Tryz.func163,Tryz.ntmps163;go_wp2;refine zfe (Blk.new w 41 _) ?_;exact⟨rfl,Tch.alloc _ _ _⟩
theorem z0y {w:World} {v:Value} {l:List Vl} {s:Nat} {f:Int} (hl:zae zzb 2 (fun g=>g≠s) w v l) (hn:l.length≤100000) (hs:Blk w s 35 #[iV f]):
 Calls Tryz.prog 162 #[v,.pointer (some ⟨s,0,none⟩)] w fun x w'=>∃u,x=.returned u∧zae zby 1 (fun g=>g≠s) w' u (l.map (·.1))∧Blk w' s 35 #[iV (zzy f l)]∧Tch (fun g=>g=s) w w':=by
 obtain⟨A,c,rfl,hc1,hc2⟩:=hl.form;have hslt:=hs.lt;go_enter Tryz.func162,Tryz.ntmps162;go_wp2_with (refine zzw (f:=zby) rfl _ _ _ rfl zaj (n:=l.length) rfl (by rfl) (by rfl) (by omega) (by omega) ?_;refine Hid.out ?_);refine Lib.hid ?_;intro A1 c1 w1 hA1 hA2 hO1;have hlW:zae zzb 2 (fun g=>g≠s∧g<w.heap.size) w1 (.slice A l.length c) l:=Row.keepTo hl hO1.tch (fun g hg h=>⟨id,h,hg⟩);have hs1:=hs.keep hO1.tch id;have hown1:=hO1.own;have T1:=Lib.hid hO1.tch;have hsz1:=Lib.hid (show w.heap.size≤w1.heap.size from hO1.tch.size);clear hl hs hO1;have hA3:c1≤9223372036854775807:=hA2;go_wp2_with fail;go_loopw [4,12] (fun o i wr=>∃j:Nat,j≤l.length∧i=.int .i64 j∧wr.ownsRow w.heap.size 3 1 o ((l.take j).map (·.1)).length (((l.take j).map (·.1)).flatMap zby)∧Blk wr s 35 #[.int .i64 (zzy f (l.take j))]∧Tch (fun g=>g=s∨w.heap.size≤g) w1 wr) (fun _ i _=>l.length-(intOf i).toNat)
 case atStart=>exact⟨0,Nat.zero_le _,rfl,hown1,hs1,Tch.refl _ _⟩
 case round=>
  obtain⟨j,hj,rfl,hO,hS,ht⟩:=hrel;obtain⟨O,co,rfl,ho1,ho2,_⟩:=zac hO;by_cases hlt:j<l.length
  ·have hlt':(j:Int)<(l.length:Int):=by omega
   have hj0:=znn j;have hl9:=Row.keepTo (P':=fun _=>True) hlW ht (fun g _ hp=>⟨by omega,trivial⟩);obtain⟨g,o,rfl⟩:=hlW.head (by omega);obtain⟨q0,q1⟩:=Row.two hl9 zyt hlt rfl;have HM:=Lib.hid (show(l.take (j+1)).map (·.1)=(l.take j).map (·.1)++[l[j].1] by rw[List.take_succ_eq_append_getElem hlt,List.map_append];rfl);have HE:=Lib.hid (show zzy f (l.take (j+1))=if zzy f (l.take j)=0 then l[j].2 else zzy f (l.take j) by rw[List.take_succ_eq_append_getElem hlt,z4x]);have hxl:((l.take j).map (·.1)).length≤j:=by rw[List.length_map,List.length_take];omega
   have hge:=Lib.hid (show w.heap.size≤wr.heap.size from Nat.le_trans hsz1.out ht.size);generalize l[j]=v at *;obtain⟨x,y⟩:=v;simp only at q0 q1 HM HE;generalize(l.take j).map (·.1)=xs at *;generalize zzy f (l.take j)=fe at *;have tA:=tal wr (.cells #[iV x,iV y] 41);have bV:=Blk.new wr 41 #[iV x,iV y];have hS1:=hS.keep tA id;have hsw:=hS.lt;have k0:=hS1.at0;have hO1:=hO.alloc (.cells #[iV x,iV y] 41);have ht1:=ht.trans (Exn.touch tA);have hge2:wr.heap.size≤(wr.alloc (.cells #[iV x,iV y] 41)).heap.size:=tA.size;clear hl9 hO hS ht tA;by_cases h0:fe=0
   ·subst h0;go_wp2_with (refine zab rfl _ _ _ rfl s 0 (iV y) (by rfl) (by rfl) rfl (by rfl) hS1 (by simp) ?_;refine Hid.out ?_);refine Lib.hid ?_;intro w2 hS2 ts;(try simp only[List.setIfInBounds_toArray,List.set_cons_zero]at hS2);have bV2:=bV.keep ts (by omega);have hO2:=ts.own hO1 (fun k hk e=>by have e:k=s:=e;have:=(hO1.lt k hk).1;omega);have ht2:=ht1.trans (ts.mono (fun i _ e=>.inl e));have hge:=Lib.hid (show w.heap.size≤w2.heap.size from Nat.le_trans hge.out (Nat.le_trans hge2 ts.size));have x0:=bV2.at0;clear hS1 bV bV2 ts hO1 ht1 k0 q0 q1;go_wp2_with (at_builtin;refine apd zaj (hO2.alloc _) (Go.Gk.Src.one (news:=[iV x]) rfl (fun m9 u9 hu9=>by rw[(Blk.new w2 3 #[iV x]).cell m9];simpa using hu9)) (by simp;rfl) ?_;intro v2 w4 ho4 hg4 hl4;obtain⟨O4,co4,rfl,_,_⟩:=zac ho4);go_roundw
    case rel=>
     have ta2:=tal w2 (.cells #[iV x] 3);have tgr:=Tch.grown (F:=fun g=>g=s∨w.heap.size≤g) hg4 (fun k hk=>.inl (.inr (hO2.lt k hk).1));refine⟨j+1,by omega,by go_num,?_,?_,(ht2.trans (Exn.touch ta2)).trans tgr⟩
     ·rw[HM.out];refine zbk (by simpa[zby]using ho4) fun k hk=>?_
      rcases hl4 k hk with h|h
      ·exact(hO2.lt k h).1
      ·have h9:(w2.alloc (.cells #[iV x] 3)).heap.size=w2.heap.size+1:=by simp
       have h8:=hge.out
       first|omega|(simp at h h8;omega)
     ·have h9:=HE.out;simp only[if_true]at h9;rw[h9];refine(hS2.keep ta2 id).keep (Tch.grown (F:=fun g=>w.heap.size≤g) hg4 (fun k hk=>.inl (hO2.lt k hk).1)) (by omega)
    case measure=>simp[intOf];omega
   ·have h0':(fe==0)=false:=by simpa using h0
    have hS2:=hS1;have hO2:=hO1;have ht2:=ht1;have hge:=Lib.hid (show w.heap.size≤(wr.alloc (.cells #[iV x,iV y] 41)).heap.size from Nat.le_trans hge.out hge2);have x0:=bV.at0;clear hS1 hO1 ht1 bV;go_wp2_with (at_builtin;refine apd zaj (hO2.alloc _) (Go.Gk.Src.one (news:=[iV x]) rfl (fun m9 u9 hu9=>by rw[(Blk.new2 wr (.cells #[iV x,iV y] 41) 3 #[iV x]).cell m9];simpa using hu9)) (by simp;rfl) ?_;intro v2 w4 ho4 hg4 hl4;obtain⟨O4,co4,rfl,_,_⟩:=zac ho4);go_roundw
    case rel=>
     have ta2:=tal (wr.alloc (.cells #[iV x,iV y] 41)) (.cells #[iV x] 3);have tgr:=Tch.grown (F:=fun g=>g=s∨w.heap.size≤g) hg4 (fun k hk=>.inl (.inr (hO2.lt k hk).1));refine⟨j+1,by omega,by go_num,?_,?_,(ht2.trans (Exn.touch ta2)).trans tgr⟩
     ·rw[HM.out];refine zbk (by simpa[zby]using ho4) fun k hk=>?_
      rcases hl4 k hk with h|h
      ·exact(hO2.lt k h).1
      ·have h9:((wr.alloc (.cells #[iV x,iV y] 41)).alloc (.cells #[iV x] 3)).heap.size=(wr.alloc (.cells #[iV x,iV y] 41)).heap.size+1:=by simp
       have h8:=hge.out
       first|omega|(simp at h h8;omega)
     ·rw[HE.out,if_neg h0];refine(hS2.keep ta2 id).keep (Tch.grown (F:=fun g=>w.heap.size≤g) hg4 (fun k hk=>.inl (hO2.lt k hk).1)) (by omega)
    case measure=>simp[intOf];omega
  ·obtain rfl:j=l.length:=by omega
   rw[List.take_length]at hO hS;go_wp2;go_ret;rw[List.length_map]at hO;refine⟨.slice O l.length co,rfl,?_,hS,?_⟩
   ·unfold zae;rw[List.length_map];exact Row.own hO (fun g hg=>by have:=(hO.lt g hg).1;omega)
   exact(Exn.touch (F:=fun g=>g=s) T1.out).trans' ht (fun i hi=>hi)
theorem z3j {w:World} {u v:Value} {p m:List Vl} (hp:zae zzb 2 (fun _=>True) w u p) (hm:zae zzb 2 (fun _=>True) w v m) (p64:∀x∈p,zz0 x) (m64:∀x∈m,zz0 x) (np:p.length≤10000) (nm:m.length≤10000):
 Calls Tryz.prog 80 #[u,v] w fun x w'=>x=.returned (vlV (zy4 p m))∧Tf w w':=by
 have ta:=tal w (.cells #[iV 0,iV 0] 41);have tb:=tal (w.alloc (.cells #[iV 0,iV 0] 41)) (.cells #[iV 0] 35);have tw:=ta.trans tb;have hb:=Blk.new2 w (.cells #[iV 0,iV 0] 41) 35 #[iV 0];have hv:=(Blk.new w 41 #[iV 0,iV 0]).keep tb id;have hA:=Lib.hid (z0y (s:=w.heap.size+1) (f:=0) (Row.keepTo (P':=fun g=>g≠w.heap.size+1) hp tw (fun g hg _=>⟨id,by omega⟩)) (by omega) hb);have hM:=Lib.hid (fun w' (t:Tch (fun g=>g=w.heap.size+1) ((w.alloc (.cells #[iV 0,iV 0] 41)).alloc (.cells #[iV 0] 35)) w') (f:Int) (h:Blk w' (w.heap.size+1) 35 #[iV f])=>z0y (Row.keepTo (P':=fun g=>g≠w.heap.size+1) hm ((Exn.touch (F:=fun g=>g=w.heap.size+1) tw).trans t) (fun g hg _=>⟨by omega,by omega⟩)) (by omega) h);have hsz:((w.alloc (.cells #[iV 0,iV 0] 41)).alloc (.cells #[iV 0] 35)).heap.size=w.heap.size+2:=by simp
 have HE:=Lib.hid (z82 0 p m);obtain⟨A,c,rfl,_,_⟩:=hp.form;obtain⟨A',c',rfl,_,_⟩:=hm.form;have P64:=Lib.hid (show zwa (p.map (·.1))from fun x hx=>by obtain⟨y,hy,rfl⟩:=List.mem_map.1 hx;exact p64 y hy);have M64:=Lib.hid (show zwa (m.map (·.1))from fun x hx=>by obtain⟨y,hy,rfl⟩:=List.mem_map.1 hx;exact m64 y hy);have hz0:w.heap.size≠w.heap.size+1:=by omega
 have hN0:zzy 0 (p++m)=0→zy4 p m=zda ((p.map (·.1)).sum-(m.map (·.1)).sum):=fun h=>by unfold zy4;rw[if_pos h]
 have hN1:zzy 0 (p++m)≠0→zy4 p m=(0,zzy 0 (p++m)):=fun h=>by unfold zy4;rw[if_neg h]
 generalize zy4 p m=NV at *;have HN0:=Lib.hid hN0;have HN1:=Lib.hid hN1;clear hp hm p64 m64 ta tb hb hN0 hN1;go_enter Tryz.func80,Tryz.ntmps80;go_wp2_with fail;generalize(w.alloc (.cells #[iV 0,iV 0] 41)).alloc (.cells #[iV 0] 35)=W at *;generalize hzw:w.heap.size=z at *;have HZW:=Lib.hid hzw;clear hzw;refine hA.out.mono ?_;rintro _ w1 ⟨u1,rfl,r1,b1,t1⟩;have hM1:=Lib.hid (hM.out w1 t1 _ b1);obtain⟨U1,k1,hu1,_,_⟩:=r1.form;rw[List.length_map]at hu1;subst hu1;have hv1:=hv.keep t1 hz0;have T1:=Lib.hid t1;clear hA hM b1 hv t1;go_wp2_with fail;refine hM1.out.mono ?_;rintro _ w2 ⟨u2,rfl,r2,b2,t2⟩;rw[←HE.out]at b2;obtain⟨U2,k2,hu2,_,_⟩:=r2.form;rw[List.length_map]at hu2;subst hu2;have hv2:=hv1.keep t2 hz0;have r1':=Row.keepTo (P':=fun _=>True) r1 t2 (fun g _ hg=>⟨hg,trivial⟩);have hN:=Lib.hid (ztz r1' r2.any P64.out M64.out (by rw[List.length_map];exact np) (by rw[List.length_map];exact nm));have T2:=Lib.hid (tw.trans' (T1.out.trans t2) (fun i hi=>.inr (by have hi:i=z+1:=hi;have:=HZW.out;omega)));have e0:=b2.at0;clear hM1 hv1 r1 r1' r2 b2 HE t2;generalize zzy 0 (p++m)=fe at *;by_cases h0:fe=0
 ·have HR:=Lib.hid (HN0.out h0);have hT:=Lib.hid (fun w'=>z19 (zda ((p.map (·.1)).sum-(m.map (·.1)).sum)).1 (zda ((p.map (·.1)).sum-(m.map (·.1)).sum)).2 w');rw[z1f]at hT;subst h0;rw[z4e]at hN;generalize zda ((p.map (·.1)).sum-(m.map (·.1)).sum)=R at *;obtain⟨R1,R2⟩:=R;simp only at hN;clear HN0 HN1;go_wp2_with fail;refine hN.out.mono ?_;rintro _ w3 ⟨rfl,t3⟩;have hv3:=hv2.keep t3 id;clear hN e0 hv2;go_wp2_with fail;refine(hT.out w3).mono ?_;rintro _ w4 ⟨rfl,t4⟩;have hv4:=hv3.keep t4 id;have T4:=Lib.hid ((T2.out.trans t3).trans t4);unfold vlV;simp only;clear hT hv3 t3 t4;go_wp2_with (refine stH z #[iV R1,iV R2] hv4 ?_);intro w9 HBF HTF;clear hv4;go_wp2;(try simp only[exS]);refine zfe HBF.out ?_;rw[HR.out];exact⟨rfl,T4.out.trans' (F':=fun g=>g=z) HTF.out (fun i hi=>.inr (by have hi:i=z:=hi;have:=HZW.out;omega))⟩
 ·have HR:=Lib.hid (HN1.out h0);have h0':(fe !=0)=true:=by simpa using h0
  clear HN0 HN1 hN h0;go_wp2_with (refine stH z #[iV 0,iV fe] hv2 ?_);intro w9 HBF HTF;clear hv2;go_wp2;(try simp only[exS]);refine zfe HBF.out ?_;rw[HR.out];exact⟨rfl,T2.out.trans' (F':=fun g=>g=z) HTF.out (fun i hi=>.inr (by have hi:i=z:=hi;have:=HZW.out;omega))⟩
end Go.Proofs.YtoegobjnjljegaaGreatDoor
namespace Go.Gk
open Go.RowKit
theorem z0z {w:World} {base:Nat} {e:TypeId} {size n g:Nat} {cs:Array Value} (h:Blk w g e cs) (hb:base≤g) (hs:cs.size=n*size) (hn:n≤maxLen):w.ownsRow base e size (.slice (some ⟨g,0,none⟩) n n) n cs.toList:=
 ⟨by rw[Array.length_toList];exact hs,.inr ⟨g,n,cs,rfl,hb,h,Nat.le_refl _,hn,hs,by rw[List.take_of_length_le (by rw[Array.length_toList];omega)]⟩⟩
theorem z1r (l:List Vl):∀u∈l.flatMap zzb,u.oneCell'=true:=fun u hu=>by
 obtain⟨x,_,hx⟩:=List.mem_flatMap.1 hu;simp[zzb]at hx;rcases hx with rfl|rfl<;>rfl
end Go.Gk
namespace Go.Proofs.YtoegobjnjljegaaGreatDoor
open Go.RowKit Go.Gk
theorem zz2:RowTy Tryz.prog 89 41 (.agg #[iV 0,iV 0]) 2 16:=⟨Tryz.underlying89,by kernel_rfl,rfl,by decide⟩
theorem z0b (w:World):(zeroValue 41).run Tryz.prog w=.ok (vlV (0,0)) w:=by kernel_rfl
theorem z2a (n:Int) (w:World):(Instr.makeMap 193 (some (iV n))).run Tryz.prog w=.ok (.map (some w.heap.size)) (w.alloc (.map #[] 0)):=by
 unfold Instr.makeMap;simp[run_underlying Tryz.underlying193,Go.asInt,Go.asIntOf]
def z5n (s:Rt6) (rt:Bool) (r:Int×Int) (hs:Bool):Prop:=∀(v:Vl),zz0 v→∀(w:World),Calls Tryz.prog 186 #[.agg #[iV s.1,iV s.2.1,iV s.2.2.1,iV s.2.2.2.1,iV s.2.2.2.2.1,iV s.2.2.2.2.2,.bool rt,iV r.1,iV r.2,.bool hs],vlV v] w fun x w'=>x=.returned (vlV (zyn v r hs))∧Tf w w'
theorem z2b {w:World} {v:Value} {l:List Rt6} {mb z:Nat} {m:List (Rt6×Value)} {F:Rt6→Vl} (hl:zae za2 6 (fun _=>True) w v l) (hn:l.length≤100000) (hm:MapIs zcq w mb m) (hb:w.cell? ⟨z,0,none⟩=some (.map (some mb))) (hF:∀k,(zar m k).getD (vlV (0,0))=vlV (F k)):
 Calls Tryz.prog 185 #[v,.pointer (some ⟨z,0,none⟩)] w fun x w'=>∃u,x=.returned u∧Outs zzb 2 41 w w' u (l.map F):=by
 obtain⟨A,c,rfl,hc1,hc2⟩:=hl.form;have HF:=Lib.hid hF;clear hF;go_enter Tryz.func185,Tryz.ntmps185;go_wp2_with (refine zzw (f:=zzb) rfl _ _ _ rfl zz2 (N:=(l.length:Int)+2) (n:=l.length+2) (by simp) (by rfl) (by first|rfl|(go_num)) (by omega) (by omega) ?_;refine Hid.out ?_);refine Lib.hid ?_;intro A1 cc1 w1 hA1 hA2 hO1;have hA3:cc1≤9223372036854775807:=hA2;have HO1:=Lib.hid hO1;clear hO1;go_wp2_with fail;go_loopw [4,13] (fun o i wr=>∃j:Nat,j≤l.length∧i=.int .i64 j∧Outs zzb 2 41 w wr o ((l.take j).map F)) (fun _ i _=>l.length-(intOf i).toNat)
 case atStart=>exact⟨0,Nat.zero_le _,rfl,HO1.out⟩
 case round=>
  obtain⟨j,hj,rfl,hO⟩:=hrel;obtain⟨O,co,rfl,ho1,ho2⟩:=hO.form;by_cases hlt:j<l.length
  ·have hlt':(j:Int)<(l.length:Int):=by omega
   have hj0:=znn j;have hl9:=hl.keep hO.tch;obtain⟨g,o,rfl⟩:=hl.head (by omega);obtain⟨q0,q1,q2,q3,q4,q5⟩:=Row.six hl9 zd3 hlt rfl;have HM:=Lib.hid (show(l.take (j+1)).map F=(l.take j).map F++[F l[j]] by rw[List.take_succ_eq_append_getElem hlt,List.map_append];rfl);have hxl:((l.take j).map F).length≤j:=by rw[List.length_map,List.length_take];omega
   generalize(l.take j).map F=xs at *;generalize l[j]=d at *;obtain⟨a1,a2,a3,a4,a5,a6⟩:=d;simp only at q0 q1 q2 q3 q4 q5;have tA:=tal wr (.cells #[iV a1,iV a2,iV a3,iV a4,iV a5,iV a6] 31);have bz:=Blk.new wr 31 #[iV a1,iV a2,iV a3,iV a4,iV a5,iV a6];have hO2:=hO.keep tA;have hm2:=Lib.hid (hm.keep (hO.tch.trans tA) id);have k0:(wr.alloc (.cells #[iV a1,iV a2,iV a3,iV a4,iV a5,iV a6] 31)).cell? ⟨z,0,none⟩=some (.map (some mb)):=(hO.tch.trans tA).cell_some hb id;have hFk:=HF.out (a1,a2,a3,a4,a5,a6);have HV:=Lib.hid hFk;generalize F (a1,a2,a3,a4,a5,a6)=fv at *;obtain⟨x,y⟩:=fv;obtain⟨d0,d1,d2,d3,d4,d5⟩:=bz.f6;clear hl9 hO bz tA hFk;go_wp2_with (refine zh6 rfl _ _ _ false rfl zym Tryz.underlying193 (z0b _) (k:=(a1,a2,a3,a4,a5,a6)) (by rfl) (by rfl) hm2.out ?_;refine Hid.out ?_);refine Lib.hid ?_;rw[HV.out];unfold vlV;go_wp2_with (at_builtin;refine apd zz2 (hO2.own.alloc _) (Go.Gk.Src.one (news:=zzb (x,y)) rfl (fun m9 u9 hu9=>by rw[(Blk.new2 wr (.cells #[iV a1,iV a2,iV a3,iV a4,iV a5,iV a6] 31) 41 #[iV x,iV y]).cell m9];simpa[zzb]using hu9)) (by simpa using z1r [(x,y)]) ?_;intro v2 w2 ho2 hg2 hl2;have hO3:=hO2.step (x:=(x,y)) (Tch.alloc _ _ _) ho2 hg2 (fun g hg=>by simpa using hl2 g hg);obtain⟨O3,co3,rfl,_,_⟩:=zac ho2);go_roundw
   case rel=>exact⟨j+1,by omega,by go_num,by rw[HM.out];exact hO3⟩
   case measure=>simp[intOf];omega
  ·obtain rfl:j=l.length:=by omega
   have HOE:=Lib.hid hO;clear hO;go_wp2;go_ret;have h9:=HOE.out;rw[List.take_length]at h9;exact⟨.slice O (l.map F).length co,by simp,h9⟩
theorem z5v {w:World} {v u:Value} {r:Rcp} {ins:List Vl} (h:RcpIs w v r) (hi:zae zzb 2 (fun _=>True) w u ins) (i64:∀x∈ins,zz0 x) (b64:zz0 r.base) (hn:r.plus.length+r.minus.length≤5000) (hni:ins.length≤100000) (hsc:r.rated=true→z5n r.scaled true r.ratio r.has):
 Calls Tryz.prog 110 #[v,u] w fun x w'=>x=.returned (vlV (zzv r ins))∧Tf w w':=by
 obtain⟨p,m0,rfl,h1,h2⟩:=h;have HR:=Lib.hid (z0k r p m0);have hev0:zzv r ins=if(zyk r).length=ins.length then zy4 (r.base::(r.plus.map (zzi r ins)++(if r.rated then[zyn (zzi r ins r.scaled) r.ratio r.has]else[]))) (r.minus.map (zzi r ins))else(0,2):=rfl
 have HRD:=Lib.hid (fun w' (t:Tf w w')=>zz5 (r:=r) (show RcpIs w' (z4g r p m0) r from⟨p,m0,rfl,h1.keep t,h2.keep t⟩) (by omega));have h64:∀k,zz0 (zzi r ins k):=fun k=>look_64 (fun q hq=>i64 _ (List.of_mem_zip hq).2) k
 have HVF:∀k,zzi r ins k=zzz ((zyk r).zip ins) k:=fun _=>rfl
 have hrn:(zyk r).length≤5001:=by
  unfold zyk zys;refine Nat.le_trans (zzr _) ?_;rw[List.length_append,List.length_append];split<;>simp <;>omega
 generalize zzi r ins=F at *;generalize zzv r ins=EV at *;generalize zyk r=rl at *;obtain⟨⟨b1,b2⟩,pl,mi,⟨s1,s2,s3,s4,s5,s6⟩,rt,⟨r1,r2⟩,hs⟩:=r;simp only at hn h1 h2 hev0 b64 hsc;obtain⟨A1,c1,rfl,_,_⟩:=h1.form;obtain⟨A2,c2,rfl,_,_⟩:=h2.form;obtain⟨A3,c3,rfl,_,_⟩:=hi.form;unfold z4g at HR HRD⊢;simp only at HR HRD⊢;have ta:=tal w (.cells #[iV b1,iV b2,.slice A1 pl.length c1,.slice A2 mi.length c2,iV s1,iV s2,iV s3,iV s4,iV s5,iV s6,.bool rt,iV r1,iV r2,.bool hs] 48);have tb:=tal (w.alloc (.cells #[iV b1,iV b2,.slice A1 pl.length c1,.slice A2 mi.length c2,iV s1,iV s2,iV s3,iV s4,iV s5,iV s6,.bool rt,iV r1,iV r2,.bool hs] 48)) (.cells #[iV 0,iV 0] 41);have tw:=ta.trans tb;have hA:=(Blk.new w 48 #[iV b1,iV b2,.slice A1 pl.length c1,.slice A2 mi.length c2,iV s1,iV s2,iV s3,iV s4,iV s5,iV s6,.bool rt,iV r1,iV r2,.bool hs]).keep tb id;have hB:=Blk.new2 w (.cells #[iV b1,iV b2,.slice A1 pl.length c1,.slice A2 mi.length c2,iV s1,iV s2,iV s3,iV s4,iV s5,iV s6,.bool rt,iV r1,iV r2,.bool hs] 48) 41 #[iV 0,iV 0];have HRW:=Lib.hid (HRD.out _ tw);have HEV:=Lib.hid hev0;have HVF:=Lib.hid HVF;have H64:=Lib.hid h64;have B64:=Lib.hid b64;have h1:=Lib.hid (h1.keep tw);have h2:=Lib.hid (h2.keep tw);have hi:=Lib.hid (hi.keep tw);have hsz:((w.alloc (.cells #[iV b1,iV b2,.slice A1 pl.length c1,.slice A2 mi.length c2,iV s1,iV s2,iV s3,iV s4,iV s5,iV s6,.bool rt,iV r1,iV r2,.bool hs] 48)).alloc (.cells #[iV 0,iV 0] 41)).heap.size=w.heap.size+2:=by simp
 obtain⟨k0,k1,k2,k3,k4,k5,k6,k7,k8,k9,k10,k11,k12,k13⟩:=hA.f14;clear ta tb HRD h64 b64 hev0;go_enter Tryz.func110,Tryz.ntmps110;go_wp2_with fail;generalize(w.alloc (.cells #[iV b1,iV b2,.slice A1 pl.length c1,.slice A2 mi.length c2,iV s1,iV s2,iV s3,iV s4,iV s5,iV s6,.bool rt,iV r1,iV r2,.bool hs] 48)).alloc (.cells #[iV 0,iV 0] 41)=W at *;generalize hzw:w.heap.size=z at *;have HZW:=Lib.hid hzw;clear hzw;refine HRW.out.mono ?_;rintro _ w1 ⟨u1,rfl,hL,t1⟩;obtain⟨L,cl,rfl,_,_⟩:=hL.form;have hA1:=hA.keep t1 id;have hB1:=hB.keep t1 id;have tw1:=tw.trans t1;have h1:=Lib.hid (h1.out.keep t1);have h2:=Lib.hid (h2.out.keep t1);have hi:=Lib.hid (hi.out.keep t1);have hsz1:z+2≤w1.heap.size:=by have:=t1.size;omega
 clear hA hB HRW tw t1 hsz k0 k1 k2 k3 k4 k5 k6 k7 k8 k9 k10 k11 k12 k13;by_cases hlen:rl.length=ins.length
 rotate_left
 ·have HE:=Lib.hid (show EV=(0,2) by rw[HEV.out,if_neg hlen])
  have hlen':((rl.length:Int) !=(ins.length:Int))=true:=by
   rw[bne_iff_ne];omega
  go_wp2_with (refine stH (z+1) #[iV 0,iV 2] hB1 ?_);intro w9 HBF HTF;clear hB1;go_wp2;(try simp only[exS]);refine zfe HBF.out ?_;rw[HE.out];exact⟨rfl,tw1.trans' (F':=fun g=>g=z+1) HTF.out (fun i hi=>.inr (by have hi:i=z+1:=hi;have:=HZW.out;omega))⟩
 have HE:=Lib.hid (show EV=zy4 ((b1,b2)::(pl.map F++(if rt then[zyn (F (s1,s2,s3,s4,s5,s6)) (r1,r2) hs]else[]))) (mi.map F) by rw[HEV.out,if_pos hlen]);rw[hlen]at hL⊢;have HLN:=Lib.hid hlen;have hmk:=z2a (ins.length:Int);have tm:=tal w1 (.map #[] 0);have hm0:=MapB.new zcq w1;have tn:=tal (w1.alloc (.map #[] 0)) (.cells #[.map (some w1.heap.size)] 193);have bN:=Blk.new (w1.alloc (.map #[] 0)) 193 #[.map (some w1.heap.size)];have hm1:=(hm0.keep tn id).is;have hA3:=(hA1.keep tm id).keep tn id;have hB3:=(hB1.keep tm id).keep tn id;have T3:=Lib.hid ((tw1.trans tm).trans tn);have hL3:=Row.keepTo (P':=fun g=>g<w1.heap.size) hL (tm.trans tn) (fun g hg _=>⟨id,hg⟩);have h1:=Lib.hid (Row.keepTo (P':=fun g=>g<w1.heap.size) h1.out (tm.trans tn) (fun g hg _=>⟨id,hg⟩));have h2:=Lib.hid (Row.keepTo (P':=fun g=>g<w1.heap.size) h2.out (tm.trans tn) (fun g hg _=>⟨id,hg⟩));have hi3:=Row.keepTo (P':=fun g=>g<w1.heap.size) hi.out (tm.trans tn) (fun g hg _=>⟨id,hg⟩);have hsz3:((w1.alloc (.map #[] 0)).alloc (.cells #[.map (some w1.heap.size)] 193)).heap.size=w1.heap.size+2:=by simp
 have hsz4:(w1.alloc (.map #[] 0)).heap.size=w1.heap.size+1:=by simp
 rw[hsz4]at bN;have hni':(ins.length:Int)≤100000:=by omega
 have hnn:(0:Int)≤(ins.length:Int):=Int.natCast_nonneg _;clear hlen hL hi tw1 tm tn hm0 hA1 hB1 HEV hsz4;go_wp2_with fail;generalize(w1.alloc (.map #[] 0)).alloc _=W3 at *;generalize w1.heap.size=mb at *;go_loopw [24] (fun i wr=>∃(j:Nat) (m:List (Rt6×Value)),j≤ins.length∧i=.int .i64 j∧MapIs zcq wr mb m∧(∀k,(zar m k).getD (vlV (0,0))=vlV (zzz ((rl.zip ins).take j) k))∧Tch (fun g=>g=mb) W3 wr) (fun i _=>ins.length-(intOf i).toNat)
 case atStart=>exact⟨0,[],Nat.zero_le _,rfl,hm1,fun k=>rfl,Tch.refl _ _⟩
 case round=>
  obtain⟨j,m,hj,rfl,hM,hT,ht⟩:=hrel;by_cases hlt:j<ins.length
  ·have hlt':(j:Int)<(ins.length:Int):=by omega
   have hj0:=znn j;have hj9:(j:Int)≤100000:=by omega
   have hlr:j<rl.length:=by have:=HLN.out;omega
   have hL4:=hL3;rw[←HLN.out]at hL4;obtain⟨g,o,rfl⟩:=hL4.head (by omega);obtain⟨gi,oi,rfl⟩:=hi3.head (by omega);have hLw:=Row.keepTo (P':=fun _=>True) hL4 ht (fun g _ hp=>⟨fun e=>by have e:g=mb:=e;omega,trivial⟩);have hiw:=Row.keepTo (P':=fun _=>True) hi3 ht (fun g _ hp=>⟨fun e=>by have e:g=mb:=e;omega,trivial⟩);obtain⟨q0,q1,q2,q3,q4,q5⟩:=Row.six hLw zd3 hlr rfl;obtain⟨i0,i1⟩:=Row.two hiw zyt hlt rfl;have hzl:j<(rl.zip ins).length:=by rw[List.length_zip];omega
   have HS:=Lib.hid (fun k=>show zzz ((rl.zip ins).take (j+1)) k=if k=rl[j]then ins[j]else zzz ((rl.zip ins).take j) k by rw[List.take_succ_eq_append_getElem hzl,z3u,List.getElem_zip]);generalize rl[j]=d at *;generalize ins[j]=iv at *;obtain⟨a1,a2,a3,a4,a5,a6⟩:=d;obtain⟨x,y⟩:=iv;simp only at q0 q1 q2 q3 q4 q5 i0 i1;have tA:=tal wr (.cells #[iV a1,iV a2,iV a3,iV a4,iV a5,iV a6] 31);have bz:=Blk.new wr 31 #[iV a1,iV a2,iV a3,iV a4,iV a5,iV a6];have hM1:=hM.keep tA id;have HT:=Lib.hid hT;have hml:=hM.lt;have htA:=ht.trans (Exn.touch tA);have i0':(wr.alloc (.cells #[iV a1,iV a2,iV a3,iV a4,iV a5,iV a6] 31)).cell? ⟨gi,oi+j*2,none⟩=some (iV x):=tA.cell_some i0 id;have i1':(wr.alloc (.cells #[iV a1,iV a2,iV a3,iV a4,iV a5,iV a6] 31)).cell? ⟨gi,oi+j*2+1,none⟩=some (iV y):=tA.cell_some i1 id;have n0':(wr.alloc (.cells #[iV a1,iV a2,iV a3,iV a4,iV a5,iV a6] 31)).cell? ⟨mb+1,0,none⟩=some (.map (some mb)):=tA.cell_some (ht.cell_some (bN.cell 0) (by show¬(mb+1=mb);omega)) id;clear hLw hL4 hiw hT hM ht tA hlr hzl;go_wp2_with fail;generalize wr.alloc (.cells #[iV a1,iV a2,iV a3,iV a4,iV a5,iV a6] 31)=W5 at *;generalize wr.heap.size=zd at *;obtain⟨y0,y1,y2,y3,y4,y5⟩:=bz.w6;have yi0:=wc0 i0';have yi1:=wc0 i1';have yn0:=wc0 n0';refine zai (fun _=>False) [] 6 [] [] ?_ ?_
   ·exact trivial
   intro bef _;iterate 6 (refine zbt ?_;(try simp only[zaw]))
   refine za6 ?_;intro w5 hr hp9 hap;have t5:=(Tch.drew (fun _=>False) W5).trans hr;have hM5:=hM1.keep t5 id;have ht5:=htA.trans (Exn.touch t5);clear hM1 htA hr hp9 hap i0' i1' n0' yi0 yi1 yn0 y0 y1 y2 y3 y4 y5 bz;go_wp2_with (refine z02 rfl _ _ _ _ rfl zym Tryz.underlying193 (k:=(a1,a2,a3,a4,a5,a6)) (u:=vlV (x,y)) (by rfl) (by rfl) (by rfl) hM5 ?_;refine Hid.out ?_);refine Lib.hid ?_;intro w6 hM6 t6;have HM6:=Lib.hid hM6;have HT6:=Lib.hid (ht5.trans t6);clear hM6 t6 hM5 ht5;go_wp2;go_roundw
   case rel=>
    refine⟨j+1,_,by omega,by go_num,HM6.out,fun k=>?_,HT6.out⟩;rw[zlh,HS.out k];by_cases hk:k=(a1,a2,a3,a4,a5,a6)
    ·rw[if_pos hk,if_pos hk];rfl
    ·rw[if_neg hk,if_neg hk];exact HT.out k
   case measure=>simp[intOf];omega
  ·obtain rfl:j=ins.length:=by omega
   have hzl:(rl.zip ins).length=ins.length:=by rw[List.length_zip];have:=HLN.out;omega
   rw[←hzl,List.take_length]at hT;have HTF:=Lib.hid (fun k=>show(zar m k).getD (vlV (0,0))=vlV (F k) by rw[hT k,HVF.out k]);have hAw:=hA3.keep ht (by omega);have hBw:=hB3.keep ht (by omega);have hNw:=bN.keep ht (by omega);have HZR:=Lib.hid (show z+1<wr.heap.size from hBw.lt);have h1w:=Row.keepTo (P':=fun _=>True) h1.out ht (fun g _ hp=>⟨fun e=>by have e:g=mb:=e;omega,trivial⟩);have h2w:=Lib.hid (Row.keepTo (P':=fun _=>True) h2.out ht (fun g _ hp=>⟨fun e=>by have e:g=mb:=e;omega,trivial⟩));have Tw:=Lib.hid (T3.out.trans' ht (fun i hi=>.inr (by have hi:i=mb:=hi;have:=HZW.out;omega)));have HTH:=Lib.hid (fun w' (t:Tf wr w')=>z2b (h1w.keep t) (by omega) (hM.keep t id) (hNw.keep t id).at0 HTF.out);have HTM:=Lib.hid (fun w' (t:Tf wr w')=>z2b (h2w.out.keep t) (by omega) (hM.keep t id) (hNw.keep t id).at0 HTF.out);have HML:=Lib.hid (fun w' (t:Tf wr w')=>hM.keep t id);clear hT ht h1w hM hL3 hi3 hm1 hA3 hB3 bN hmk;go_wp2_with fail;obtain⟨y0,y1,y2⟩:=hAw.w3;refine zai (fun _=>False) [] 7 [(2,.inr fun u w'=>∃g,u=.slice (some ⟨g,0,none⟩) 1 1∧w'.ownsRow wr.heap.size 41 2 u 1 (zzb (b1,b2))),(6,.inr fun u w'=>zae zzb 2 (fun _=>True) w' u (pl.map F))] [] ?_ ?_
   ·exact⟨fun u a b hr ⟨g,e,h⟩=>⟨g,e,hr.own h (fun _ _=>id)⟩,fun u a b hr h=>h.keep hr,trivial⟩
   intro bef _;iterate 2 (refine zbt ?_;(try simp only[zaw]))
   refine zaq (by rfl) (by rfl) (fun w2 hr hf=>?_) (fun uB=>?_)
   ·refine zaa (d:=39) rfl (by simp) (fun K hK=>?_);go_step;refine hK _ _ ⟨⟨⟨_,rfl,?_⟩,Tch.alloc _ _ _⟩,zaf⟩;simpa[zzb]using z0z (size:=2) (Blk.new w2 41 #[iV b1,iV b2]) ((Tch.drew (fun _=>False) wr).trans hr).size (by rfl) (by decide)
   simp only[zaw];iterate 3 (refine zbt ?_;(try simp only[zaw]))
   refine zaq (by rfl) (by rfl) (fun w2 hr hf=>?_) (fun uP=>?_)
   ·refine zaa (d:=43) rfl (by simp) (fun K hK=>?_);go_step;refine(HTH.out w2 ((Tch.drew _ wr).trans hr)).mono ?_;rintro _ w3 ⟨u',rfl,hO⟩;exact hK _ _ ⟨⟨hO.row,hO.tch⟩,zaf⟩
   simp only[zaw];refine za6 ?_;intro w2 hr hp9 hap;have hB2:=hp9 (2,fun w'=>∃g,uB=.slice (some ⟨g,0,none⟩) 1 1∧w'.ownsRow wr.heap.size 41 2 uB 1 (zzb (b1,b2))) (by simp);have hP2:=hp9 (6,fun w'=>zae zzb 2 (fun _=>True) w' uP (pl.map F)) (by simp);simp only at hB2 hP2;obtain⟨gB,rfl,hB2⟩:=hB2;obtain⟨UP,kp,hup,_,_⟩:=hP2.form;rw[List.length_map]at hup;subst hup;have t2:=(Tch.drew (fun _=>False) wr).trans hr
   have hPS:Go.Gk.Src w2 UP pl.length kp 2 ((pl.map F).flatMap zzb):=by
    have h9:=hP2;unfold zae at h9;rw[List.length_map]at h9;exact h9.src
   have HP2:=Lib.hid hPS;have HB2:=Lib.hid hB2;clear hap hp9 hr hB2 hP2 y0 y1 y2 HTH hPS;go_wp2_with (at_builtin;refine apd zz2 HB2.out HP2.out (z1r _) ?_;refine Hid.out ?_);refine Lib.hid ?_;intro v3 w3 ho3 hg3 hl3;obtain⟨O3,co3,rfl,_,_⟩:=zac ho3;have t3:=t2.trans' (Tch.grown (F:=fun k=>wr.heap.size≤k) hg3 (fun k hk=>.inl (HB2.out.lt k hk).1)) (fun i hi=>.inr hi)
   have ho3':w3.ownsRow 0 41 2 (.slice O3 (1+pl.length) co3) ((b1,b2)::pl.map F).length (((b1,b2)::pl.map F).flatMap zzb):=by
    rw[List.length_cons,List.length_map,Nat.add_comm];rw[Nat.add_comm]at ho3;simpa[Nat.add_comm]using ho3
   have hr3:zae zzb 2 (fun _=>True) w3 (.slice O3 (1+pl.length) co3) ((b1,b2)::pl.map F):=Row.own ho3' (fun _ _=>trivial);have hA4:=hAw.keep t3 id;have HR3:=Lib.hid (HR.out w3);have HO3:=Lib.hid ho3'
   have HGB:=Lib.hid (fun k (hk:(Value.slice O3 (1+pl.length) co3).ownBlock=some k)=>show wr.heap.size≤k from by
    rcases hl3 k hk with h|h
    ·exact(HB2.out.lt k h).1
    ·exact Nat.le_trans t2.size h)
   have HRR:=Lib.hid hr3;have Tw3:=Lib.hid (Tw.out.trans t3);have T03:=Lib.hid t3;clear ho3 ho3' hg3 hl3 hr3 HB2 HP2 t2;obtain⟨k0,k1,k2,k3,k4,k5,k6,k7,k8,k9,k10,k11,k12,k13⟩:=hA4.f14;go_wp2_with fail;refine HR3.out.mono ?_;rintro _ w4 ⟨rfl,t4⟩;have hA5:=hA4.keep t4 id;have hB5:=(hBw.keep t3 id).keep t4 id;have t05:=T03.out.trans t4;have Tw5:=Lib.hid (Tw3.out.trans t4);clear HR3 k0 k1 k2 k3 k4 k5 k6 k7 k8 k9 k10 k11 k12 k13 hA4 hBw hAw
   cases rt
   ·have HRR5:=Lib.hid (HRR.out.keep t4);have HX:=Lib.hid (show EV=zy4 ((b1,b2)::pl.map F) (mi.map F) by rw[HE.out,if_neg (by decide),List.append_nil]);have hA9:=hA5;have hB9:=hB5;have Tw9:=Tw5;have HPP:=HRR5;have HTMw:=Lib.hid (HTM.out w4 t05)
    have hpl9:∀q∈(b1,b2)::pl.map F,zz0 q:=fun q hq=>by
     rcases List.mem_cons.1 hq with rfl|hq
     ·exact B64.out
     ·obtain⟨k,_,rfl⟩:=List.mem_map.1 hq;exact H64.out k
    have HP64:=Lib.hid hpl9;have HLP:=Lib.hid (show((b1,b2)::pl.map F).length≤10000 by simp;omega);clear hpl9 HRR HO3 HE hA5 hB5 HRR5;generalize(b1,b2)::pl.map F=pp at *;have yM:=hA9.at3;have MI64:=Lib.hid (fun q (hq:q∈mi.map F)=>show zz0 q from by obtain⟨k,_,rfl⟩:=List.mem_map.1 hq;exact H64.out k);clear hA9;go_wp2_with fail;refine HTMw.out.mono ?_;rintro _ wA ⟨uM,rfl,hOM⟩;obtain⟨UM,km,hum,_,_⟩:=hOM.form;rw[List.length_map]at hum;subst hum;have HN:=Lib.hid (z3j (HPP.out.keep hOM.tch) hOM.row HP64.out MI64.out HLP.out (by rw[List.length_map];omega));have hBA:=hB9.keep hOM.tch id;have TA:=Lib.hid (Tw9.out.trans hOM.tch);clear hOM hB9 HTMw yM;go_wp2_with fail;refine HN.out.mono ?_;rintro _ wB ⟨rfl,tB⟩;have hBB:=hBA.keep tB id;have TB:=Lib.hid (TA.out.trans tB);clear HN hBA tB;generalize zy4 pp (mi.map F)=RV at *;obtain⟨R1,R2⟩:=RV;unfold vlV;simp only;go_wp2_with (refine stH (z+1) #[iV R1,iV R2] hBB ?_);intro w9 HBF HTF;clear hBB;go_wp2;(try simp only[exS]);refine zfe HBF.out ?_;rw[HX.out];exact⟨rfl,TB.out.trans' (F':=fun g=>g=z+1) HTF.out (fun i hi=>.inr (by have hi:i=z+1:=hi;have:=HZW.out;omega))⟩
   ·have HS:=Lib.hid (hsc rfl (F (s1,s2,s3,s4,s5,s6)) (H64.out _));have HO5:=Lib.hid (t4.own HO3.out (fun _ _=>id));have HX:=Lib.hid (show EV=zy4 (((b1,b2)::pl.map F)++[zyn (F (s1,s2,s3,s4,s5,s6)) (r1,r2) hs]) (mi.map F) by rw[HE.out,if_pos rfl,List.cons_append]);have HVS:=Lib.hid (HTF.out (s1,s2,s3,s4,s5,s6));have hsc64:=z83 (F (s1,s2,s3,s4,s5,s6)) (r1,r2) hs;simp only at HS
    have hpl9:∀q∈((b1,b2)::pl.map F)++[zyn (F (s1,s2,s3,s4,s5,s6)) (r1,r2) hs],zz0 q:=fun q hq=>by
     rcases List.mem_append.1 hq with hq|hq
     ·rcases List.mem_cons.1 hq with rfl|hq
      ·exact B64.out
      ·obtain⟨k,_,rfl⟩:=List.mem_map.1 hq;exact H64.out k
     ·rw[List.mem_singleton]at hq;subst hq;exact hsc64
    have HP64:=Lib.hid hpl9;generalize zyn (F (s1,s2,s3,s4,s5,s6)) (r1,r2) hs=SV at *;generalize F (s1,s2,s3,s4,s5,s6)=fv at *;obtain⟨f1,f2⟩:=fv;obtain⟨v1,v2⟩:=SV;have HLP:=Lib.hid (show(((b1,b2)::pl.map F)++[(v1,v2)]).length≤10000 by simp;omega);have HPL:=Lib.hid (show((b1,b2)::pl.map F).length=1+pl.length by simp;omega);clear hpl9 HRR HO3 HE hsc64 hsc;generalize(b1,b2)::pl.map F=pp at *;have hN5:=hNw.keep t05 id;have y4:=wc0 hA5.at4;have y5:=wc0 hA5.at5;have y6:=wc0 hA5.at6;have y7:=wc0 hA5.at7;have y8:=wc0 hA5.at8;have y9:=wc0 hA5.at9;have y10:=wc0 hA5.at10;have y11:=wc0 hA5.at11;have y12:=wc0 hA5.at12;have y13:=wc0 hA5.at13;have yn:=wc0 hN5.at0;go_wp2_with fail;refine zai (fun _=>False) [0] 8 [(7,.inl (vlV (f1,f2)))] [] ?_ ?_
    ·exact trivial
    intro bef _;iterate 7 (refine zbt ?_;(try simp only[zaw]))
    refine zb3 (vlV (f1,f2)) (by rfl) (by rfl) (fun w5 hr hf=>?_) ?_
    ·refine zrg _ _ _ rfl zym Tryz.underlying193 (z0b w5) (k:=(s1,s2,s3,s4,s5,s6)) (by rfl) (by rfl) (HML.out w5 (t05.trans ((Tch.drew _ w4).trans hr))) ⟨⟨HVS.out,Tch.refl _ _⟩,zaf⟩
    simp only[zaw];refine za6 ?_;intro w5 hr hp9 hap;have t5:=(Tch.drew (fun _=>False) w4).trans hr;have hA6:=hA5.keep t5 id;have hB6:=hB5.keep t5 id;clear hap hp9 hr hN5 y4 y5 y6 y7 y8 y9 y10 y11 y12 y13 yn hA5 hB5;go_wp2_with fail;refine(HS.out w5).mono ?_;rintro _ w6 ⟨rfl,t6⟩;have t56:=t5.trans t6;have hA7:=hA6.keep t6 id;have hB7:=hB6.keep t6 id;have hO6:=t56.own HO5.out (fun _ _=>id);rw[HPL.out]at hO6;clear HS hA6 hB6 t5 t6;unfold vlV;simp only;go_wp2_with (at_builtin;refine apd zz2 (hO6.alloc _) (Go.Gk.Src.one (news:=zzb (v1,v2)) rfl (fun m9 u9 hu9=>by rw[(Blk.new w6 41 #[iV v1,iV v2]).cell m9];simpa[zzb]using hu9)) (by simpa using z1r [(v1,v2)]) ?_;refine Hid.out ?_);refine Lib.hid ?_;intro v7 w7 ho7 hg7 hl7;obtain⟨O7,co7,rfl,_,_⟩:=zac ho7;have ta6:=tal w6 (.cells #[iV v1,iV v2] 41);have hA8:=hA7.keep ta6 id;have hB8:=hB7.keep ta6 id;have hgl:=Lib.hid (fun k (hk:(Value.slice O3 (1+pl.length) co3).ownBlock=some k)=>show wr.heap.size≤k from HGB.out k hk);have tg6:=Tch.grown (F:=fun k=>wr.heap.size≤k) hg7 (fun k hk=>.inl (hgl.out k hk));have t47:=((t05.trans t56).trans ta6).trans' tg6 (fun i hi=>.inr hi);have hA9:=hA8.keep tg6 (by have:=HZR.out;omega);have hB9:=hB8.keep tg6 (by have:=HZR.out;omega);have Tw9:=Lib.hid (Tw.out.trans t47);have HTMw:=Lib.hid (HTM.out w7 t47)
    have hHP:zae zzb 2 (fun _=>True) w7 (.slice O7 (1+pl.length+1) co7) (pp++[(v1,v2)]):=by
     have h9:w7.ownsRow 0 41 2 (.slice O7 (1+pl.length+1) co7) (pp++[(v1,v2)]).length ((pp++[(v1,v2)]).flatMap zzb):=by
      rw[List.length_append,HPL.out];simpa using ho7
     exact Row.own h9 (fun _ _=>trivial)
    have HPP:=Lib.hid hHP;clear hHP ho7 hg7 hl7 hA8 hB8 hA7 hB7 tg6 ta6 t47 t56 hO6 hgl t05;generalize pp++[(v1,v2)]=pq at *;have yM:=hA9.at3;have MI64:=Lib.hid (fun q (hq:q∈mi.map F)=>show zz0 q from by obtain⟨k,_,rfl⟩:=List.mem_map.1 hq;exact H64.out k);clear hA9;go_wp2_with fail;refine HTMw.out.mono ?_;rintro _ wA ⟨uM,rfl,hOM⟩;obtain⟨UM,km,hum,_,_⟩:=hOM.form;rw[List.length_map]at hum;subst hum;have HN:=Lib.hid (z3j (HPP.out.keep hOM.tch) hOM.row HP64.out MI64.out HLP.out (by rw[List.length_map];omega));have hBA:=hB9.keep hOM.tch id;have TA:=Lib.hid (Tw9.out.trans hOM.tch);clear hOM hB9 HTMw yM;go_wp2_with fail;refine HN.out.mono ?_;rintro _ wB ⟨rfl,tB⟩;have hBB:=hBA.keep tB id;have TB:=Lib.hid (TA.out.trans tB);clear HN hBA tB;generalize zy4 pq (mi.map F)=RV at *;obtain⟨R1,R2⟩:=RV;unfold vlV;simp only;go_wp2_with (refine stH (z+1) #[iV R1,iV R2] hBB ?_);intro w9 HBF HTF;clear hBB;go_wp2;(try simp only[exS]);refine zfe HBF.out ?_;rw[HX.out];exact⟨rfl,TB.out.trans' (F':=fun g=>g=z+1) HTF.out (fun i hi=>.inr (by have hi:i=z+1:=hi;have:=HZW.out;omega))⟩
