/-
  Plain: a region that draws its order, some of whose operations write; one law of one's own holds at each step of it. No program in sight.
-/
import Derived.Test.YtoegobjnjljegaaGreatDoorZ16
import Derived.Test.YtoegobjnjljegaaGreatDoorZ55
import Derived.Lib.AppendZerosOnto
set_option maxRecDepth 100000
set_option maxHeartbeats 6400000
namespace Go.Gk
open Go.RowKit Go.Instr
def Hold (F:Nat→Prop) (I:World→Prop) (a b:World):Prop:=Tch F a b∧(I a→I b)
theorem Hold.refl (F:Nat→Prop) (I:World→Prop) (w:World):Hold F I w w:=⟨Tch.refl F w,id⟩
theorem Hold.trans {F:Nat→Prop} {I:World→Prop} {a b c:World} (h:Hold F I a b) (k:Hold F I b c):Hold F I a c:=⟨h.1.trans k.1,fun i=>k.2 (h.2 i)⟩
theorem zyl {F:Nat→Prop} {I:World→Prop} {W:World} {a:Addr} {u:Value} (h:W.cell? a=some u) (hn:¬F a.block):∀b L (p:Within (Hold F I) W.drew b L),p.w.cell? a=some u:=fun _ _ p=>p.hr.1.cell_some (by exact h) hn
@[reducible] def zy5 (F:Nat→Prop) (I:World→Prop) (ops:Array Oper) (bef:Array Nat) (Vs:List (Nat×Sum Value (Value→World→Prop))) (sps:List (Nat×Nat)) (J:Nat→World→Prop) (w0:World):Env:=
 {ops:=ops,bef:=bef,R:=Hold F I,R0:=Tf,J:=J,w0:=w0,ks:=fun k=>Vs.lookup k,sp:=fun k=>sps.lookup k,fr:=fun _=>false}
section
variable {P:Program} {F:Nat→Prop} {I:World→Prop} {ops:Array Oper} {bef:Array Nat} {Vs:List (Nat×Sum Value (Value→World→Prop))} {sps:List (Nat×Nat)} {J:Nat→World→Prop} {w0:World} {fin:Act→List (Nat×(World→Prop))→Prop} {o:Oper} {rest:List Oper} {k:Nat} {a:Act} {L:List (Nat×(World→Prop))}
theorem z0m (hw:Region.wanted o (yielded ops a.tmps)=true) (hk:Vs.lookup k=none) (hs:sps.lookup k=none) (hp:zgu o.op=true)
 (h:∀K:Act→Prop,(∀a',(zy5 F I ops bef Vs sps J w0).head P fin rest (k+1) a' L→K a')→o.quiet P a (fun w'=>∃p:Within (Hold F I) w0 (bef.getD k 0) L,w'=p.w) K):(zy5 F I ops bef Vs sps J w0).head P fin (o::rest) k a L:=
 znz (E:=zy5 F I ops bef Vs sps J w0) hw hk hs rfl hp h
theorem z24 (x:Value) (hw:Region.wanted o (yielded ops a.tmps)=true) (hk:Vs.lookup k=some (.inl x)) (hs:sps.lookup k=none)
 (h:∀w,Hold F I w0 w→zfo (bef.getD k 0) L w→za8 P o a w (fun v w'=>v=x∧Tf w w')) (h2:(zy5 F I ops bef Vs sps J w0).head P fin rest (k+1) (a.put o.dst x) L):(zy5 F I ops bef Vs sps J w0).head P fin (o::rest) k a L:=
 zs7 (E:=zy5 F I ops bef Vs sps J w0) x hw hk hs (fun w hr hf=>zcs (fun _ _ h=>⟨h,zaf⟩) (h w hr hf)) h2
theorem p_fix (x:Value) (s:Nat) (hw:Region.wanted o (yielded ops a.tmps)=true) (hk:Vs.lookup k=some (.inl x)) (hs:sps.lookup k=some s)
 (h:∀w,Hold F I w0 w→J s w→zfo (bef.getD k 0) L w→za8 P o a w (fun v w'=>v=x∧Hold F I w w'∧J (s+1) w')) (h2:(zy5 F I ops bef Vs sps J w0).head P fin rest (k+1) (a.put o.dst x) L):(zy5 F I ops bef Vs sps J w0).head P fin (o::rest) k a L:=
 zll (E:=zy5 F I ops bef Vs sps J w0) x s hw hk hs (fun w hr hj hf=>zcs (fun _ _ h=>⟨h,zaf⟩) (h w hr hj hf)) h2
theorem p_nil (h:fin a L):(zy5 F I ops bef Vs sps J w0).head P fin [] k a L:=h
end
theorem zy2 {P:Program} (F:Nat→Prop) (I:World→Prop) (hI:∀a b,Tf a b→I a→I b) {id:Nat} {Q:Exit→Act→World→Prop} {a:Act} {w:World} {l:List Oper} (pre:List Nat) (n:Nat) (Vs:List (Nat×Sum Value (Value→World→Prop))) (sps:List (Nat×Nat)) (m:Nat) (J:Nat→World→Prop) (hm:P.follows .mixedOrders=true)
 (hn:(decide (n≤l.length))=true) (hc:zj9 pre l.toArray (fun k=>sps.lookup k) n a.tmps.size=true) (hs:z3r sps n m=true) (hpk:(pre.all fun i=>(Vs.lookup i).isNone)=true) (hQ:∀d v c a w,Q (.panic c) (a.put d v) w→Q (.panic c) a w) (hV:Stable (Hold F I) Vs)
 (hJ0:J 0 w.drew) (hJ:∀s a b,Tf a b→J s a→J s b)
 (h:∀(bef:Array Nat) (ops:Array Oper),bef=Region.before l.toArray→ops=l.toArray→(zy5 F I ops bef Vs sps J w.drew).head P (fun a' L=>∀w',Hold F I w.drew w'→J m w'→(∀p∈L,p.2 w')→wpList P l.toArray Q (l.drop n) a' w') (l.take n) 0 a []):(Code.region id l.toArray true).wp P Q a w:=by
 simp only[zj9,Bool.and_eq_true]at hc;obtain⟨⟨⟨⟨⟨⟨⟨c1,c2⟩,c3⟩,c4⟩,c5⟩,c6⟩,c7⟩,c8⟩:=hc;simp only[z3r,Bool.and_eq_true,List.all_eq_true,List.mem_range,Bool.or_eq_true,List.any_eq_true,beq_iff_eq]at hs
 refine zf6 (E:=zy5 F I l.toArray (Region.before l.toArray) Vs sps J w.drew) (n:=n) (m:=m) pre hm rfl rfl ⟨fun _ _ h=>h.1.size,Hold.refl F I,fun _ _ _ h k=>h.trans k,fun _ _ h=>⟨Exn.touch h,hI _ _ h⟩,hJ,hV.spec,c1,c2,c3,c4,c5,c6⟩ rfl (of_decide_eq_true hn) c7 (by simpa using c8)
  (fun i hi=>by have:=List.all_eq_true.1 hpk i hi;simpa using this) (fun i hi=>rfl) hQ ⟨fun k s' hk h=>?_,hs.2.imp (fun h=>h) (fun⟨k,h1,h2⟩=>⟨k,h1,h2⟩)⟩ hJ0 ?_
 ·have h':sps.lookup k=some s':=h;have:=hs.1 k hk;rw[h']at this;simpa using this
 ·exact zea (fun a' L' hf w' hr hj hp _=>hf w' hr hj hp) _ _ _ _ _ (h _ _ rfl rfl)
section
variable {κ:Type} [DecidableEq κ] {P:Program} {K:TypeId} {enc:κ→Value}
theorem z07 (L:KeyLaw P K enc) {T E:TypeId} (hT:P.underlying T=some (.map K E)) {z:Value} (hz:∀w,(zeroValue E).run P w=.ok z w) {m:List (κ×Value)} {es:Array MapEntry} {c:Nat} (h2:es.toList.map (fun e=>(e.key,e.val))=m.map (fun p=>(enc p.1,p.2))) (h3:Born es c) (b:Nat) (k:κ):
 ∃es' c' s m',(∀w:World,w.heap[b]?=some (.map es c)→∃w',(Instr.mapEntry T (.map (some b)) (enc k)).run P w=.ok (.tuple #[(zar m k).getD z,iV ((s:Nat):Int)]) w'∧w'.heap[b]?=some (.map es' c')∧Tch (fun g=>g=b) w w')∧
  (∀w:World,w.heap[b]?=some (.map es' c')→MapS enc w b m' k s)∧(∀k',k'≠k→zar m' k'=zar m k')∧zar m' k=some ((zar m k).getD z):=by
 have hi:=zlg m k 0;have hlen:es.toList.length=m.length:=by have:=congrArg List.length h2;simpa using this
 have hes:es.size=m.length:=by simpa using hlen
 have hset:∀(w:World) (o:Obj),w.heap[b]?=some (.map es c)→(setObj b o).run P w=.ok () {w with heap:=w.heap.setIfInBounds b o}:=fun w o h=>MapKept.run_setObj_map o h
 have ht:∀(w:World) (o:Obj),Tch (fun g=>g=b) w {w with heap:=w.heap.setIfInBounds b o}:=fun w o=>⟨rfl,rfl,rfl,by simp,fun k _ hn=>by simp only;rw[Array.getElem?_setIfInBounds_ne (fun e=>hn e.symm)]⟩
 have hnew:∀(w:World) (o:Obj),w.heap[b]?=some (.map es c)→({w with heap:=w.heap.setIfInBounds b o}:World).heap[b]?=some o:=fun w o h=>by
  have:=(Array.getElem?_eq_some_iff.1 h).1;simp[this]
 cases ha:zm6 m k 0 with
 |none=>
  rw[ha]at hi;have hn:zar m k=none:=by simpa using hi.symm
  have hab:=zrf m k 0 ha;refine⟨es.push {key:=enc k,val:=z,born:=c},c+1,c,m++[(k,z)],fun w h1=>?_,fun w h=>⟨_,_,es.size,by simp,h,?_,h3.push _ _,by simp,?_,fun j hj=>?_⟩,fun k' hk'=>?_,?_⟩
  ·have hf:=run_findKey L k m es.toList w h2;refine⟨_,?_,hnew w _ h1,ht w _⟩;unfold Instr.mapEntry;rw[Sem.run_bind,run_underlying hT];simp only[Result.andThen_ok,Sem.run_bind,MapKept.run_getObj_map h1,L.check,hf,ha,hz,hset w _ h1,Sem.run_pure,hn,Option.getD_none,goInt]
  ·rw[Array.toList_push,List.map_append,h2];simp
  ·rw[hes,List.getElem?_append_right (Nat.le_refl _)];simp
  ·rw[List.getElem?_append_left (by omega)];exact hab j
  ·rw[←zwb m k z 0 ha,zlh,if_neg hk']
  ·rw[←zwb m k z 0 ha,zlh,if_pos rfl,hn];rfl
 |some q=>
  rw[ha]at hi;have hn:zar m k=some q.2:=by simpa using hi.symm
  obtain⟨i,v⟩:=q;obtain⟨n,hin,hk,hfirst⟩:=zt6 m k 0 i v ha;obtain rfl:i=n:=by omega
  have him:i<m.length:=by
   rcases Nat.lt_or_ge i m.length with h|h
   ·exact h
   ·rw[List.getElem?_eq_none h]at hk;cases hk
  have hie:i<es.size:=by omega
  have hkey:(es[i]?).map (·.key)=some (enc k):=by
   have h3:=congrArg (fun l:List (Value×Value)=>(l[i]?).map (·.1)) h2;simp only[List.getElem?_map]at h3;rw[List.getElem?_eq_getElem him]at h3 hk;simp only[Option.map_some,Option.some.injEq]at h3 hk;rw[hk]at h3;rw[←Array.getElem?_toList]
   cases he:es.toList[i]? with
   |none=>rw[he]at h3;cases h3
   |some e=>rw[he]at h3;simpa using h3
  have hkk:es[i].key=enc k:=by rw[Array.getElem?_eq_getElem hie]at hkey;simpa using hkey
  refine⟨es.modify i fun e=>{e with key:=enc k},c,es[i].born,m,fun w h1=>?_,fun w h=>⟨_,_,i,by simpa using hie,h,?_,h3.modify i _ (fun _=>rfl),by rw[Array.getElem_modify];simp,hk,hfirst⟩,fun k' _=>rfl,by rw[hn];rfl⟩
  ·have hf:=run_findKey L k m es.toList w h2;refine⟨_,?_,hnew w _ h1,ht w _⟩;unfold Instr.mapEntry;rw[Sem.run_bind,run_underlying hT];simp only[Result.andThen_ok,Sem.run_bind,MapKept.run_getObj_map h1,L.check,hf,ha];rw[hkey];simp only[Option.getD_some,keyThatStays,L.bits,if_true,Sem.run_pure,Result.andThen_ok,hset w _ h1,hn,goInt];rw[Array.getElem?_eq_getElem hie];rfl
  ·rw[←h2,Array.toList_modify];apply List.ext_getElem?
   intro n;rw[List.getElem?_map,List.getElem?_modify,List.getElem?_map];by_cases e:i=n
   ·subst e;rw[Array.getElem?_toList,Array.getElem?_eq_getElem hie];simp[←hkk]
   ·simp[e]
end
open Go.RowKit
section
variable {α:Type} {f:α→List Value} {size:Nat} {e:TypeId} {w0 w:World} {v:Value} {xs:List α}
theorem Outs.more {w1 w2:World} {v2:Value} {ys:List α} (h:Outs f size e w0 w v xs) (t:Tf w w1) (ho:w2.ownsRow 0 e size v2 (xs.length+ys.length) (xs.flatMap f++ys.flatMap f)) (hg:w1.grownBy w2 v.ownBlock) (hl:∀g,v2.ownBlock=some g→v.ownBlock=some g∨w1.heap.size≤g):Outs f size e w0 w2 v2 (xs++ys):=by
 have hz:w0.heap.size≤w1.heap.size:=Nat.le_trans h.tch.size t.size;refine⟨zbk (by simpa using ho) fun g hv=>?_,(h.tch.trans t).trans' (Tch.grown (F:=fun k=>w0.heap.size≤k) hg fun k hk=>.inl (h.own.lt k hk).1) fun i hi=>.inr hi⟩;rcases hl g hv with h1|h1
 ·exact(h.own.lt g h1).1
 ·omega
end
end Go.Gk
namespace Go.Proofs.YtoegobjnjljegaaGreatDoor
open Go.RowKit Go.Gk
theorem z00:RowTy Tryz.prog 42 31 (.agg #[iV 0,iV 0,iV 0,iV 0,iV 0,iV 0]) 6 48:=⟨Tryz.underlying42,by kernel_rfl,rfl,by decide⟩
theorem zym:KeyLaw Tryz.prog 31 zcq where
 eq:=fun a b w=>by
  obtain⟨a0,a1,a2,a3,a4,a5⟩:=a;obtain⟨b0,b1,b2,b3,b4,b5⟩:=b;unfold Op.equal zcq;refine(z4j a0 a1 a2 a3 a4 a5 b0 b1 b2 b3 b4 b5 w).trans ?_;congr 1;simp only[Prod.mk.injEq];by_cases h0:a0=b0<;>by_cases h1:a1=b1<;>by_cases h2:a2=b2<;>by_cases h3:a3=b3<;>by_cases h4:a4=b4<;>by_cases h5:a5=b5<;>simp[h0,h1,h2,h3,h4,h5]
 check:=fun e a w=>by
  obtain⟨a0,a1,a2,a3,a4,a5⟩:=a;have u_int:=Tryz.underlying3;have a_int:=Tryz.isAgg3;have z_int:=Tryz.sizeOf3
  have hci:∀(n:Nat) (v:Int) (w:World),(Instr.checkKey e (n+1) 3 (iV v)).run Tryz.prog w=.ok () w:=fun n v w=>by
   rw[Instr.checkKey];simp only[Sem.run_bind,run_underlying u_int,Result.andThen_ok];rfl
  have hc9:∀(v:Int) (w:World),(Instr.checkKey e 9999 3 (iV v)).run Tryz.prog w=.ok () w:=fun v w=>hci 9998 v w
  rw[show(10000:Nat)=9999+1 from rfl,Instr.checkKey];simp only[zcq,Sem.run_bind,run_underlying Tryz.underlying31,Result.andThen_ok];rw[←Array.forIn_toList];simp only[List.forIn_cons,List.forIn_nil];go_simp
 bits:=fun a=>by simp[zcq,Instr.sameBits]
 desc:=⟨_,Tryz.underlying31,fun a b=>rfl⟩
theorem grow_nil (w:World) (n:Nat) (hn:n≤100000):
 Calls Tryz.prog 158 #[.slice none 0 0,iV (n:Int)] w fun x w'=>∃u,x=.returned u∧Outs za2 6 31 w w' u []:=by
 by_cases h0:n=0
 ·subst h0;go_enter Tryz.func158,Tryz.ntmps158;go_wp2;go_ret;exact⟨_,rfl,Outs.start _ _ _ (Tch.refl _ _)⟩
 have hpos:0<n:=by omega
 obtain⟨i,hi,hz,hs,hb⟩:=info_parts z00.info;have hrun:=fun ty=>Lib.run_append_nil_zeros (P:=Tryz.prog) w 42 3 ty 31 i _ .i64 .i64 Tryz.underlying42 Tryz.underlying3 hi hz n hpos (by rw[hs];decide) (by omega) (by rw[hb];omega)
 have hge:n≤grownCap w n 0 31:=grownCap_ge w _ _ _;have hle:=grownCap_le_maxLen w n 0 31 (by unfold maxLen;omega);generalize grownCap w n 0 31=G at *
 have hO:Outs za2 6 31 w (w.drew.alloc (.cells (Builtin.zeroCells (Value.agg #[iV 0,iV 0,iV 0,iV 0,iV 0,iV 0]).cells n++Builtin.zeroCells (Value.agg #[iV 0,iV 0,iV 0,iV 0,iV 0,iV 0]).cells (G-n)) 31)) (.slice (some ⟨w.heap.size,0,none⟩) 0 G) []:=
  ⟨zel w.drew 31 6 G _ hle (by rw[Array.size_append,size_zeroCells,size_zeroCells,←Nat.add_mul];simp[Value.cells];omega),(Tch.drew _ w).trans (Tch.alloc _ _ _)⟩
 have hG1:=znn G;have hG2:(G:Int)≤9223372036854775807:=by unfold maxLen at hle;omega
 have hn1:¬((n:Int)<0):=by omega
 have hn2:(n:Int)>0:=by omega
 have hn3:wrap64 ((n:Int)-0)=(n:Int):=by unfold wrap64;omega
 clear hge hle hz hb;go_enter Tryz.func158,Tryz.ntmps158;go_wp2_with (at_builtin;refine Lib.wpList_append_run _ rfl _ _ _ _ rfl _ _ rfl rfl _ _ (hrun _) ?_);all_goals(go_ret;exact⟨_,rfl,hO⟩)
theorem z3q {w:World} {g:Nat} {u v:Value} {xs ys:List Rt6} (hu:zae za2 6 (fun _=>True) w u xs) (hv:zae za2 6 (fun _=>True) w v ys) (h0:w.cell? ⟨g,0,none⟩=some u) (h1:w.cell? ⟨g,1,none⟩=some v) (hn:xs.length+ys.length≤100000):
 Calls Tryz.prog 68 #[.slice (some ⟨g,0,none⟩) 2 2] w fun x w'=>∃u,x=.returned u∧Outs za2 6 31 w w' u (xs++ys):=by
 obtain⟨A1,c1,rfl,hc1,hd1⟩:=hu.form;obtain⟨A2,c2,rfl,hc2,hd2⟩:=hv.form;have HU:=Lib.hid hu;have HV:=Lib.hid hv;have HG:=Lib.hid (grow_nil w (xs.length+ys.length) hn);have k1:(0:Int)≤(xs.length:Int):=Int.natCast_nonneg _;have k2:(0:Int)≤(ys.length:Int):=Int.natCast_nonneg _;have k3:(xs.length:Int)≤100000:=by omega
 have k4:(ys.length:Int)≤100000:=by omega
 clear hu hv;go_enter Tryz.func68,Tryz.ntmps68;go_wp2_with fail;go_loopw [3,11] (fun s i wr=>∃j:Nat,j≤2∧i=.int .i64 j∧s=.int .i64 (if j=0 then 0 else if j=1 then(xs.length:Int)else(xs.length:Int)+(ys.length:Int))∧w=wr) (fun _ i _=>2-(intOf i).toNat)
 case atStart=>exact⟨0,by omega,rfl,rfl,rfl⟩
 case round=>
  obtain⟨j,hj,rfl,rfl,rfl⟩:=hrel;rcases(by omega:j=0∨j=1∨j=2)with rfl|rfl|rfl
  ·simp only[if_true];go_wp2;go_roundw
   case rel=>exact⟨1,by omega,by go_num,by simp,by trivial⟩
   case measure=>simp[intOf]
  ·rw[if_neg (by decide),if_pos rfl];go_wp2;go_roundw
   case rel=>exact⟨2,by omega,by go_num,by go_num,by trivial⟩
   case measure=>simp[intOf]
  ·rw[if_neg (by decide),if_neg (by decide)];rw[Int.natCast_add]at HG;go_wp2_with fail;refine HG.out.mono ?_;rintro _ w1 ⟨ug,rfl,hO0⟩;clear HG;obtain⟨G0,cg,rfl,_,_⟩:=hO0.form;have HO0:=Lib.hid hO0;clear hO0;go_wp2_with fail;go_loopw [6,27] (fun s i wr=>∃j:Nat,j≤2∧i=.int .i64 j∧Outs za2 6 31 w wr s (if j=0 then[]else if j=1 then xs else xs++ys)) (fun _ i _=>2-(intOf i).toNat)
   case atStart=>exact⟨0,by omega,rfl,HO0.out⟩
   case round=>
    obtain⟨j,hj,rfl,hO⟩:=hrel;obtain⟨O,co,rfl,ho1,ho2⟩:=hO.form;have h0:=hO.tch.cell_some h0 id;have h1:=hO.tch.cell_some h1 id;have HU2:=Lib.hid (HU.out.keep hO.tch);have HV2:=Lib.hid (HV.out.keep hO.tch);rcases(by omega:j=0∨j=1∨j=2)with rfl|rfl|rfl
    ·simp only[if_true]at hO ho1⊢;go_wp2_with (at_builtin;refine zat _ rfl _ _ 42 rfl z00 (zb8 hO.own) (by rfl) (Row.src HU2.out) (by rfl) (ziv _) (by unfold maxLen;simp;omega) (by simp;omega) ?_;intro v2 w2 ho2 hg2 hl2;have hO2:=hO.more (ys:=xs) (Tch.refl _ _) ho2 hg2 hl2;obtain⟨O2,co2,rfl,_,_⟩:=zac ho2);go_roundw
     case rel=>exact⟨1,by omega,by go_num,by simpa using hO2⟩
     case measure=>simp[intOf]
    ·rw[if_neg (by decide),if_pos rfl]at hO ho1⊢;go_wp2_with (at_builtin;refine apd z00 hO.own (Row.src HV2.out) (ziv _) ?_;intro v2 w2 ho2 hg2 hl2;have hO2:=hO.more (ys:=ys) (Tch.refl _ _) ho2 hg2 hl2;obtain⟨O2,co2,rfl,_,_⟩:=zac ho2);go_roundw
     case rel=>exact⟨2,by omega,by go_num,hO2⟩
     case measure=>simp[intOf]
    ·rw[if_neg (by decide),if_neg (by decide)]at hO ho1⊢;go_wp2;go_ret;exact⟨_,rfl,hO⟩
theorem z0k (r:Rcp) (p m:Value) (w:World):
 Calls Tryz.prog 69 #[z4g r p m] w fun x w'=>x=.returned (.bool r.rated)∧Tf w w':=by
 obtain⟨⟨b1,b2⟩,pl,mi,⟨s1,s2,s3,s4,s5,s6⟩,rt,⟨r1,r2⟩,hs⟩:=r;unfold z4g;simp only;go_enter Tryz.func69,Tryz.ntmps69;go_wp2;go_ret;exact⟨rfl,Tch.alloc _ _ _⟩
theorem zyr (w:World):(zeroValue 3).run Tryz.prog w=.ok (iV 0) w:=by kernel_rfl
theorem zz5 {w:World} {v:Value} {r:Rcp} (h:RcpIs w v r) (hn:r.plus.length+r.minus.length≤50000):
 Calls Tryz.prog 18 #[v] w fun x w'=>∃u,x=.returned u∧zae za2 6 (fun g=>w.heap.size≤g) w' u (zyk r)∧Tf w w':=by
 obtain⟨p,m,rfl,h1,h2⟩:=h;have HR:=Lib.hid (z0k r p m);obtain⟨⟨b1,b2⟩,pl,mi,⟨s1,s2,s3,s4,s5,s6⟩,rt,⟨r1,r2⟩,hs⟩:=r;simp only at hn h1 h2;obtain⟨A1,c1,rfl,_,_⟩:=h1.form;obtain⟨A2,c2,rfl,_,_⟩:=h2.form;unfold z4g at HR⊢;unfold zyk zys;simp only at HR⊢;have ta:=tal w (.cells #[iV b1,iV b2,.slice A1 pl.length c1,.slice A2 mi.length c2,iV s1,iV s2,iV s3,iV s4,iV s5,iV s6,.bool rt,iV r1,iV r2,.bool hs] 48);have ha:=Blk.new w 48 #[iV b1,iV b2,.slice A1 pl.length c1,.slice A2 mi.length c2,iV s1,iV s2,iV s3,iV s4,iV s5,iV s6,.bool rt,iV r1,iV r2,.bool hs];have tb:=tal (w.alloc (.cells #[iV b1,iV b2,.slice A1 pl.length c1,.slice A2 mi.length c2,iV s1,iV s2,iV s3,iV s4,iV s5,iV s6,.bool rt,iV r1,iV r2,.bool hs] 48)) (.cells #[.slice A1 pl.length c1,.slice A2 mi.length c2] 42);have hb:=Blk.new2 w (.cells #[iV b1,iV b2,.slice A1 pl.length c1,.slice A2 mi.length c2,iV s1,iV s2,iV s3,iV s4,iV s5,iV s6,.bool rt,iV r1,iV r2,.bool hs] 48) 42 #[.slice A1 pl.length c1,.slice A2 mi.length c2];have tw:=ta.trans tb;have HA:=Lib.hid (ha.keep tb id);have HC:=Lib.hid (z3q (h1.keep tw) (h2.keep tw) (hb.cell 0) (hb.cell 1) (by omega));have hmm:=@run_makeMap Tryz.prog;have HPM:=Lib.hid (show(pl++mi).length≤50000 by rw[List.length_append];exact hn);generalize hall:pl++mi=pm at *;clear ta tb hb h1 h2 ha hall;go_enter Tryz.func18,Tryz.ntmps18;go_wp2_with fail;refine HC.out.mono ?_;rintro _ w1 ⟨u,rfl,hO⟩;have hA:=HA.out.keep hO.tch id;obtain⟨k0,k1,k2,k3,k4,k5,k6,k7,k8,k9,k10,k11,k12,k13⟩:=hA.f14;obtain⟨O,co,rfl,_,_⟩:=hO.form;have tt:=tw.trans hO.tch;have hrow:=hO.row;have hpm:=HPM.out;have HOO:=Lib.hid hO;clear HC hA HA hO;go_wp2_with fail;refine(HR.out w1).mono ?_;rintro _ w2 ⟨rfl,t2⟩;have ttA:=tt.trans t2;clear HR
 cases rt
 ·have hRow:=hrow.keep t2;have hOq:=HOO.out.keep t2;clear k0 k1 k2 k3 k4 k5 k6 k7 k8 k9 k10 k11 k12 k13 hrow HOO tt;have tm:=tal w2 (.map #[] 0);have hm0:=MapB.new zcq w2;have hR3:zae za2 6 (fun g=>g<w2.heap.size) (w2.alloc (.map #[] 0)) (.slice O pm.length co) pm:=Row.keepTo hRow tm (fun g hg _=>⟨id,hg⟩);have hsz3:(w2.alloc (.map #[] 0)).heap.size=w2.heap.size+1:=by simp
  have TT:=Lib.hid (ttA.trans tm);have hbase:=Lib.hid (show w.heap.size≤w2.heap.size from ttA.size);clear hRow tm;go_wp2_with fail;generalize w2.alloc (.map #[] 0)=W3 at *;generalize w2.heap.size=mb at *;go_loopw [5,25] (fun o i wr=>∃(j:Nat) (m:List (Rt6×Value)),j≤pm.length∧i=.int .i64 j∧MapB zcq wr mb m∧(∀k,(zar m k).getD (.int .i64 0)=.int .i64 (zyv (pm.take j) k:Int))∧wr.ownsRow (mb+1) 31 6 o (uniq (pm.take j)).length ((uniq (pm.take j)).flatMap za2)∧Tch (fun g=>g=mb) W3 wr) (fun _ i _=>pm.length-(intOf i).toNat)
  case atStart=>exact⟨0,[],Nat.zero_le _,rfl,hm0,fun k=>rfl,World.ownsRow_nil _ _ _ _,Tch.refl _ _⟩
  case round=>
   obtain⟨j,m,hj,rfl,hM,hT,hO,ht⟩:=hrel;obtain⟨O2,co2,rfl,ho1,ho2,_⟩:=zac hO;by_cases hlt:j<pm.length
   ·have hlt':(j:Int)<(pm.length:Int):=by omega
    have hj0:=znn j;obtain⟨g,o,rfl⟩:=hR3.head (by omega);have hRw:=Row.keepTo (P':=fun _=>True) hR3 ht (fun g _ hp=>⟨fun e=>by have e:g=mb:=e;omega,trivial⟩);obtain⟨q0,q1,q2,q3,q4,q5⟩:=Row.six hRw zd3 hlt rfl;have HU:=Lib.hid (show uniq (pm.take (j+1))=uniq (pm.take j)++(if zyv (pm.take j) pm[j]=0 then[pm[j]]else[]) by rw[List.take_succ_eq_append_getElem hlt,z1w];by_cases hm:pm[j]∈pm.take j<;>simp[hm,z09]);have HTM:=Lib.hid (fun k=>show zyv (pm.take (j+1)) k=zyv (pm.take j) k+(if k=pm[j]then 1 else 0) by rw[List.take_succ_eq_append_getElem hlt,z08]);have hxl:(uniq (pm.take j)).length≤j:=Nat.le_trans (zzr _) (by rw[List.length_take];omega)
    obtain⟨xs,hxs⟩:∃xs,uniq (pm.take j)=xs:=⟨_,rfl⟩
    rw[hxs]at hO hxl ho1 HU⊢
    obtain⟨f,hf⟩:∃f:Rt6→Nat,(fun k=>zyv (pm.take j) k)=f:=⟨_,rfl⟩
    have hf':∀k,zyv (pm.take j) k=f k:=fun k=>by rw[←hf]
    have hfl:∀k,f k≤100000:=fun k=>by have:=z26 (pm.take j) k;rw[hf' k,List.length_take]at this;omega
    simp only[hf']at hT HTM HU;clear hf hf' hRw hxs;generalize pm[j]=c at *;obtain⟨a1,a2,a3,a4,a5,a6⟩:=c;simp only at q0 q1 q2 q3 q4 q5;have tA:=tal wr (.cells #[iV a1,iV a2,iV a3,iV a4,iV a5,iV a6] 31);have bz:=Blk.new wr 31 #[iV a1,iV a2,iV a3,iV a4,iV a5,iV a6];have hO1:=hO.alloc (.cells #[iV a1,iV a2,iV a3,iV a4,iV a5,iV a6] 31);have htA:=ht.trans (Exn.touch tA);obtain⟨es,ck,e1,e2,e3⟩:=hM.keep tA id;obtain⟨es',ck',st,m',X1,X2,X3,X4⟩:=z07 zym Tryz.underlying156 zyr e2 e3 mb (a1,a2,a3,a4,a5,a6);have hq:=hT (a1,a2,a3,a4,a5,a6);have hq9:=hfl (a1,a2,a3,a4,a5,a6);rw[hq]at X1 X4;have HT:=Lib.hid hT;have HX2:=Lib.hid X2;have HX3:=Lib.hid X3;have HX4:=Lib.hid X4;have HX1:=Lib.hid X1;have HE2:=Lib.hid e2;have HQ:=Lib.hid hq;have hmz:mb<wr.heap.size:=hM.lt;clear hT X1 X2 X3 X4 hq e2 e3 hM hO ht tA hfl;generalize hqe:f (a1,a2,a3,a4,a5,a6)=q at *;have HQE:=Lib.hid hqe;have hq0:=znn q;have hq1:(q:Int)≤100000:=by omega
    clear hqe;go_wp2_with fail;generalize wr.alloc (.cells #[iV a1,iV a2,iV a3,iV a4,iV a5,iV a6] 31)=W5 at *;generalize wr.heap.size=z at *;have hzm:z≠mb:=by omega
    obtain⟨I,hI⟩:∃I:World→Prop,I=fun w'=>w'.heap[mb]?=some (.map es ck)∨w'.heap[mb]?=some (.map es' ck'):=⟨_,rfl⟩
    obtain⟨J,hJ⟩:∃J:Nat→World→Prop,J=fun s w'=>w'.heap[mb]?=some (.map (if s=0 then es else es') (if s=0 then ck else ck')):=⟨_,rfl⟩
    have HI:=Lib.hid hI;have HJ:=Lib.hid hJ;clear hI hJ;have y0:=zyl (F:=fun g=>g=mb) (I:=I) bz.at0 hzm;have y1:=zyl (F:=fun g=>g=mb) (I:=I) bz.at1 hzm;have y2:=zyl (F:=fun g=>g=mb) (I:=I) bz.at2 hzm;have y3:=zyl (F:=fun g=>g=mb) (I:=I) bz.at3 hzm;have y4:=zyl (F:=fun g=>g=mb) (I:=I) bz.at4 hzm;have y5:=zyl (F:=fun g=>g=mb) (I:=I) bz.at5 hzm;refine zy2 (fun g=>g=mb) I (fun a b t h=>?_) [] 6 [(2,.inl (iV (q:Int))),(4,.inl (.tuple #[iV (q:Int),iV (st:Int)]))] [(4,0)] 1 J (by kernel_rfl) rfl (by kernel_rfl) (by kernel_rfl) rfl (fun d _ _ _ _ h=>by cases d<;>exact h) trivial ?_ (fun s w1 w2 ht hj=>?_) ?_
    ·rw[HI.out]at h⊢;rcases h with h|h
     ·exact .inl ((t.block _ (Array.getElem?_eq_some_iff.1 h).1 id).trans h)
     ·exact .inr ((t.block _ (Array.getElem?_eq_some_iff.1 h).1 id).trans h)
    ·rw[HJ.out];exact e1
    ·rw[HJ.out]at hj⊢;exact(ht.block _ (Array.getElem?_eq_some_iff.1 hj).1 id).trans hj
    intro bef ops hbef hops;clear hbef;subst hops;simp only[List.take_succ_cons,List.take_zero,List.drop_succ_cons,List.drop_zero];iterate 2 (refine z0m (by rfl) (by rfl) (by rfl) (by rfl) (fun K hK=>?_);go_big_quiet_op;(first|refine hK _ ?_|refine⟨_,fun _=>rfl,hK _ ?_⟩);clear hK K;(try simp only[zaw]))
    refine z24 (iV (q:Int)) (by rfl) (by rfl) (by rfl) (fun w1 hr hf=>?_) ?_
    ·have hi:=hr.2 (by rw[HI.out];exact .inl e1);rw[HI.out]at hi;rcases hi with h|h
     ·refine zrg _ _ _ rfl zym Tryz.underlying156 (zyr w1) (k:=(a1,a2,a3,a4,a5,a6)) (by rfl) (by rfl) (show MapIs zcq w1 mb m from⟨es,ck,h,HE2.out⟩) ⟨HQ.out,Tch.refl _ _⟩
     ·obtain⟨es9,c9,i9,hi9,h1,h2,_⟩:=HX2.out w1 h;refine zrg _ _ _ rfl zym Tryz.underlying156 (zyr w1) (k:=(a1,a2,a3,a4,a5,a6)) (by rfl) (by rfl) (show MapIs zcq w1 mb m' from⟨es9,c9,h1,h2⟩) ⟨by rw[HX4.out];rfl,Tch.refl _ _⟩
    simp only[zaw];iterate 1 (refine z0m (by rfl) (by rfl) (by rfl) (by rfl) (fun K hK=>?_);go_big_quiet_op;(first|refine hK _ ?_|refine⟨_,fun _=>rfl,hK _ ?_⟩);clear hK K;(try simp only[zaw]))
    refine p_fix (.tuple #[iV (q:Int),iV (st:Int)]) 0 (by rfl) (by rfl) (by rfl) (fun w1 hr hj hf=>?_) ?_
    ·rw[HJ.out]at hj;obtain⟨w2,hrun,hh,t2⟩:=HX1.out w1 hj;refine zdm (enc:=zcq) _ _ _ rfl (k:=(a1,a2,a3,a4,a5,a6)) (by rfl) (by rfl) hrun ⟨rfl,⟨t2,fun _=>by rw[HI.out];exact .inr hh⟩,?_⟩;rw[HJ.out];exact hh
    simp only[zaw];iterate 1 (refine z0m (by rfl) (by rfl) (by rfl) (by rfl) (fun K hK=>?_);go_big_quiet_op;(first|refine hK _ ?_|refine⟨_,fun _=>rfl,hK _ ?_⟩);clear hK K;(try simp only[zaw]))
    refine p_nil ?_;intro w1 hr hj hp;rw[HJ.out]at hj;have hS:=HX2.out w1 hj;refine zem rfl _ _ _ _ rfl (k:=(a1,a2,a3,a4,a5,a6)) (u:=iV ((q:Int)+1)) (by rfl) (by rfl) (by first|rfl|(go_num)) hS (fun w2 mm hM2 hA t2=>?_);have tr:=((Tch.drew (fun g=>g=mb) W5).trans hr.1).trans t2;have b2:=bz.keep tr hzm;have hM3:=Lib.hid hM2;have hO3:=Lib.hid (tr.own hO1 (fun g hg e=>by have h9:=(hO1.lt g hg).1;have e:g=mb:=e;omega))
    have HT3:=Lib.hid (fun k=>show(zar mm k).getD (iV 0)=iV (f k+(if k=(a1,a2,a3,a4,a5,a6)then 1 else 0):Nat) by
     rw[hA k];by_cases hk:k=(a1,a2,a3,a4,a5,a6)
     ·subst hk;rw[if_pos rfl,if_pos rfl,HQE.out];simp
     ·rw[if_neg hk,if_neg hk,HX3.out k hk,HT.out k];simp)
    have hL:zar mm (a1,a2,a3,a4,a5,a6)=some (iV ((q:Int)+1)):=by rw[hA];simp
    have HL:=Lib.hid (show(zar mm (a1,a2,a3,a4,a5,a6)).getD (iV 0)=iV ((q:Int)+1) by rw[hL];rfl);have ht3:=Lib.hid (htA.trans tr);obtain⟨y0,y1,y2,y3,y4,y5⟩:=b2.f6;clear hS hj hp hr hL hA hM2 htA hO1 b2 bz e1 tr t2 HX1 HX2 HX3 HX4 HE2 HQ HI HJ HT;go_wp2_with (refine zh6 rfl _ _ _ false rfl zym Tryz.underlying156 (zyr w2) (k:=(a1,a2,a3,a4,a5,a6)) (by rfl) (by rfl) hM3.out.is ?_;refine Hid.out ?_);refine Lib.hid ?_;rw[HL.out];by_cases hz0:q=0
    ·subst hz0;have HU1:=Lib.hid (show uniq (pm.take (j+1))=xs++[(a1,a2,a3,a4,a5,a6)] by rw[HU.out,if_pos rfl]);have hO4:=hO3.out;go_wp2_with (at_builtin;refine apd z00 (hO4.alloc _) (Go.Gk.Src.one (news:=za2 (a1,a2,a3,a4,a5,a6)) rfl (fun m9 u9 hu9=>by rw[(Blk.new w2 31 #[iV a1,iV a2,iV a3,iV a4,iV a5,iV a6]).cell m9];simpa[za2]using hu9)) (by simpa using ziv [(a1,a2,a3,a4,a5,a6)]) ?_;intro v2 w4 ho4 hg4 hl4;obtain⟨O4,co4,rfl,_,_⟩:=zac ho4);go_roundw
     case rel=>
      have tgr:=Tch.grown (F:=fun k=>w2.heap.size≤k∨(Value.slice O2 xs.length co2).ownBlock=some k) hg4 (fun k hk=>.inl (.inr hk));have ta2:=tal w2 (.cells #[iV a1,iV a2,iV a3,iV a4,iV a5,iV a6] 31);have hmlt:=hM3.out.lt;have hnm:∀k,(Value.slice O2 xs.length co2).ownBlock=some k→mb<k:=fun k hk=>by have:=(hO4.lt k hk).1;omega
      refine⟨j+1,mm,by omega,by go_num,(hM3.out.keep ta2 id).keep tgr (fun hf=>?_),fun k=>by rw[HTM.out k];exact HT3.out k,?_,?_⟩
      ·rcases hf with hf|hf
       ·omega
       ·have:=hnm _ hf;omega
      ·rw[HU1.out];refine zbk (by simpa[za2]using ho4) fun k hk=>?_
       rcases hl4 k hk with h|h
       ·exact(hO4.lt k h).1
       ·have:(w2.alloc (.cells #[iV a1,iV a2,iV a3,iV a4,iV a5,iV a6] 31)).heap.size=w2.heap.size+1:=by simp
        omega
      ·refine(ht3.out.trans (Exn.touch ta2)).trans' tgr (fun i hi=>?_);rcases hi with hi|hi
       ·right;have:=ht3.out.size;exact Nat.le_trans this hi
       ·right;have:=(hO4.lt i hi).1;omega
     case measure=>simp[intOf];omega
    ·have HU1:=Lib.hid (show uniq (pm.take (j+1))=xs by rw[HU.out,if_neg hz0,List.append_nil]);have hq2:((q:Int)+1==1)=false:=by rw[beq_eq_false_iff_ne];omega
     go_wp2;go_roundw
     case rel=>exact⟨j+1,mm,by omega,by go_num,hM3.out,fun k=>by rw[HTM.out k];exact HT3.out k,by rw[HU1.out];exact hO3.out,ht3.out⟩
     case measure=>simp[intOf];omega
   ·obtain rfl:j=pm.length:=by omega
    rw[List.take_length]at hO ho1;go_wp2;go_ret;refine⟨.slice O2 (uniq pm).length co2,rfl,?_,?_⟩
    ·try skip
     exact Row.own hO (fun g hg=>by have:=(hO.lt g hg).1;have:=hbase.out;omega)
    ·exact TT.out.trans' ht (fun i hi=>by have hi:i=mb:=hi;have:=hbase.out;omega)
 ·have hRow:=hrow.keep t2;have hOq:=HOO.out.keep t2;have g0:w2.cell? ⟨w.heap.size,0,none⟩=some (iV b1):=t2.cell_some k0 id;have g1:w2.cell? ⟨w.heap.size,1,none⟩=some (iV b2):=t2.cell_some k1 id;have g2:w2.cell? ⟨w.heap.size,2,none⟩=some (.slice A1 pl.length c1):=t2.cell_some k2 id;have g3:w2.cell? ⟨w.heap.size,3,none⟩=some (.slice A2 mi.length c2):=t2.cell_some k3 id;have g4:w2.cell? ⟨w.heap.size,4,none⟩=some (iV s1):=t2.cell_some k4 id;have g5:w2.cell? ⟨w.heap.size,5,none⟩=some (iV s2):=t2.cell_some k5 id;have g6:w2.cell? ⟨w.heap.size,6,none⟩=some (iV s3):=t2.cell_some k6 id;have g7:w2.cell? ⟨w.heap.size,7,none⟩=some (iV s4):=t2.cell_some k7 id;have g8:w2.cell? ⟨w.heap.size,8,none⟩=some (iV s5):=t2.cell_some k8 id;have g9:w2.cell? ⟨w.heap.size,9,none⟩=some (iV s6):=t2.cell_some k9 id;have g10:w2.cell? ⟨w.heap.size,10,none⟩=some (.bool true):=t2.cell_some k10 id;have g11:w2.cell? ⟨w.heap.size,11,none⟩=some (iV r1):=t2.cell_some k11 id;have g12:w2.cell? ⟨w.heap.size,12,none⟩=some (iV r2):=t2.cell_some k12 id;have g13:w2.cell? ⟨w.heap.size,13,none⟩=some (.bool hs):=t2.cell_some k13 id;clear k0 k1 k2 k3 k4 k5 k6 k7 k8 k9 k10 k11 k12 k13 hrow HOO tt;go_wp2_with (at_builtin;refine apd z00 (hOq.own.alloc _) (Go.Gk.Src.one (news:=za2 (s1,s2,s3,s4,s5,s6)) rfl (fun m9 u9 hu9=>by rw[(Blk.new w2 31 #[iV s1,iV s2,iV s3,iV s4,iV s5,iV s6]).cell m9];simpa[za2]using hu9)) (by simpa using ziv [(s1,s2,s3,s4,s5,s6)]) ?_;refine Hid.out ?_);refine Lib.hid ?_;intro v2 w4 ho4 hg4 hl4;have hO4:=hOq.step (x:=(s1,s2,s3,s4,s5,s6)) (Tch.alloc _ _ _) ho4 hg4 (fun g hg=>by simpa using hl4 g hg);obtain⟨O4,co4,rfl,_,_⟩:=zac ho4;have hRow:=hO4.row;have ttA:=tw.trans hO4.tch;have hpm:(pm++[(s1,s2,s3,s4,s5,s6)]).length≤50001:=by simp;omega
  have hll:pm.length+1=(pm++[(s1,s2,s3,s4,s5,s6)]).length:=by simp
  rw[hll]at hRow⊢;clear hOq ho4 hg4 hl4 hO4 g0 g1 g2 g3 g4 g5 g6 g7 g8 g9 g10 g11 g12 g13 t2 tw hll;generalize hlm:pm++[(s1,s2,s3,s4,s5,s6)]=lm at *;have HLM:=Lib.hid hlm;clear hlm;have tm:=tal w4 (.map #[] 0);have hm0:=MapB.new zcq w4;have hR3:zae za2 6 (fun g=>g<w4.heap.size) (w4.alloc (.map #[] 0)) (.slice O4 lm.length co4) lm:=Row.keepTo hRow tm (fun g hg _=>⟨id,hg⟩);have hsz3:(w4.alloc (.map #[] 0)).heap.size=w4.heap.size+1:=by simp
  have TT:=Lib.hid (ttA.trans tm);have hbase:=Lib.hid (show w.heap.size≤w4.heap.size from ttA.size);clear hRow tm;go_wp2_with fail;generalize w4.alloc (.map #[] 0)=W3 at *;generalize w4.heap.size=mb at *;go_loopw [5,25] (fun o i wr=>∃(j:Nat) (m:List (Rt6×Value)),j≤lm.length∧i=.int .i64 j∧MapB zcq wr mb m∧(∀k,(zar m k).getD (.int .i64 0)=.int .i64 (zyv (lm.take j) k:Int))∧wr.ownsRow (mb+1) 31 6 o (uniq (lm.take j)).length ((uniq (lm.take j)).flatMap za2)∧Tch (fun g=>g=mb) W3 wr) (fun _ i _=>lm.length-(intOf i).toNat)
  case atStart=>exact⟨0,[],Nat.zero_le _,rfl,hm0,fun k=>rfl,World.ownsRow_nil _ _ _ _,Tch.refl _ _⟩
  case round=>
   obtain⟨j,m,hj,rfl,hM,hT,hO,ht⟩:=hrel;obtain⟨O2,co2,rfl,ho1,ho2,_⟩:=zac hO;by_cases hlt:j<lm.length
   ·have hlt':(j:Int)<(lm.length:Int):=by omega
    have hj0:=znn j;obtain⟨g,o,rfl⟩:=hR3.head (by omega);have hRw:=Row.keepTo (P':=fun _=>True) hR3 ht (fun g _ hp=>⟨fun e=>by have e:g=mb:=e;omega,trivial⟩);obtain⟨q0,q1,q2,q3,q4,q5⟩:=Row.six hRw zd3 hlt rfl;have HU:=Lib.hid (show uniq (lm.take (j+1))=uniq (lm.take j)++(if zyv (lm.take j) lm[j]=0 then[lm[j]]else[]) by rw[List.take_succ_eq_append_getElem hlt,z1w];by_cases hm:lm[j]∈lm.take j<;>simp[hm,z09]);have HTM:=Lib.hid (fun k=>show zyv (lm.take (j+1)) k=zyv (lm.take j) k+(if k=lm[j]then 1 else 0) by rw[List.take_succ_eq_append_getElem hlt,z08]);have hxl:(uniq (lm.take j)).length≤j:=Nat.le_trans (zzr _) (by rw[List.length_take];omega)
    obtain⟨xs,hxs⟩:∃xs,uniq (lm.take j)=xs:=⟨_,rfl⟩
    rw[hxs]at hO hxl ho1 HU⊢
    obtain⟨f,hf⟩:∃f:Rt6→Nat,(fun k=>zyv (lm.take j) k)=f:=⟨_,rfl⟩
    have hf':∀k,zyv (lm.take j) k=f k:=fun k=>by rw[←hf]
    have hfl:∀k,f k≤100000:=fun k=>by have:=z26 (lm.take j) k;rw[hf' k,List.length_take]at this;omega
    simp only[hf']at hT HTM HU;clear hf hf' hRw hxs;generalize lm[j]=c at *;obtain⟨a1,a2,a3,a4,a5,a6⟩:=c;simp only at q0 q1 q2 q3 q4 q5;have tA:=tal wr (.cells #[iV a1,iV a2,iV a3,iV a4,iV a5,iV a6] 31);have bz:=Blk.new wr 31 #[iV a1,iV a2,iV a3,iV a4,iV a5,iV a6];have hO1:=hO.alloc (.cells #[iV a1,iV a2,iV a3,iV a4,iV a5,iV a6] 31);have htA:=ht.trans (Exn.touch tA);obtain⟨es,ck,e1,e2,e3⟩:=hM.keep tA id;obtain⟨es',ck',st,m',X1,X2,X3,X4⟩:=z07 zym Tryz.underlying156 zyr e2 e3 mb (a1,a2,a3,a4,a5,a6);have hq:=hT (a1,a2,a3,a4,a5,a6);have hq9:=hfl (a1,a2,a3,a4,a5,a6);rw[hq]at X1 X4;have HT:=Lib.hid hT;have HX2:=Lib.hid X2;have HX3:=Lib.hid X3;have HX4:=Lib.hid X4;have HX1:=Lib.hid X1;have HE2:=Lib.hid e2;have HQ:=Lib.hid hq;have hmz:mb<wr.heap.size:=hM.lt;clear hT X1 X2 X3 X4 hq e2 e3 hM hO ht tA hfl;generalize hqe:f (a1,a2,a3,a4,a5,a6)=q at *;have HQE:=Lib.hid hqe;have hq0:=znn q;have hq1:(q:Int)≤100000:=by omega
    clear hqe;go_wp2_with fail;generalize wr.alloc (.cells #[iV a1,iV a2,iV a3,iV a4,iV a5,iV a6] 31)=W5 at *;generalize wr.heap.size=z at *;have hzm:z≠mb:=by omega
    obtain⟨I,hI⟩:∃I:World→Prop,I=fun w'=>w'.heap[mb]?=some (.map es ck)∨w'.heap[mb]?=some (.map es' ck'):=⟨_,rfl⟩
    obtain⟨J,hJ⟩:∃J:Nat→World→Prop,J=fun s w'=>w'.heap[mb]?=some (.map (if s=0 then es else es') (if s=0 then ck else ck')):=⟨_,rfl⟩
    have HI:=Lib.hid hI;have HJ:=Lib.hid hJ;clear hI hJ;have y0:=zyl (F:=fun g=>g=mb) (I:=I) bz.at0 hzm;have y1:=zyl (F:=fun g=>g=mb) (I:=I) bz.at1 hzm;have y2:=zyl (F:=fun g=>g=mb) (I:=I) bz.at2 hzm;have y3:=zyl (F:=fun g=>g=mb) (I:=I) bz.at3 hzm;have y4:=zyl (F:=fun g=>g=mb) (I:=I) bz.at4 hzm;have y5:=zyl (F:=fun g=>g=mb) (I:=I) bz.at5 hzm;refine zy2 (fun g=>g=mb) I (fun a b t h=>?_) [] 6 [(2,.inl (iV (q:Int))),(4,.inl (.tuple #[iV (q:Int),iV (st:Int)]))] [(4,0)] 1 J (by kernel_rfl) rfl (by kernel_rfl) (by kernel_rfl) rfl (fun d _ _ _ _ h=>by cases d<;>exact h) trivial ?_ (fun s w1 w2 ht hj=>?_) ?_
    ·rw[HI.out]at h⊢;rcases h with h|h
     ·exact .inl ((t.block _ (Array.getElem?_eq_some_iff.1 h).1 id).trans h)
     ·exact .inr ((t.block _ (Array.getElem?_eq_some_iff.1 h).1 id).trans h)
    ·rw[HJ.out];exact e1
    ·rw[HJ.out]at hj⊢;exact(ht.block _ (Array.getElem?_eq_some_iff.1 hj).1 id).trans hj
    intro bef ops hbef hops;clear hbef;subst hops;simp only[List.take_succ_cons,List.take_zero,List.drop_succ_cons,List.drop_zero];iterate 2 (refine z0m (by rfl) (by rfl) (by rfl) (by rfl) (fun K hK=>?_);go_big_quiet_op;(first|refine hK _ ?_|refine⟨_,fun _=>rfl,hK _ ?_⟩);clear hK K;(try simp only[zaw]))
    refine z24 (iV (q:Int)) (by rfl) (by rfl) (by rfl) (fun w1 hr hf=>?_) ?_
    ·have hi:=hr.2 (by rw[HI.out];exact .inl e1);rw[HI.out]at hi;rcases hi with h|h
     ·refine zrg _ _ _ rfl zym Tryz.underlying156 (zyr w1) (k:=(a1,a2,a3,a4,a5,a6)) (by rfl) (by rfl) (show MapIs zcq w1 mb m from⟨es,ck,h,HE2.out⟩) ⟨HQ.out,Tch.refl _ _⟩
     ·obtain⟨es9,c9,i9,hi9,h1,h2,_⟩:=HX2.out w1 h;refine zrg _ _ _ rfl zym Tryz.underlying156 (zyr w1) (k:=(a1,a2,a3,a4,a5,a6)) (by rfl) (by rfl) (show MapIs zcq w1 mb m' from⟨es9,c9,h1,h2⟩) ⟨by rw[HX4.out];rfl,Tch.refl _ _⟩
    simp only[zaw];iterate 1 (refine z0m (by rfl) (by rfl) (by rfl) (by rfl) (fun K hK=>?_);go_big_quiet_op;(first|refine hK _ ?_|refine⟨_,fun _=>rfl,hK _ ?_⟩);clear hK K;(try simp only[zaw]))
    refine p_fix (.tuple #[iV (q:Int),iV (st:Int)]) 0 (by rfl) (by rfl) (by rfl) (fun w1 hr hj hf=>?_) ?_
    ·rw[HJ.out]at hj;obtain⟨w2,hrun,hh,t2⟩:=HX1.out w1 hj;refine zdm (enc:=zcq) _ _ _ rfl (k:=(a1,a2,a3,a4,a5,a6)) (by rfl) (by rfl) hrun ⟨rfl,⟨t2,fun _=>by rw[HI.out];exact .inr hh⟩,?_⟩;rw[HJ.out];exact hh
    simp only[zaw];iterate 1 (refine z0m (by rfl) (by rfl) (by rfl) (by rfl) (fun K hK=>?_);go_big_quiet_op;(first|refine hK _ ?_|refine⟨_,fun _=>rfl,hK _ ?_⟩);clear hK K;(try simp only[zaw]))
    refine p_nil ?_;intro w1 hr hj hp;rw[HJ.out]at hj;have hS:=HX2.out w1 hj;refine zem rfl _ _ _ _ rfl (k:=(a1,a2,a3,a4,a5,a6)) (u:=iV ((q:Int)+1)) (by rfl) (by rfl) (by first|rfl|(go_num)) hS (fun w2 mm hM2 hA t2=>?_);have tr:=((Tch.drew (fun g=>g=mb) W5).trans hr.1).trans t2;have b2:=bz.keep tr hzm;have hM3:=Lib.hid hM2;have hO3:=Lib.hid (tr.own hO1 (fun g hg e=>by have h9:=(hO1.lt g hg).1;have e:g=mb:=e;omega))
    have HT3:=Lib.hid (fun k=>show(zar mm k).getD (iV 0)=iV (f k+(if k=(a1,a2,a3,a4,a5,a6)then 1 else 0):Nat) by
     rw[hA k];by_cases hk:k=(a1,a2,a3,a4,a5,a6)
     ·subst hk;rw[if_pos rfl,if_pos rfl,HQE.out];simp
     ·rw[if_neg hk,if_neg hk,HX3.out k hk,HT.out k];simp)
    have hL:zar mm (a1,a2,a3,a4,a5,a6)=some (iV ((q:Int)+1)):=by rw[hA];simp
    have HL:=Lib.hid (show(zar mm (a1,a2,a3,a4,a5,a6)).getD (iV 0)=iV ((q:Int)+1) by rw[hL];rfl);have ht3:=Lib.hid (htA.trans tr);obtain⟨y0,y1,y2,y3,y4,y5⟩:=b2.f6;clear hS hj hp hr hL hA hM2 htA hO1 b2 bz e1 tr t2 HX1 HX2 HX3 HX4 HE2 HQ HI HJ HT;go_wp2_with (refine zh6 rfl _ _ _ false rfl zym Tryz.underlying156 (zyr w2) (k:=(a1,a2,a3,a4,a5,a6)) (by rfl) (by rfl) hM3.out.is ?_;refine Hid.out ?_);refine Lib.hid ?_;rw[HL.out];by_cases hz0:q=0
    ·subst hz0;have HU1:=Lib.hid (show uniq (lm.take (j+1))=xs++[(a1,a2,a3,a4,a5,a6)] by rw[HU.out,if_pos rfl]);have hO4:=hO3.out;go_wp2_with (at_builtin;refine apd z00 (hO4.alloc _) (Go.Gk.Src.one (news:=za2 (a1,a2,a3,a4,a5,a6)) rfl (fun m9 u9 hu9=>by rw[(Blk.new w2 31 #[iV a1,iV a2,iV a3,iV a4,iV a5,iV a6]).cell m9];simpa[za2]using hu9)) (by simpa using ziv [(a1,a2,a3,a4,a5,a6)]) ?_;intro v2 w4 ho4 hg4 hl4;obtain⟨O4,co4,rfl,_,_⟩:=zac ho4);go_roundw
     case rel=>
      have tgr:=Tch.grown (F:=fun k=>w2.heap.size≤k∨(Value.slice O2 xs.length co2).ownBlock=some k) hg4 (fun k hk=>.inl (.inr hk));have ta2:=tal w2 (.cells #[iV a1,iV a2,iV a3,iV a4,iV a5,iV a6] 31);have hmlt:=hM3.out.lt;have hnm:∀k,(Value.slice O2 xs.length co2).ownBlock=some k→mb<k:=fun k hk=>by have:=(hO4.lt k hk).1;omega
      refine⟨j+1,mm,by omega,by go_num,(hM3.out.keep ta2 id).keep tgr (fun hf=>?_),fun k=>by rw[HTM.out k];exact HT3.out k,?_,?_⟩
      ·rcases hf with hf|hf
       ·omega
       ·have:=hnm _ hf;omega
      ·rw[HU1.out];refine zbk (by simpa[za2]using ho4) fun k hk=>?_
       rcases hl4 k hk with h|h
       ·exact(hO4.lt k h).1
       ·have:(w2.alloc (.cells #[iV a1,iV a2,iV a3,iV a4,iV a5,iV a6] 31)).heap.size=w2.heap.size+1:=by simp
        omega
      ·refine(ht3.out.trans (Exn.touch ta2)).trans' tgr (fun i hi=>?_);rcases hi with hi|hi
       ·right;have:=ht3.out.size;exact Nat.le_trans this hi
       ·right;have:=(hO4.lt i hi).1;omega
     case measure=>simp[intOf];omega
    ·have HU1:=Lib.hid (show uniq (lm.take (j+1))=xs by rw[HU.out,if_neg hz0,List.append_nil]);have hq2:((q:Int)+1==1)=false:=by rw[beq_eq_false_iff_ne];omega
     go_wp2;go_roundw
     case rel=>exact⟨j+1,mm,by omega,by go_num,hM3.out,fun k=>by rw[HTM.out k];exact HT3.out k,by rw[HU1.out];exact hO3.out,ht3.out⟩
     case measure=>simp[intOf];omega
   ·obtain rfl:j=lm.length:=by omega
    rw[List.take_length]at hO ho1;go_wp2;go_ret;refine⟨.slice O2 (uniq lm).length co2,rfl,?_,?_⟩
    ·try rw[HLM.out]
     exact Row.own hO (fun g hg=>by have:=(hO.lt g hg).1;have:=hbase.out;omega)
    ·exact TT.out.trans' ht (fun i hi=>by have hi:i=mb:=hi;have:=hbase.out;omega)
