/-
  Cells in order: cell.Sort.
-/
import Derived.Test.YtoegobjnjljegaaGreatDoorSrt
import Derived.Test.YtoegobjnjljegaaGreatDoorZ80
import Derived.Maps.RangeRun
set_option maxRecDepth 100000
set_option maxHeartbeats 25600000
namespace Go.Gk
open Go.RowKit Go.Sort
def Grw (w w':World):Prop:=∃q os,w'=Go.Sort.grow (w.drewN q) os
theorem Grw.refl (w:World):Grw w w:=⟨0,#[],by simp[Go.Sort.grow,World.drewN]⟩
theorem Grw.trans {a b c:World} (h:Grw a b) (k:Grw b c):Grw a c:=by
 obtain⟨q,os,rfl⟩:=h;obtain⟨q',os',rfl⟩:=k;exact⟨q+q',os++os',by simp[Go.Sort.grow,World.drewN,Nat.add_assoc,Array.append_assoc]⟩
theorem Grw.drew (w:World):Grw w w.drew:=⟨1,#[],by rw[Go.Sort.grow_empty];rfl⟩
theorem Grw.alloc (w:World) (o:Obj):Grw w (w.alloc o):=⟨0,#[o],by rw[Go.Sort.alloc_eq_grow];rfl⟩
theorem Grw.tch {w w':World} (h:Grw w w'):Tf w w':=by
 obtain⟨q,os,rfl⟩:=h;refine⟨rfl,rfl,rfl,by simp[Go.Sort.grow,World.drewN],fun k hk _=>?_⟩;show(w.heap++os)[k]?=_;rw[Array.getElem?_append_left hk]
theorem grc {W:World} {a:Addr} {u:Value} (h:W.cell? a=some u):∀b L (p:Within Grw W.drew b L),p.w.cell? a=some u:=fun _ _ p=>p.hr.tch.cell_some (by exact h) id
@[reducible] def zz4 (ops:Array Oper) (bef:Array Nat) (Vs:List (Nat×Sum Value (Value→World→Prop))) (w0:World):Env:=
 {ops:=ops,bef:=bef,R:=Grw,R0:=Grw,J:=fun _ _=>True,w0:=w0,ks:=fun k=>Vs.lookup k,sp:=fun _=>none,fr:=fun _=>false}
section
variable {P:Program} {ops:Array Oper} {bef:Array Nat} {Vs:List (Nat×Sum Value (Value→World→Prop))} {w0:World} {fin:Act→List (Nat×(World→Prop))→Prop} {o:Oper} {rest:List Oper} {k:Nat} {a:Act} {L:List (Nat×(World→Prop))}
theorem z3m (hw:Region.wanted o (yielded ops a.tmps)=true) (hk:Vs.lookup k=none) (_:(0:Nat)=0) (hp:zgu o.op=true)
 (h:∀K:Act→Prop,(∀a',(zz4 ops bef Vs w0).head P fin rest (k+1) a' L→K a')→o.quiet P a (fun w'=>∃p:Within Grw w0 (bef.getD k 0) L,w'=p.w) K):(zz4 ops bef Vs w0).head P fin (o::rest) k a L:=
 znz (E:=zz4 ops bef Vs w0) hw hk rfl rfl hp h
theorem z4q (x:Value) (hw:Region.wanted o (yielded ops a.tmps)=true) (hk:Vs.lookup k=some (.inl x))
 (h:∀w,Grw w0 w→za8 P o a w (fun v w'=>v=x∧Grw w w')) (h2:(zz4 ops bef Vs w0).head P fin rest (k+1) (a.put o.dst x) L):(zz4 ops bef Vs w0).head P fin (o::rest) k a L:=
 zs7 (E:=zz4 ops bef Vs w0) x hw hk rfl (fun w hr _=>zcs (fun _ _ h=>⟨h,zaf⟩) (h w hr)) h2
theorem q_nil (h:fin a L):(zz4 ops bef Vs w0).head P fin [] k a L:=h
end
theorem z1h {P:Program} {id:Nat} {Q:Exit→Act→World→Prop} {a:Act} {w:World} {l:List Oper} (n:Nat) (Vs:List (Nat×Sum Value (Value→World→Prop))) (hm:P.follows .mixedOrders=true)
 (hn:(decide (n≤l.length))=true) (hc:zj9 [] l.toArray (fun _=>none) n a.tmps.size=true) (hQ:∀d v c a w,Q (.panic c) (a.put d v) w→Q (.panic c) a w) (hV:Stable Grw Vs)
 (h:∀(bef:Array Nat) (ops:Array Oper),bef=Region.before l.toArray→ops=l.toArray→(zz4 ops bef Vs w.drew).head P (fun a' _=>∀w',Grw w.drew w'→wpList P l.toArray Q (l.drop n) a' w') (l.take n) 0 a []):(Code.region id l.toArray true).wp P Q a w:=by
 simp only[zj9,Bool.and_eq_true]at hc;obtain⟨⟨⟨⟨⟨⟨⟨c1,c2⟩,c3⟩,c4⟩,c5⟩,c6⟩,c7⟩,c8⟩:=hc
 refine zf6 (E:=zz4 l.toArray (Region.before l.toArray) Vs w.drew) (n:=n) (m:=0) [] hm rfl rfl ⟨fun _ _ h=>h.tch.size,Grw.refl,fun _ _ _ h k=>h.trans k,fun _ _ h=>h,fun _ _ _ _ _=>trivial,hV.spec,c1,c2,c3,c4,c5,c6⟩ rfl (of_decide_eq_true hn) c7 (by simpa using c8)
  (fun i hi=>by cases hi) (fun i hi=>rfl) hQ ⟨fun k s' _ h=>(by cases h),.inl rfl⟩ trivial ?_
 exact zea (fun a' L' hf w' hr _ _ _=>hf w' hr) _ _ _ _ _ (h _ _ rfl rfl)
theorem z1t (d:Array Rt6):flatK za2 6 d=(d.toList.flatMap za2).toArray:=by
 refine ext_get! (by simp[zc5 zd3]) fun t ht=>?_
 have ht:t<d.size*6:=by simpa using ht
 have h1:t/6<d.size:=by omega
 rw[get_flatK _ _ _ _ ht];have h2:=zfp zd3 d.toList (t/6) (by simpa using h1) (t%6) (Nat.mod_lt _ (by decide));rw[show t/6*6+t%6=t by omega,Array.getElem_toList]at h2;have h3:t<(d.toList.flatMap za2).length:=by rw[zc5 zd3];simpa using ht
 rw[getElem!_pos d (t/6) h1,getElem!_pos (d.toList.flatMap za2).toArray t (by simpa using h3),List.getElem_toArray];have h4:t%6<(za2 d[t/6]).length:=by rw[zd3];exact Nat.mod_lt _ (by decide)
 (try simp only[Array.getElem_toList]);rw[getElem!_pos (za2 d[t/6]) _ h4];rw[List.getElem?_eq_getElem h3,List.getElem?_eq_getElem h4]at h2;exact(Option.some.inj h2).symm
theorem z3n {w:World} {base n size c g:Nat} {e:TypeId} {xs:List Value} (h:w.ownsRow base e size (.slice (some ⟨g,0,none⟩) n c) n xs) {F:Array Value} (hF:F.size=xs.length) (q:Nat) (os:Array Obj):
 (Go.Sort.grow (putRow id (Go.Sort.ahead w q) g 0 F) os).ownsRow base e size (.slice (some ⟨g,0,none⟩) n c) n F.toList:=by
 obtain⟨h0,h1⟩:=h;refine⟨by rw[Array.length_toList,hF,h0],?_⟩
 rcases h1 with⟨h1,_⟩|⟨g',cap,cur,hv,hb,hg,hn,hc,hs,ht⟩
 ·cases h1
 ·injection hv with e1 _ e3;injection e1 with e1;injection e1 with e1;subst e1 e3;have hlt:=(Array.getElem?_eq_some_iff.1 hg).1;have hle:n*size≤cur.size:=by rw[hs];exact Nat.mul_le_mul_right _ hn
  refine .inr ⟨g,c,putCells id 0 F cur,rfl,hb,?_,hn,hc,by simp[putCells,hs],?_⟩
  ·show((putRow id (Go.Sort.ahead w q) g 0 F).heap++os)[g]?=_;rw[Array.getElem?_append_left (by simpa[putRow,mapBlock]using hlt)];show(w.heap.modify g _)[g]?=_;rw[Array.getElem?_modify,if_pos rfl,hg];rfl
  ·apply List.ext_getElem?
   intro j;by_cases hj:j<n*size
   ·rw[List.getElem?_take_of_lt hj,Array.getElem?_toList];simp only[putCells,Array.getElem?_mapIdx,Array.getElem?_eq_getElem (show j<cur.size by omega),Option.map_some];rw[if_pos ⟨Nat.zero_le _,by omega⟩,Nat.sub_zero,id_eq,getElem!_pos F j (by omega),Array.getElem?_toList,Array.getElem?_eq_getElem (by omega)]
   ·rw[List.getElem?_eq_none (by rw[List.length_take];omega),List.getElem?_eq_none (by rw[Array.length_toList];omega)]
theorem z4r {w:World} {base c g:Nat} {e:TypeId} {l:List Rt6} (h:w.ownsRow base e 6 (.slice (some ⟨g,0,none⟩) l.length c) l.length (l.flatMap za2)):HoldsK za2 6 w g 0 l.toArray:=by
 unfold HoldsK;rw[z1t];intro j hj;have hj:j<(l.flatMap za2).length:=by simpa using hj
 rw[Nat.zero_add,id_eq,getElem!_pos (l.flatMap za2).toArray j (by simpa using hj),List.getElem_toArray];refine⟨zk0 h rfl (List.getElem?_eq_getElem hj),?_⟩
 rcases h.2 with⟨hv,_⟩|⟨g',cap,cur,hv,_,hg,_⟩
 ·cases hv
 ·injection hv with e1;injection e1 with e1;injection e1 with e1;subst e1;simp[World.frozen?,hg]
def z2k:List Int→Int
 |[]=>0
 |x::r=>if x≠0 then x else z2k r
def z21 (x y:Rt6):Int:=z2k [Lib.compareInt x.1 y.1,Lib.compareInt x.2.1 y.2.1,Lib.compareInt x.2.2.1 y.2.2.1,Lib.compareInt x.2.2.2.1 y.2.2.2.1,Lib.compareInt x.2.2.2.2.1 y.2.2.2.2.1,Lib.compareInt x.2.2.2.2.2 y.2.2.2.2.2]
def ltC (x y:Rt6):Prop:=x.1<y.1∨(x.1=y.1∧(x.2.1<y.2.1∨(x.2.1=y.2.1∧(x.2.2.1<y.2.2.1∨(x.2.2.1=y.2.2.1∧(x.2.2.2.1<y.2.2.2.1∨(x.2.2.2.1=y.2.2.2.1∧(x.2.2.2.2.1<y.2.2.2.2.1∨(x.2.2.2.2.1=y.2.2.2.2.1∧x.2.2.2.2.2<y.2.2.2.2.2)))))))))
theorem z7j (a b:Int) (r:List Int):z2k (Lib.compareInt a b::r)<0↔a<b∨(a=b∧z2k r<0):=by
 show(if Lib.compareInt a b≠0 then Lib.compareInt a b else z2k r)<0↔_;unfold Lib.compareInt;by_cases h1:a<b
 ·simp[h1]
 ·by_cases h2:a>b
  ·simp[h1,h2];omega
  ·obtain rfl:a=b:=by omega
   simp
theorem z23 (x y:Rt6):z21 x y<0↔ltC x y:=by
 unfold z21 ltC;simp only[z7j];simp[z2k]
theorem swoC:SWO (Go.Proofs.ltOf z21) where
 irrefl x:=by
  unfold Go.Proofs.ltOf;rw[decide_eq_false_iff_not,z23];unfold ltC;omega
 trans x y z h1 h2:=by
  unfold Go.Proofs.ltOf at *;rw[decide_eq_true_eq,z23]at *;unfold ltC at *;omega
 ntrans x y z h1 h2:=by
  unfold Go.Proofs.ltOf at *;rw[decide_eq_false_iff_not,z23]at *;unfold ltC at *;omega
theorem totC (x y:Rt6) (h1:Go.Proofs.ltOf z21 x y=false) (h2:Go.Proofs.ltOf z21 y x=false):x=y:=by
 unfold Go.Proofs.ltOf at *;rw[decide_eq_false_iff_not,z23]at *;unfold ltC at *;obtain⟨x1,x2,x3,x4,x5,x6⟩:=x;obtain⟨y1,y2,y3,y4,y5,y6⟩:=y;simp only at h1 h2;simp only[Prod.mk.injEq];omega
def zza (l:List Rt6):List Rt6:=l.mergeSort fun x y=>!(Go.Proofs.ltOf z21) y x
theorem zzc (l:List Rt6):(zza l).Perm l:=List.mergeSort_perm _ _
theorem z4s {l:List Rt6} (h:l.Nodup):(zza l).Pairwise fun x y=>Go.Proofs.ltOf z21 x y=true:=by
 have h1:(zza l).Pairwise fun x y=>(!(Go.Proofs.ltOf z21) y x)=true:=List.pairwise_mergeSort (fun a b c h1 h2=>by
  simp only[Bool.not_eq_true']at *
  exact swoC.ntrans _ _ _ h2 h1) (fun a b=>by
  simp only[Bool.or_eq_true,Bool.not_eq_true'];by_cases h:Go.Proofs.ltOf z21 b a=true
  ·right
   cases h9:Go.Proofs.ltOf z21 a b with
   |false=>rfl
   |true=>have:=swoC.trans _ _ _ h h9;rw[swoC.irrefl]at this;cases this
  ·left;simpa using h) l
 have h2:(zza l).Nodup:=(zzc l).nodup_iff.2 h;refine List.Pairwise.imp₂ (fun a b h3 h4=>?_) h1 h2
 cases h9:Go.Proofs.ltOf z21 a b with
 |true=>rfl
 |false=>exact absurd (totC a b h9 (by simpa using h3)) h4
theorem z0n (l:List Rt6):(zza l).length=l.length:=(zzc l).length_eq
end Go.Gk
namespace Go.Proofs.YtoegobjnjljegaaGreatDoor
open Go.RowKit Go.Gk Go.Sort
theorem z05 {w:World} {v:Value} {l:List Rt6} (hl:zae za2 6 (fun _=>True) w v l) (hn:l.length≤200000):
 Calls Tryz.prog 170 #[v] w fun e w'=>∃u,e=.returned u∧Outs za2 6 31 w w' u l:=by
 obtain⟨A,c,rfl,hc1,hc2⟩:=hl.form;have hq:∀(w:World) (a:Option Addr) (n c n' c':Nat),(binOp .eql 42 (.slice a n c) (.slice none n' c')).run Tryz.prog w=.ok (.bool a.isNone) w:=fun w a n c n' c'=>Lib.run_eql_slice_nil w _ _ a n c n' c' Tryz.underlying42
 cases A with
 |none=>
  obtain⟨h0,rfl⟩:=hl.src.nil rfl;obtain rfl:l=[]:=List.eq_nil_of_length_eq_zero h0;clear hl;go_enter Tryz.func170,Tryz.ntmps170;go_wp2;go_ret;exact⟨_,rfl,Outs.start _ _ _ (Tch.refl _ _)⟩
 |some a=>
  have tw:=tal w (.cells #[] 31);have hs:=hl.src.keep tw (fun _ _=>id);have h1':=ziv l;go_enter Tryz.func170,Tryz.ntmps170;go_wp2_with (at_builtin;refine apd z00 (zel w 31 6 0 #[] (Nat.zero_le _) rfl) hs h1' ?_;intro v2 w2 ho2 hg2 hl2);go_ret;rw[List.nil_append,Nat.zero_add]at ho2;refine⟨_,rfl,zbk ho2 fun g hg=>?_,tw.trans' (Tch.grown (F:=fun k=>w.heap.size≤k) hg2 fun k hk=>.inl (by have:=zaz hk;omega)) fun i hi=>.inr hi⟩;rcases hl2 g hg with h1|h1
  ·have:=zaz h1;omega
  ·simp at h1;omega
theorem or_any {w:World} {g:Nat} {t:TypeId} {a1 a2 a3 a4 a5 a6:Int} (h:Blk w g t #[iV a1,iV a2,iV a3,iV a4,iV a5,iV a6]):
 Calls Tryz.prog 183 #[.slice (some ⟨g,0,none⟩) 6 6] w fun x w'=>x=.returned (iV (z2k [a1,a2,a3,a4,a5,a6]))∧w'=w:=by
 obtain⟨f0,f1,f2,f3,f4,f5⟩:=h.f6
 obtain⟨r,hr⟩:∃r,z2k [a1,a2,a3,a4,a5,a6]=r:=⟨_,rfl⟩
 rw[hr];have HR:=Lib.hid hr;clear hr h;go_enter Tryz.func183,Tryz.ntmps183;go_wp2_with fail;go_loopw [8] (fun i wr=>∃j:Nat,j≤6∧i=.int .i64 j∧w=wr∧z2k ([a1,a2,a3,a4,a5,a6].drop j)=r) (fun i _=>6-(intOf i).toNat)
 case atStart=>exact⟨0,by omega,rfl,rfl,HR.out⟩
 case round=>
  obtain⟨j,hj,rfl,rfl,hc⟩:=hrel;have HC:=Lib.hid hc;clear hc;rcases(by omega:j=0∨j=1∨j=2∨j=3∨j=4∨j=5∨j=6)with rfl|rfl|rfl|rfl|rfl|rfl|rfl
  ·have HC:=Lib.hid (show(if a1≠0 then a1 else z2k [a2,a3,a4,a5,a6])=r from HC.out);by_cases hz:a1=0
   ·subst hz;go_wp2;go_roundw
    case rel=>exact⟨1,by omega,by go_num,by trivial,HC.out⟩
    case measure=>simp[intOf]
   ·have hzb:(a1 !=0)=true:=by simpa using hz
    have HZ:=Lib.hid hz;clear hz;go_wp2;(try simp only[Exit.inBlock,Exit.then]);(try rw[Exit.noGoto_ret]);go_ret;exact⟨by rw[←HC.out,if_pos HZ.out];rfl,rfl⟩
  ·have HC:=Lib.hid (show(if a2≠0 then a2 else z2k [a3,a4,a5,a6])=r from HC.out);by_cases hz:a2=0
   ·subst hz;go_wp2;go_roundw
    case rel=>exact⟨2,by omega,by go_num,by trivial,HC.out⟩
    case measure=>simp[intOf]
   ·have hzb:(a2 !=0)=true:=by simpa using hz
    have HZ:=Lib.hid hz;clear hz;go_wp2;(try simp only[Exit.inBlock,Exit.then]);(try rw[Exit.noGoto_ret]);go_ret;exact⟨by rw[←HC.out,if_pos HZ.out];rfl,rfl⟩
  ·have HC:=Lib.hid (show(if a3≠0 then a3 else z2k [a4,a5,a6])=r from HC.out);by_cases hz:a3=0
   ·subst hz;go_wp2;go_roundw
    case rel=>exact⟨3,by omega,by go_num,by trivial,HC.out⟩
    case measure=>simp[intOf]
   ·have hzb:(a3 !=0)=true:=by simpa using hz
    have HZ:=Lib.hid hz;clear hz;go_wp2;(try simp only[Exit.inBlock,Exit.then]);(try rw[Exit.noGoto_ret]);go_ret;exact⟨by rw[←HC.out,if_pos HZ.out];rfl,rfl⟩
  ·have HC:=Lib.hid (show(if a4≠0 then a4 else z2k [a5,a6])=r from HC.out);by_cases hz:a4=0
   ·subst hz;go_wp2;go_roundw
    case rel=>exact⟨4,by omega,by go_num,by trivial,HC.out⟩
    case measure=>simp[intOf]
   ·have hzb:(a4 !=0)=true:=by simpa using hz
    have HZ:=Lib.hid hz;clear hz;go_wp2;(try simp only[Exit.inBlock,Exit.then]);(try rw[Exit.noGoto_ret]);go_ret;exact⟨by rw[←HC.out,if_pos HZ.out];rfl,rfl⟩
  ·have HC:=Lib.hid (show(if a5≠0 then a5 else z2k [a6])=r from HC.out);by_cases hz:a5=0
   ·subst hz;go_wp2;go_roundw
    case rel=>exact⟨5,by omega,by go_num,by trivial,HC.out⟩
    case measure=>simp[intOf]
   ·have hzb:(a5 !=0)=true:=by simpa using hz
    have HZ:=Lib.hid hz;clear hz;go_wp2;(try simp only[Exit.inBlock,Exit.then]);(try rw[Exit.noGoto_ret]);go_ret;exact⟨by rw[←HC.out,if_pos HZ.out];rfl,rfl⟩
  ·have HC:=Lib.hid (show(if a6≠0 then a6 else z2k [])=r from HC.out);by_cases hz:a6=0
   ·subst hz;go_wp2;go_roundw
    case rel=>exact⟨6,by omega,by go_num,by trivial,HC.out⟩
    case measure=>simp[intOf]
   ·have hzb:(a6 !=0)=true:=by simpa using hz
    have HZ:=Lib.hid hz;clear hz;go_wp2;(try simp only[Exit.inBlock,Exit.then]);(try rw[Exit.noGoto_ret]);go_ret;exact⟨by rw[←HC.out,if_pos HZ.out];rfl,rfl⟩
  ·have HC:=Lib.hid (show(0:Int)=r from HC.out);go_wp2;go_ret;exact⟨by rw[←HC.out];rfl,rfl⟩
theorem cmpC_any (x y:Rt6) (w:World):
 Calls Tryz.prog 240 #[.agg (za2 x).toArray,.agg (za2 y).toArray] w fun e w'=>e=.returned (iV (z21 x y))∧Grw w w':=by
 obtain⟨a1,a2,a3,a4,a5,a6⟩:=x;obtain⟨b1,b2,b3,b4,b5,b6⟩:=y;have HC:=Lib.hid (fun x y w'=>Tryz.cmp_Compare_int x y w');unfold za2 z21;simp only
 obtain⟨r1,hr1⟩:∃r,Lib.compareInt a1 b1=r:=⟨_,rfl⟩
 obtain⟨r2,hr2⟩:∃r,Lib.compareInt a2 b2=r:=⟨_,rfl⟩
 obtain⟨r3,hr3⟩:∃r,Lib.compareInt a3 b3=r:=⟨_,rfl⟩
 obtain⟨r4,hr4⟩:∃r,Lib.compareInt a4 b4=r:=⟨_,rfl⟩
 obtain⟨r5,hr5⟩:∃r,Lib.compareInt a5 b5=r:=⟨_,rfl⟩
 obtain⟨r6,hr6⟩:∃r,Lib.compareInt a6 b6=r:=⟨_,rfl⟩
 rw[hr1,hr2,hr3,hr4,hr5,hr6];have HR:=Lib.hid (⟨hr1,hr2,hr3,hr4,hr5,hr6⟩:_∧_∧_∧_∧_∧_);clear hr1 hr2 hr3 hr4 hr5 hr6;have bA:=(Blk.new w 31 #[iV a1,iV a2,iV a3,iV a4,iV a5,iV a6]).keep (tal _ (.cells #[iV b1,iV b2,iV b3,iV b4,iV b5,iV b6] 31)) id;have bB:=Blk.new2 w (.cells #[iV a1,iV a2,iV a3,iV a4,iV a5,iV a6] 31) 31 #[iV b1,iV b2,iV b3,iV b4,iV b5,iV b6];have gW:Grw w ((w.alloc (.cells #[iV a1,iV a2,iV a3,iV a4,iV a5,iV a6] 31)).alloc (.cells #[iV b1,iV b2,iV b3,iV b4,iV b5,iV b6] 31)):=(Grw.alloc _ _).trans (Grw.alloc _ _);go_enter Tryz.func240,Tryz.ntmps240;go_wp2_with fail;generalize(w.alloc (.cells #[iV a1,iV a2,iV a3,iV a4,iV a5,iV a6] 31)).alloc _=W at *;generalize w.heap.size=z at *;have x0:=grc bA.at0;have x1:=grc bA.at1;have x2:=grc bA.at2;have x3:=grc bA.at3;have x4:=grc bA.at4;have x5:=grc bA.at5;have y0:=grc bB.at0;have y1:=grc bB.at1;have y2:=grc bB.at2;have y3:=grc bB.at3;have y4:=grc bB.at4;have y5:=grc bB.at5;refine z1h 29 [(4,.inl (iV r1)),(9,.inl (iV r2)),(14,.inl (iV r3)),(19,.inl (iV r4)),(24,.inl (iV r5))] (by kernel_rfl) rfl (by kernel_rfl) (fun d _ _ _ _ h=>by cases d<;>exact h) trivial ?_;intro bef ops hbef hops;clear hbef;subst hops;simp only[tkS];iterate 4 (refine z3m (by rfl) (by rfl) (by rfl) (by rfl) (fun K hK=>?_);go_big_quiet_op;(first|refine hK _ ?_|refine⟨_,fun _=>rfl,hK _ ?_⟩);clear hK K;(try simp only[zaw]))
 refine z4q (iV r1) (by rfl) (by rfl) (fun wa hr=>?_) ?_
 ·refine zaa (d:=9) rfl (by simp) (fun K hK=>?_);go_step;refine(HC.out a1 b1 wa).mono ?_;rintro _ wb ⟨rfl,rfl⟩;exact hK _ _ ⟨by rw[HR.out.1],Grw.refl _⟩
 simp only[zaw];iterate 4 (refine z3m (by rfl) (by rfl) (by rfl) (by rfl) (fun K hK=>?_);go_big_quiet_op;(first|refine hK _ ?_|refine⟨_,fun _=>rfl,hK _ ?_⟩);clear hK K;(try simp only[zaw]))
 refine z4q (iV r2) (by rfl) (by rfl) (fun wa hr=>?_) ?_
 ·refine zaa (d:=14) rfl (by simp) (fun K hK=>?_);go_step;refine(HC.out a2 b2 wa).mono ?_;rintro _ wb ⟨rfl,rfl⟩;exact hK _ _ ⟨by rw[HR.out.2.1],Grw.refl _⟩
 simp only[zaw];iterate 4 (refine z3m (by rfl) (by rfl) (by rfl) (by rfl) (fun K hK=>?_);go_big_quiet_op;(first|refine hK _ ?_|refine⟨_,fun _=>rfl,hK _ ?_⟩);clear hK K;(try simp only[zaw]))
 refine z4q (iV r3) (by rfl) (by rfl) (fun wa hr=>?_) ?_
 ·refine zaa (d:=19) rfl (by simp) (fun K hK=>?_);go_step;refine(HC.out a3 b3 wa).mono ?_;rintro _ wb ⟨rfl,rfl⟩;exact hK _ _ ⟨by rw[HR.out.2.2.1],Grw.refl _⟩
 simp only[zaw];iterate 4 (refine z3m (by rfl) (by rfl) (by rfl) (by rfl) (fun K hK=>?_);go_big_quiet_op;(first|refine hK _ ?_|refine⟨_,fun _=>rfl,hK _ ?_⟩);clear hK K;(try simp only[zaw]))
 refine z4q (iV r4) (by rfl) (by rfl) (fun wa hr=>?_) ?_
 ·refine zaa (d:=24) rfl (by simp) (fun K hK=>?_);go_step;refine(HC.out a4 b4 wa).mono ?_;rintro _ wb ⟨rfl,rfl⟩;exact hK _ _ ⟨by rw[HR.out.2.2.2.1],Grw.refl _⟩
 simp only[zaw];iterate 4 (refine z3m (by rfl) (by rfl) (by rfl) (by rfl) (fun K hK=>?_);go_big_quiet_op;(first|refine hK _ ?_|refine⟨_,fun _=>rfl,hK _ ?_⟩);clear hK K;(try simp only[zaw]))
 refine z4q (iV r5) (by rfl) (by rfl) (fun wa hr=>?_) ?_
 ·refine zaa (d:=29) rfl (by simp) (fun K hK=>?_);go_step;refine(HC.out a5 b5 wa).mono ?_;rintro _ wb ⟨rfl,rfl⟩;exact hK _ _ ⟨by rw[HR.out.2.2.2.2.1],Grw.refl _⟩
 simp only[zaw];iterate 4 (refine z3m (by rfl) (by rfl) (by rfl) (by rfl) (fun K hK=>?_);go_big_quiet_op;(first|refine hK _ ?_|refine⟨_,fun _=>rfl,hK _ ?_⟩);clear hK K;(try simp only[zaw]))
 refine q_nil ?_;intro w3 hr;have HC6:=Lib.hid (HC.out a6 b6 w3);rw[HR.out.2.2.2.2.2]at HC6;have HO:=Lib.hid (or_any (Blk.new w3 3 #[iV r1,iV r2,iV r3,iV r4,iV r5,iV r6]));have HG:=Lib.hid (gW.trans ((Grw.drew W).trans hr));clear x0 x1 x2 x3 x4 x5 y0 y1 y2 y3 y4 y5 bA bB gW hr HC;go_wp2_with fail;refine HC6.out.mono ?_;rintro _ _ ⟨rfl,rfl⟩;clear HC6;go_wp2_with fail;refine HO.out.mono ?_;rintro _ _ ⟨rfl,rfl⟩;clear HO;go_wp2;go_ret;exact⟨rfl,HG.out.trans (Grw.alloc _ _)⟩
theorem z4t {w0 w:World} {v:Value} {l:List Rt6} (hO:Outs za2 6 31 w0 w v l) (hn:l.length≤200000):
 Calls Tryz.prog 239 #[v,.func (.func 240) #[] #[]] w fun e w'=>e=.returned (.tuple #[])∧Outs za2 6 31 w0 w' v (zza l):=by
 obtain⟨A,c,rfl,h1,h2⟩:=hO.form;by_cases h0:0<l.length
 ·obtain⟨g,rfl⟩:=ziq hO.own h0;have hg:=hO.own.lt g rfl;have hcon:=AnyQ.slices_SortFunc_total Tryz.sortCells 6 Tryz.isAgg31 Tryz.sizeOf31 za2 zd3 (fun x v hv=>ziv [x] v (by simpa using hv)) z21 swoC 240 #[] g 0 c l.toArray w (enters_of Tryz.func240 (by kernel_rfl) rfl) (fun m os dk _ x y=>cmpC_any x y _) (z4r hO.own) hg.2 (by simp;omega) totC;refine(show Calls Tryz.prog 239 _ w _ from hcon).mono ?_;rintro e w' ⟨rfl,n,os,rfl⟩
  have hw:sortWorldK za2 6 w g 0 n (zza l).toArray os=Go.Sort.grow (putRow id (Go.Sort.ahead w n) g 0 ((zza l).flatMap za2).toArray) os:=by
   unfold sortWorldK putRowK;rw[z1t]
  have ho:=z3n (F:=((zza l).flatMap za2).toArray) hO.own (by rw[List.size_toArray,zc5 zd3,zc5 zd3,z0n]) n os;have ht:=Tch.putrow id w n g 0 ((zza l).flatMap za2).toArray os;rw[←hw]at ho ht;refine⟨rfl,⟨?_,hO.tch.trans' ht (fun i hi=>.inr (by have hi:i=g:=hi;omega))⟩⟩;rw[z0n];exact ho
 ·obtain rfl:l=[]:=List.eq_nil_of_length_eq_zero (by omega);refine(show Calls Tryz.prog 239 _ w _ from AnyF.slices_SortFunc_none Tryz.sortCells A c (.func (.func 240) #[] #[]) w).mono ?_;rintro e w' ⟨rfl,rfl⟩;exact⟨rfl,by simpa[zza]using hO⟩
theorem z1u {w:World} {v:Value} {l:List Rt6} (hl:zae za2 6 (fun _=>True) w v l) (hn:l.length≤200000) (hd:∀(j:Nat) (h:j+1<l.length),l[j+1]≠l[j]):
 Calls Tryz.prog 241 #[v] w fun x w'=>x=.returned v∧Tf w w':=by
 obtain⟨A,c,rfl,hc1,hc2⟩:=hl.form;have HL:=Lib.hid (fun w' (t9:Tf w w')=>hl.keep t9);have HD:=Lib.hid hd;clear hd;by_cases h2:l.length<2
 ·have h2':(l.length:Int)<2:=by omega
  clear hl;go_enter Tryz.func241,Tryz.ntmps241;go_wp2;(try simp only[Exit.inBlock,Exit.then]);(try rw[Exit.noGoto_ret]);go_ret;exact⟨rfl,Tch.refl _ _⟩
 have h2':¬(l.length:Int)<2:=by omega
 clear hl;go_enter Tryz.func241,Tryz.ntmps241;go_wp2_with fail;go_loopw [3] (fun i wr=>∃j:Nat,1≤j∧j≤l.length∧i=.int .i64 (j:Int)∧Tf w wr) (fun i _=>l.length-(intOf i).toNat)
 case atStart=>exact⟨1,Nat.le_refl _,by omega,rfl,Tch.refl _ _⟩
 case round=>
  obtain⟨j,hj1,hj,rfl,ht⟩:=hrel;by_cases hlt:j<l.length
  ·have hlt':(j:Int)<(l.length:Int):=by omega
   have hj0:=znn j;have hl9:=HL.out wr ht;obtain⟨g,o,rfl⟩:=hl9.head (by omega);have hql:j-1<l.length:=by omega
   obtain⟨x0,x1,x2,x3,x4,x5⟩:=Row.six hl9 zd3 hlt rfl;obtain⟨y0,y1,y2,y3,y4,y5⟩:=Row.six hl9 zd3 hql rfl;have hne:l[j]≠l[j-1]:=by have h:=HD.out (j-1) (by omega);simpa only[show j-1+1=j by omega]using h
   generalize l[j]=a at *;generalize l[j-1]=b at *;obtain⟨a1,a2,a3,a4,a5,a6⟩:=a;obtain⟨b1,b2,b3,b4,b5,b6⟩:=b;simp only at x0 x1 x2 x3 x4 x5 y0 y1 y2 y3 y4 y5
   have hcmp:∀w':World,(binOp .eql 31 (.agg #[iV a1,iV a2,iV a3,iV a4,iV a5,iV a6]) (.agg #[iV b1,iV b2,iV b3,iV b4,iV b5,iV b6])).run Tryz.prog w'=.ok (.bool false) w':=fun w'=>by
    rw[zh7]
    have h9:(a1==b1&&a2==b2&&a3==b3&&a4==b4&&a5==b5&&a6==b6)=false:=by
     rw[Bool.eq_false_iff];intro h;simp only[Bool.and_eq_true,beq_iff_eq]at h;obtain⟨⟨⟨⟨⟨rfl,rfl⟩,rfl⟩,rfl⟩,rfl⟩,rfl⟩:=h;exact hne rfl
    rw[h9]
   have HQ:=Lib.hid (show(0:Int)≤(j:Int)-1 by omega);have X0:=wc0 x0;have X1:=wc0 x1;have X2:=wc0 x2;have X3:=wc0 x3;have X4:=wc0 x4;have X5:=wc0 x5;have Y0:=wc0 y0;have Y1:=wc0 y1;have Y2:=wc0 y2;have Y3:=wc0 y3;have Y4:=wc0 y4;have Y5:=wc0 y5;clear hl9 hne x0 x1 x2 x3 x4 x5 y0 y1 y2 y3 y4 y5;go_wp2_with fail;refine zai (fun _=>False) [] 9 [] [] trivial ?_;intro bef _;iterate 9 (refine zbt ?_;(try simp only[zaw]))
   refine za6 ?_;intro w7 hr _ _;have T7:=ht.trans ((Tch.drew (fun _=>False) wr).trans hr);clear X0 X1 X2 X3 X4 X5 Y0 Y1 Y2 Y3 Y4 Y5 hr;go_wp2;go_roundw
   case rel=>exact⟨j+1,by omega,by omega,by go_num,T7⟩
   case measure=>simp[intOf]<;>omega
  ·obtain rfl:j=l.length:=by omega
   have hlt':¬(l.length:Int)<(l.length:Int):=by omega
   go_wp2;go_ret;exact⟨rfl,ht⟩
theorem z3o {w:World} {v:Value} {l:List Rt6} (hl:zae za2 6 (fun _=>True) w v l) (hn:l.length≤200000) (hd:l.Nodup):
 Calls Tryz.prog 171 #[v] w fun x w'=>∃u,x=.returned u∧Outs za2 6 31 w w' u (zza l):=by
 have HC:=Lib.hid (z05 hl hn);have HS:=Lib.hid (z4s hd);have HN:=Lib.hid (show(zza l).length≤200000 by rw[z0n];exact hn);clear hl;go_enter Tryz.func171,Tryz.ntmps171;go_wp2_with fail;refine HC.out.mono ?_;rintro _ w1 ⟨u,rfl,hO⟩;have HSF:=Lib.hid (z4t hO hn);clear HC hO;go_wp2_with fail;refine HSF.out.mono ?_;rintro _ w2 ⟨rfl,hO⟩
 have HCP:=Lib.hid (z1u hO.row HN.out (fun j h e=>by
  have h1:=List.pairwise_iff_getElem.1 HS.out j (j+1) (by omega) h (by omega);rw[e,swoC.irrefl]at h1
  cases h1))
 clear HSF;go_wp2_with fail;refine HCP.out.mono ?_;rintro _ w3 ⟨rfl,t3⟩;have hO3:=hO.keep t3;clear HCP;go_wp2;go_ret;exact⟨u,rfl,hO3⟩
end Go.Proofs.YtoegobjnjljegaaGreatDoor
namespace Go.Gk.V38
open Go.RowKit Go.Gk.V32 Go.Gk.V33 Go.Gk.V37
inductive Need (b:Bks) (l:List Rt6):Rt6→Prop
 |base {k:Rt6}:k∈l→Need b l k
 |step {c k:Rt6}:Need b l c→k∈zyk (zfg b c).1→Need b l k
def z3p (b:Bks):List Rt6→Int
 |[]=>0
 |c::r=>if za3 c b.ents.length b.accs.length≠0 then za3 c b.ents.length b.accs.length else z3p b r
structure Went (b:Bks) (l th td:List Rt6):Prop where
 nd:th.Nodup
 need:∀k,k∈th∨k∈td→Need b l k
 base:∀k∈l,k∈th∨k∈td
 shut:∀c∈th,∀k∈zyk (zfg b c).1,k∈th∨k∈td
theorem Went.start (b:Bks) (l:List Rt6):Went b l [] l:=⟨List.nodup_nil,fun _ h=>(h.elim (fun h=>(List.not_mem_nil h).elim) .base),fun _ h=>.inr h,fun _ h=>(List.not_mem_nil h).elim⟩
theorem Went.skip {b:Bks} {l th td:List Rt6} {c:Rt6} (h:Went b l th (td++[c])) (hc:c∈th):Went b l th td:=by
 have hx:∀k,k∈th∨k∈td++[c]→k∈th∨k∈td:=fun k hk=>by
  rcases hk with hk|hk
  ·exact .inl hk
  ·rcases List.mem_append.1 hk with hk|hk
   ·exact .inr hk
   ·rw[List.mem_singleton]at hk;exact .inl (hk▸hc)
 exact⟨h.nd,fun k hk=>h.need k (hk.imp id fun h=>List.mem_append_left _ h),fun k hk=>hx k (h.base k hk),fun d hd k hk=>hx k (h.shut d hd k hk)⟩
theorem Went.take {b:Bks} {l th td:List Rt6} {c:Rt6} (h:Went b l th (td++[c])) (hc:c∉th):Went b l (th++[c]) (td++zyk (zfg b c).1):=by
 have hn:Need b l c:=h.need c (.inr (List.mem_append_right _ (List.mem_singleton.2 rfl)))
 have hx:∀k,k∈th∨k∈td++[c]→k∈th++[c]∨k∈td++zyk (zfg b c).1:=fun k hk=>by
  rcases hk with hk|hk
  ·exact .inl (List.mem_append_left _ hk)
  ·rcases List.mem_append.1 hk with hk|hk
   ·exact .inr (List.mem_append_left _ hk)
   ·exact .inl (List.mem_append_right _ hk)
 refine⟨List.nodup_append.2 ⟨h.nd,by simp,fun a ha d hd e=>by rw[List.mem_singleton]at hd;subst hd;exact hc (e▸ha)⟩,fun k hk=>?_,fun k hk=>hx k (h.base k hk),fun d hd k hk=>?_⟩
 ·rcases hk with hk|hk
  ·rcases List.mem_append.1 hk with hk|hk
   ·exact h.need k (.inl hk)
   ·rw[List.mem_singleton]at hk;exact hk▸hn
  ·rcases List.mem_append.1 hk with hk|hk
   ·exact h.need k (.inr (List.mem_append_left _ hk))
   ·exact hn.step hk
 ·rcases List.mem_append.1 hd with hd|hd
  ·exact hx k (h.shut d hd k hk)
  ·rw[List.mem_singleton]at hd;exact .inr (List.mem_append_right _ (hd▸hk))
theorem Went.done {b:Bks} {l th:List Rt6} (h:Went b l th []) (k:Rt6):k∈th↔Need b l k:=by
 refine⟨fun hk=>h.need k (.inl hk),fun hk=>?_⟩;induction hk with
 |base hk=>exact(h.base _ hk).elim id fun h=>(List.not_mem_nil h).elim
 |step _ hk ih=>exact(h.shut _ ih _ hk).elim id fun h=>(List.not_mem_nil h).elim
structure NeedsAns (b:Bks) (l:List Rt6) (most:Int) (L:List Rt6) (er:Int):Prop where
 arg:most<1∨20000<most→L=[]∧er=2
 bad:¬(most<1∨20000<most)→z3p b l≠0→L=[]∧er=z3p b l
 ans:¬(most<1∨20000<most)→z3p b l=0→(L=[]∧er=3∧∃S:List Rt6,S.Nodup∧(∀k∈S,Need b l k)∧most<(S.length:Int))∨(er=0∧(L.length:Int)≤most∧∃S:List Rt6,S.Nodup∧L=zza S∧∀k,k∈S↔Need b l k)
end Go.Gk.V38
namespace Go.Gk
open Go.RowKit Go.Instr
theorem z06 {α:Type} (f:α→α) (x:α):∀l:List α,(l++[x]).modify l.length f=l++[f x]
 |[]=>rfl
 |y::r=>by
  have:=z06 f x r;simpa using this
def lenS:Value→Nat
 | .slice _ n _=>n
 |_=>0
def mapN (w:World) (b:Nat):Nat:=match w.heap[b]? with
 |some (.map es _)=>es.size
 |_=>0
section
variable {κ:Type} [DecidableEq κ] {P:Program} {K:TypeId} {enc:κ→Value}
omit [DecidableEq κ] in
theorem MapB.size {w:World} {b:Nat} {m:List (κ×Value)} (h:MapB enc w b m):mapN w b=m.length:=by
 obtain⟨es,c,h1,h2,_⟩:=h;unfold mapN;rw[h1];have:=congrArg List.length h2;simpa using this
omit [DecidableEq κ] in
theorem z1i {ops:Array Oper} {rest:List Oper} {o:Oper} {a:Act} {w:World} {Q:Exit→Act→World→Prop} (hg:o.guard=none) (m:Operand) (t:TypeId) (hop:o.op=Op.call {callee:=Callee.builtin Builtin.len,args:= #[m],argTypes:= #[t]})
 (e:TypeId) (ht:P.underlying t=some (.map K e)) {b:Nat} {l:List (κ×Value)} (hm:a.eval m=.map (some b)) (h:MapB enc w b l) (hK:wpList P ops Q rest (a.put o.dst (iV (l.length:Int))) w):wpList P ops Q (o::rest) a w:=by
 refine wpList_plain hg fun K' hK'=>?_
 obtain⟨es,c,h1,h2,_⟩:=h;have hl:es.size=l.length:=by have:=congrArg List.length h2;simpa using this
 have hrun:(Builtin.len_ #[t] o.type #[.map (some b)]).run P w=.ok (iV (l.length:Int)) w:=by
  simp[Builtin.len_,run_underlying ht,MapKept.run_getObj_map h1,goInt,Result.andThen,hl]
 unfold Oper.wp;simp[execOp,hop,resolve,invoke,builtin,hm,hrun,Result.andThen];exact hK' _ _ hK
theorem z0c (z:Value) (k:κ):∀m:List (κ×Value),zar m k=none→zar (m++[(k,z)]) k=some z
 |[],_=>by simp[zar]
 |x::r,h=>by
  rw[List.cons_append];unfold zar at h⊢;by_cases hx:k=x.1
  ·rw[if_pos hx]at h;cases h
  ·rw[if_neg hx]at h⊢;exact z0c z k r h
omit [DecidableEq κ] in
theorem zzd {ops:Array Oper} {rest:List Oper} {o:Oper} {a:Act} {w:World} {Q:Exit→Act→World→Prop} (hg:o.guard=none) (T:TypeId) (m s x:Operand) (hop:o.op=Op.entryStore T m s x) {b n:Nat} {u:Value}
 (hm:a.eval m=.map (some b)) (hs:a.eval s=iV (n:Int)) (hx:a.eval x=u) {R:World→Prop} (hrun:∃w',(Instr.entryStore T (.map (some b)) (iV (n:Int)) u).run P w=.ok () w'∧R w') (hK:∀w',R w'→wpList P ops Q rest (a.put o.dst undef) w'):wpList P ops Q (o::rest) a w:=by
 refine wpList_plain hg fun K' hK'=>?_
 obtain⟨w',hrun,h1⟩:=hrun;unfold Oper.wp;simp[execOp,hop,hm,hs,hx,hrun,Result.andThen];exact hK' _ _ (hK w' h1)
theorem z1v (L:KeyLaw P K enc) {T E:TypeId} (hT:P.underlying T=some (.map K E)) {z:Value} (hz:∀w,(zeroValue E).run P w=.ok z w) {m:List (κ×Value)} {es:Array MapEntry} {c:Nat} (h2:es.toList.map (fun e=>(e.key,e.val))=m.map (fun p=>(enc p.1,p.2))) (h3:Born es c) (b:Nat) (k:κ) (hn:zar m k=none):
 ∃es' c',(∀w:World,w.heap[b]?=some (.map es c)→∃w',(Instr.mapEntry T (.map (some b)) (enc k)).run P w=.ok (.tuple #[z,iV ((c:Nat):Int)]) w'∧w'.heap[b]?=some (.map es' c')∧Tch (fun g=>g=b) w w')∧
  (∀w:World,w.heap[b]?=some (.map es' c')→MapIs enc w b (m++[(k,z)])∧∀u,∃w',(Instr.entryStore T (.map (some b)) (iV ((c:Nat):Int)) u).run P w=.ok () w'∧MapB enc w' b (m++[(k,u)])∧Tch (fun g=>g=b) w w'):=by
 have hi:=zlg m k 0;have hlen:es.toList.length=m.length:=by have:=congrArg List.length h2;simpa using this
 have hes:es.size=m.length:=by simpa using hlen
 have hset:∀(w:World) (es:Array MapEntry) (c:Nat) (o:Obj),w.heap[b]?=some (.map es c)→(setObj b o).run P w=.ok () {w with heap:=w.heap.setIfInBounds b o}:=fun w _ _ o h=>MapKept.run_setObj_map o h
 have ht:∀(w:World) (o:Obj),Tch (fun g=>g=b) w {w with heap:=w.heap.setIfInBounds b o}:=fun w o=>⟨rfl,rfl,rfl,by simp,fun k _ hn=>by simp only;rw[Array.getElem?_setIfInBounds_ne (fun e=>hn e.symm)]⟩
 have hnew:∀(w:World) (es:Array MapEntry) (c:Nat) (o:Obj),w.heap[b]?=some (.map es c)→({w with heap:=w.heap.setIfInBounds b o}:World).heap[b]?=some o:=fun w _ _ o h=>by
  have:=(Array.getElem?_eq_some_iff.1 h).1;simp[this]
 cases ha:zm6 m k 0 with
 |some q=>rw[ha,hn]at hi;cases hi
 |none=>
  have hb:=h3.push (enc k) z;refine⟨es.push {key:=enc k,val:=z,born:=c},c+1,fun w h1=>?_,fun w h=>⟨⟨_,_,h,?_⟩,fun u=>?_⟩⟩
  ·have hf:=run_findKey L k m es.toList w h2;refine⟨_,?_,hnew w _ _ _ h1,ht w _⟩;unfold Instr.mapEntry;rw[Sem.run_bind,run_underlying hT];simp only[Result.andThen_ok,Sem.run_bind,MapKept.run_getObj_map h1,L.check,hf,ha,hz,hset w _ _ _ h1,Sem.run_pure,goInt]
  ·rw[Array.toList_push,List.map_append,h2];simp
  ·have hfd:=hb.find (i:=es.size) (by simp);rw[show((es.push {key:=enc k,val:=z,born:=c})[es.size]'(by simp)).born=c by simp]at hfd;unfold Instr.entryStore;simp only[Sem.run_bind,MapKept.run_getObj_map h,Result.andThen_ok,asInt,asIntOf,Sem.run_pure,hfd,hset w _ _ _ h];refine⟨_,rfl,⟨_,_,hnew w _ _ _ h,?_,hb.modify _ _ (fun _=>rfl)⟩,ht _ _⟩;rw[Array.toList_modify,Array.toList_push,List.map_append,List.map_singleton,←h2];rw[show es.size=es.toList.length by simp,z06];simp
end
open Go.RowKit Go.ChangeMaps
def z16 (w:World) (r:Nat):Nat:=match w.heap[r]? with
 |some (.mapIter _ _ seen _)=>seen.size
 |_=>0
def zyx (es:Array MapEntry) (i:Nat):Nat:=((es[i]?).map (·.born)).getD 0
theorem born_inj {es:Array MapEntry} {c:Nat} (h:Born es c) {i j:Nat} (hi:i<es.size) (hj:j<es.size) (e:zyx es i=zyx es j):i=j:=by
 unfold zyx at e;rw[Array.getElem?_eq_getElem hi,Array.getElem?_eq_getElem hj]at e;exact h.1 i j hi hj e
theorem left_mem {es:Array MapEntry} {L:List Nat} {e:MapEntry} (h:e∈(leftOf es (L.map (zyx es)).toArray).toList):∃i,∃hi:i<es.size,es[i]=e∧i∉L:=by
 unfold leftOf at h;have h1:e∈es∧(!(L.map (zyx es)).toArray.contains e.born)=true:=by simpa using h
 obtain⟨i,hi,rfl⟩:=Array.getElem_of_mem h1.1;refine⟨i,hi,rfl,fun hL=>?_⟩;have h2:=h1.2;simp only[Bool.not_eq_true',List.contains_toArray]at h2;have h3:zyx es i=es[i].born:=by unfold zyx;rw[Array.getElem?_eq_getElem hi];rfl
 have h4:es[i].born∈L.map (zyx es):=h3▸List.mem_map.2 ⟨i,hL,rfl⟩;rw[List.contains_iff_mem.2 h4]at h2
 cases h2
theorem z5e {es:Array MapEntry} {c:Nat} (hb:Born es c) {L:List Nat} (hL:∀i∈L,i<es.size) (h:(leftOf es (L.map (zyx es)).toArray).size=0):∀i,i<es.size→i∈L:=fun i hi=>by
 unfold leftOf at h;have h1:=Array.eq_empty_of_size_eq_zero h;rw[Array.filter_eq_empty_iff]at h1;have h2:=h1 es[i] (by simp);simp only[Bool.not_eq_true',Bool.not_eq_false,List.contains_toArray]at h2
 have h2:zyx es i∈L.map (zyx es):=by
  have h3:zyx es i=es[i].born:=by unfold zyx;rw[Array.getElem?_eq_getElem hi];rfl
  rw[h3];simpa using h2
 obtain⟨j,hj,e⟩:=List.mem_map.1 h2;exact(born_inj hb (hL j hj) hi e)▸hj
theorem perm_all {L:List Nat} {n:Nat} (hn:L.Nodup) (hL:∀i∈L,i<n) (ha:∀i,i<n→i∈L) {α:Type} [Inhabited α] {ks:List α} (hk:ks.length=n):(L.map fun i=>ks.getD i default).Perm ks:=by
 have h1:L.Perm (List.range n):=(List.perm_ext_iff_of_nodup hn List.nodup_range).2 fun i=>⟨fun h=>List.mem_range.2 (hL i h),fun h=>ha i (List.mem_range.1 h)⟩
 refine(h1.map _).trans ?_
 have h2:(List.range n).map (fun i=>ks.getD i default)=ks:=by
  apply List.ext_getElem
  ·simp[hk]
  ·intro i h3 h4;simp[List.getD,List.getElem?_eq_getElem h4]
 rw[h2]
theorem z01 {w w1:World} {r:Nat} {o:Obj} (h:w1=w∨w1=w.drew):w.grownBy (setBlock w1 r o) (some r):=by
 rcases h with rfl|rfl<;>exact⟨rfl,rfl,rfl,by simp[setBlock],fun i _ hi=>by
  show(Array.setIfInBounds _ r o)[i]?=_;rw[Array.getElem?_setIfInBounds_ne (fun e=>hi (by rw[e]))]
  try rfl⟩
theorem z2t {w w1:World} {r:Nat} {o:Obj} (h:w1=w∨w1=w.drew) (hr:r<w.heap.size):(setBlock w1 r o).heap[r]?=some o:=by
 rcases h with rfl|rfl<;>(show(Array.setIfInBounds _ r o)[r]?=_;rw[Array.getElem?_setIfInBounds_self_of_lt (by simpa using hr)])
theorem z17 {w w1:World} {r i:Nat} {o:Obj} (h:w1=w∨w1=w.drew) (hi:i≠r):(setBlock w1 r o).heap[i]?=w.heap[i]?:=by
 rcases h with rfl|rfl<;>(show(Array.setIfInBounds _ r o)[i]?=_;rw[Array.getElem?_setIfInBounds_ne (fun e=>hi e.symm)];try rfl)
theorem z35 {P:Program} {T K E:TypeId} (hT:P.underlying T=some (.map K E)) {w:World} {b:Nat} {es:Array MapEntry} {c:Nat} (hm:w.heap[b]?=some (.map es c)):(Instr.range T (.map (some b))).run P w=.ok (.pointer (some ⟨w.heap.size,0,none⟩)) (w.alloc (.mapIter (some b) c #[] c)):=by
 unfold Instr.range;simp only[Sem.run_bind,run_underlying hT,Result.andThen_ok,MapKept.run_getObj_map hm,Sem.run_pure,run_newObj_alloc]
end Go.Gk
namespace Go.Proofs.YtoegobjnjljegaaGreatDoor
open Go.RowKit Go.Gk Go.Shelf Go.ChangeMaps
theorem keysC_in (F:Fence) (n:Nat) (h1:F.fn 173) (hro:F.round=none) (b:Nat) (w:World):
 CallsIn F n Tryz.prog 173 #[.map (some b)] w fun e w'=>e=.returned (.func (.func 243) #[] #[.pointer (some ⟨w.heap.size,0,none⟩)])∧w'=w.alloc (.cells #[.map (some b)] 156):=by
 refine callsIn_of_wp Tryz.func173 rfl h1 ?_ hro;simp only[Tryz.ntmps173,List.size_toArray,List.length_cons,List.length_nil,Nat.reduceAdd,Nat.reduceSub,Array.replicate_succ,Array.replicate_zero,List.push_toArray,List.append_toArray,List.nil_append,List.cons_append];gi_wp2
 go_ret;exact⟨rfl,rfl⟩
theorem keys1_in (F:Fence) (n:Nat) (h1:F.fn 243) (hro:F.round=none) (hn:1≤n) (l Bm b:Nat) {es:Array MapEntry} {clock:Nat} {ks:List Rt6} (hkey:es.toList.map (·.key)=ks.map zcq) (hborn:Born es clock) (J Jx:List Rt6→World→Prop) (Kp:World→World→Prop) (hKw:∀W1 W',Kp W1 W'→KeepsWalks W1 W')
 (W:World) (hJ:AbidesFrom W.heap.size J)
 (hY:∀pre x W1,J pre W1→pre.length<ks.length→YieldAt F (n-1) Tryz.prog l #[zcq x] W1 fun e W'=>
  (e=.returned (.bool true)∧J (pre++[x]) W'∧Kp W1 W')∨(e=.returned (.bool false)∧Jx (pre++[x]) W'))
 (hB:W.cell? ⟨Bm,0,none⟩=some (.map (some b))) (hm:W.heap[b]?=some (.map es clock)) (h0:J [] W):
 CallsIn F n Tryz.prog 243 #[.func (.yield l) #[] #[],.pointer (some ⟨Bm,0,none⟩)] W fun e W'=>(∃v,e=.returned v)∧
  ((∃ys,ys.Perm ks∧J ys W')∨(∃pre,True∧Jx pre W')):=by
 have hal:∀(pre:List Rt6) (W1:World) (o:Obj),J pre W1→J pre (W1.alloc o):=fun pre W1 o h=>hJ pre W1 _ none h (World.grownBy_alloc W1 o none) (fun r e=>by cases e)
 have hrg:=z35 Tryz.underlying156 hm;have hlen:es.size=ks.length:=by have:=congrArg List.length hkey;simpa using this
 have hbl:=(Array.getElem?_eq_some_iff.1 hm).1;have hJ1:=hal [] W (.mapIter (some b) clock #[] clock) h0;have hm1:(W.alloc (.mapIter (some b) clock #[] clock)).heap[b]?=some (.map es clock):=(Below.heap_alloc W _ b hbl).trans hm;have hr1:(W.alloc (.mapIter (some b) clock #[] clock)).heap[W.heap.size]?=some (.mapIter (some b) clock #[] clock):=World.alloc_heap_new W _;refine callsIn_of_wp Tryz.func243 rfl h1 ?_ hro;simp only[Tryz.ntmps243,List.size_toArray,List.length_cons,List.length_nil,Nat.reduceAdd,Nat.reduceSub,Array.replicate_succ,Array.replicate_zero,List.push_toArray,List.append_toArray,List.nil_append,List.cons_append];gi_wp2
 generalize hWW:W.alloc (.mapIter (some b) clock #[] clock)=W2 at *;have HJ:=Lib.hid hJ;generalize hrr:W.heap.size=r at *;clear hrg hWW;gi_loopw [] (fun wr=>∃L:List Nat,L.Nodup∧(∀i∈L,i<es.size)∧wr.heap[r]?=some (.mapIter (some b) clock (L.map (zyx es)).toArray clock)∧wr.heap[b]?=some (.map es clock)∧J (L.map fun i=>ks.getD i default) wr) (fun wr=>es.size-z16 wr r)
 case atStart=>exact⟨[],List.nodup_nil,fun i h=>(List.not_mem_nil h).elim,hr1,hm1,hJ1⟩
 case round=>
  obtain⟨L,hLn,hLb,hrr,hmm,hJJ⟩:=hrel;have hL0:z16 wr r=L.length:=by unfold z16;rw[hrr];simp
  rcases run_next_at (P:=Tryz.prog) wr 0 r b clock clock (L.map (zyx es)).toArray es clock hrr hmm (fun x hx=>by obtain⟨i,hi,rfl⟩:=List.getElem_of_mem hx;exact hborn.2 i (by simpa using hi)) (Nat.le_refl _)with⟨hz,hrun⟩|⟨e,he,w1,hw1,hrun⟩
  ·have hp:=perm_all hLn hLb (z5e hborn hLb hz) hlen.symm;clear hz;gi_wp2
   go_end0
   exact⟨⟨_,rfl⟩,.inl ⟨_,hp,hJJ⟩⟩
  ·obtain⟨i,hi,rfl,hiL⟩:=left_mem he;have hik:i<ks.length:=by omega
   have hek:es[i].key=zcq ks[i]:=by
    have:=congrArg (fun l:List Value=>l[i]?) hkey;simpa[hi,hik]using this
   have hnd:(es.toList.map (·.born)).Nodup:=by
    refine List.pairwise_iff_getElem.2 fun a c ha hc hac e=>?_
    rw[List.getElem_map,List.getElem_map,Array.getElem_toList,Array.getElem_toList]at e;have:=hborn.1 a c (by simpa using ha) (by simpa using hc) e;omega
   have hbi:zyx es i=es[i].born:=by unfold zyx;rw[Array.getElem?_eq_getElem hi];rfl
   have hseen:(L.map (zyx es)).toArray.push es[i].born=((L++[i]).map (zyx es)).toArray:=by rw[List.map_append,List.map_singleton,hbi,List.push_toArray]
   have hrl:=(Array.getElem?_eq_some_iff.1 hrr).1;have hJ2:=HJ.out _ _ _ _ hJJ (z01 (r:=r) (o:=.mapIter (some b) clock ((L.map (zyx es)).toArray.push es[i].born) clock) hw1) (fun r' e'=>by cases e';exact⟨by omega,_,hrr,rfl⟩);have hr2:=z2t (o:=.mapIter (some b) clock ((L.map (zyx es)).toArray.push es[i].born) clock) hw1 hrl;have hm2:=(z17 (o:=.mapIter (some b) clock ((L.map (zyx es)).toArray.push es[i].born) clock) hw1 (show b≠r by omega)).trans hmm;have hent:=run_entry_at (P:=Tryz.prog) _ r b clock _ es clock es[i] hr2 hm2 (by simp) hnd;rw[hek]at hrun hent;have HKD:=Lib.hid (show ks.getD i default=ks[i] by simp[List.getD,hik]);have HN:=Lib.hid (show(L++[i]).Nodup∧∀j∈L++[i],j<es.size from⟨List.nodup_append.2 ⟨hLn,by simp,fun a ha c hc e=>by rw[List.mem_singleton]at hc;subst hc;exact hiL (e▸ha)⟩,fun j hj=>by rcases List.mem_append.1 hj with h|h;exact hLb j h;rw[List.mem_singleton]at h;omega⟩)
   have HLL:=Lib.hid (show L.length<ks.length by
    have h1:(L++[i]).length≤(List.range es.size).length:=List.Nodup.length_le_of_subset HN.out.1 fun j hj=>List.mem_range.2 (HN.out.2 j hj)
    rw[List.length_append,List.length_singleton,List.length_range]at h1
    omega)
   rw[hseen]at hrun hr2 hm2 hJ2 hent;generalize hwb:setBlock w1 r _=w2 at *;generalize hkx:ks[i]=kx at *;obtain⟨a1,a2,a3,a4,a5,a6⟩:=kx;unfold zcq at hrun hent hY;simp only at hrun hent;have hJ3:=hal _ _ (.cells #[iV a1,iV a2,iV a3,iV a4,iV a5,iV a6] 31) hJ2;have bz:=Blk.new w2 31 #[iV a1,iV a2,iV a3,iV a4,iV a5,iV a6];have hr3:=(Below.heap_alloc w2 (.cells #[iV a1,iV a2,iV a3,iV a4,iV a5,iV a6] 31) r (Array.getElem?_eq_some_iff.1 hr2).1).trans hr2;have hm3:=(Below.heap_alloc w2 (.cells #[iV a1,iV a2,iV a3,iV a4,iV a5,iV a6] 31) b (Array.getElem?_eq_some_iff.1 hm2).1).trans hm2;obtain⟨fn,tmps,assign,body,hy,hR⟩:=hY _ (a1,a2,a3,a4,a5,a6) _ hJ3 (by rw[List.length_map];exact HLL.out);dsimp only at hy
   obtain⟨g0,g1,g2,g3,g4,g5⟩:=bz.f6;have HR3:=Lib.hid hr3;have HM3:=Lib.hid hm3;have HHL:=Lib.hid hL0;clear hwb hseen hJ2 hr2 hm2 hJJ hrr hmm hnd hbi he hek hiL hrl hal hL0 hr3 hm3 hJ3;gi_wp2
   refine hR.mono ?_;rintro e W3 (⟨rfl,hJ4,hk4⟩|⟨rfl,hJx⟩)
   ·have hkw:=hKw _ _ hk4;have hr4:=hkw.same r _ HR3.out rfl;have hm4:=hkw.same b _ HM3.out rfl;have hsn:z16 W3 r=L.length+1:=by unfold z16;rw[hr4];simp
    have HSN:=Lib.hid hsn;clear hsn;gi_wp2
    go_roundw
    case rel=>exact⟨L++[i],HN.out.1,HN.out.2,hr4,hm4,by rw[List.map_append,List.map_singleton,HKD.out];exact hJ4⟩
    case measure=>rw[HSN.out,HHL.out];have:=HLL.out;omega
   ·gi_wp2
    refine bodyPost_ret (results_none rfl _ _ _) rfl ?_;exact⟨⟨_,rfl⟩,.inr ⟨_,trivial,hJx⟩⟩
end Go.Proofs.YtoegobjnjljegaaGreatDoor
namespace Go.Gk
open Go.RowKit
theorem z5f {w:World} {base n size k:Nat} {e:TypeId} {v:Value} {xs:List Value} (h:w.ownsRow base e size v n xs) (hk:v.ownBlock=some k):∀o,w.heap[k]?=some o→o.isCells=true:=fun o ho=>by
 rcases h.2 with⟨h3,_⟩|⟨g,cap,cur,h3,_,h4,_⟩
 ·rw[h3]at hk;cases hk
 ·rw[h3]at hk;have e1:g=k:=zaz hk;subst e1;rw[h4]at ho;cases ho;rfl
theorem z2u {F:Nat→Prop} {W W':World} (B:Nat) (t:Tch F W W') (hF:∀g,F g→∀o,W.heap[g]?=some o→o.isCells=true):KeepsFrom B W W'∧KeepsWalks W W':=by
 have h:∀(k:Nat) (o:Obj),W.heap[k]?=some o→o.isCells=false→W'.heap[k]?=some o:=fun k o hk hc=>(t.block k (Array.getElem?_eq_some_iff.1 hk).1 (fun hf=>by rw[hF k hf o hk]at hc;cases hc)).trans hk
 exact⟨⟨t.size,fun k o _ hk hc=>h k o hk hc⟩,⟨t.size,fun k o hk hw=>h k o hk (Obj.not_cells_of_walk hw)⟩⟩
end Go.Gk
namespace Go.Proofs.YtoegobjnjljegaaGreatDoor
open Go.RowKit Go.Gk Go.Shelf
attribute [local go_sem] Oper.semAt_some
theorem z36 (F:Fence) (n:Nat) (h1:F.fn 243) (hro:F.round=none) (hn:1≤n) (Bm b:Nat) {es:Array MapEntry} {clock:Nat} {ks:List Rt6} (hkey:es.toList.map (·.key)=ks.map zcq) (hborn:Born es clock) (w:World) (hBm:Bm<w.heap.size) (hc:w.cell? ⟨Bm,0,none⟩=some (.map (some b))) (hm:w.heap[b]?=some (.map es clock)):
 SeqStopsK F n Tryz.prog 243 #[.pointer (some ⟨Bm,0,none⟩)] (fun x:Rt6=> #[zcq x]) KeepsWalks (fun ys=>ys.Perm ks) (fun _=>True) ks.length w:=fun l J Jx W hW hJa _ hY h0=>
 keys1_in F n h1 hro hn l Bm b hkey hborn J Jx KeepsWalks (fun _ _ h=>h) W hJa hY ((hW.cell (p:=⟨Bm,0,none⟩) hBm).trans hc) ((hW.block b (Array.getElem?_eq_some_iff.1 hm).1).trans hm) h0
theorem z37 {w:World} {Bm b:Nat} {es:Array MapEntry} {clock:Nat} {ks:List Rt6} (hkey:es.toList.map (·.key)=ks.map zcq) (hborn:Born es clock) (hB:w.cell? ⟨Bm,0,none⟩=some (.map (some b))) (hBm:Bm<w.heap.size) (hm:w.heap[b]?=some (.map es clock)) (hn:ks.length≤1000000):
 Calls Tryz.prog 242 #[.slice none 0 0,.func (.func 243) #[] #[.pointer (some ⟨Bm,0,none⟩)]] w fun x w'=>∃u ys,x=.returned u∧ys.Perm ks∧Outs za2 6 31 w w' u ys:=by
 obtain⟨W0,hW0⟩:∃W0,w.alloc (.cells #[.slice none 0 0] 42)=W0:=⟨_,rfl⟩
 have tW:Tf w W0:=hW0▸tal w _;have bS0:Blk W0 w.heap.size 42 #[.slice none 0 0]:=hW0▸Blk.new w 42 #[.slice none 0 0];have hz0:W0.heap.size=w.heap.size+1:=by rw[←hW0];simp
 have hB0:=tW.cell_some hB id;have hm0:W0.heap[b]?=some (.map es clock):=(tW.block b (Array.getElem?_eq_some_iff.1 hm).1 id).trans hm;obtain⟨i0,hi,hz,hs,hb⟩:=info_parts z00.info;refine(callsIn_wide (n:=6)).1 ?_;refine callsIn_of_wp_marks Tryz.func242 rfl trivial ?_ rfl;simp only[Tryz.ntmps242,List.size_toArray,List.length_cons,List.length_nil,Nat.reduceAdd,Nat.reduceSub,Array.replicate_succ,Array.replicate_zero,List.push_toArray,List.append_toArray,List.nil_append,List.cons_append];gi_wp2
 refine wpIn_rangeFunc_ownH rfl (by omega) (gf:=243) (lb:= #[.pointer (some ⟨Bm,0,none⟩)]) rfl trivial (enters_of Tryz.func243 (by kernel_rfl) rfl)
  (z36 Fence.wide _ trivial rfl (by omega) Bm b hkey hborn W0 (by omega) hB0 hm0)
  (fun h k=>h.trans k) (fun W l o o' _ hl ho hw=>KeepsWalks.putObj o' hl hw) (Below.refl _ _) (fun _=>rfl)
  (fun pre W=>(∃v,Blk W w.heap.size 42 #[v]∧W.ownsRow (w.heap.size+1) 31 6 v pre.length (pre.flatMap za2))∧Tch (fun g=>w.heap.size≤g) W0 W)
  (fun _ _ _=>False) ?hI (fun _ _ _ _ _ hs _ _=>hs) ⟨⟨_,bS0,World.ownsRow_nil _ _ _ _⟩,Tch.refl _ _⟩
  (fun x a' W=>∃Bx,W0.heap.size≤Bx∧Blk W Bx 31 (za2 x).toArray∧a'={tmps:= #[.slice none 0 0,.func (.func 243) #[] #[.pointer (some ⟨Bm,0,none⟩)],.pointer (some ⟨w.heap.size,0,none⟩),undef,.slice none 0 0,.pointer (some ⟨Bx,0,none⟩),.func (.func 243) #[] #[.pointer (some ⟨Bm,0,none⟩)],.agg (za2 x).toArray,undef,undef,undef,undef,undef],defers:=[]}) ?hAx ?assign ?body ?done ?stop
 case hI=>
  rintro s W W' row ⟨⟨v,h1,h2⟩,h4⟩ hg hr;have t:Tch (fun g=>row=some g) W W':=Tch.grown hg fun k hk=>.inl hk
  have hne:∀g,(∀o,W.heap[g]?=some o→o.isCells=true)→¬row=some g:=fun g hc e=>by
   obtain⟨_,o,ho,hcc⟩:=hr g e;rw[hc o ho]at hcc;cases hcc
  refine⟨⟨v,h1.keep t (hne _ fun o ho=>?_),t.own h2 fun g hg=>hne g (z5f h2 hg)⟩,h4.trans (t.mono fun g _ e=>by have:=(hr g e).1;omega)⟩;have h5:W.heap[w.heap.size]?=some (.cells #[v] 42):=h1;rw[h5]at ho;cases ho;rfl
 case hAx=>
  rintro x a' s W W' row ⟨Bx,h1,h2,h3⟩ hg hr;refine⟨Bx,h1,?_,h3⟩;have t:Tch (fun g=>row=some g) W W':=Tch.grown hg fun k hk=>.inl hk
  refine h2.keep t fun e=>?_
  obtain⟨_,o,ho,hc⟩:=hr Bx e;have h4:W.heap[Bx]?=some (.cells (za2 x).toArray 31):=h2;rw[h4]at ho;cases ho;cases hc
 case assign=>
  rintro l pre x W K ⟨⟨v,h1,h2⟩,h4⟩ hK;have ta:=tal W (.cells (za2 x).toArray 31);have hk:=hK _ (W.alloc (.cells (za2 x).toArray 31)) ((KeepsOthers.alloc _ _).from _) (KeepsWalks.alloc _ _) ⟨⟨v,h1.keep ta id,ta.own h2 (fun _ _=>id)⟩,h4.trans (ta.mono fun _ _ h=>h.elim)⟩ ⟨W.heap.size,h4.size,Blk.new W 31 _,rfl⟩;obtain⟨x1,x2,x3,x4,x5,x6⟩:=x;unfold za2 at hk;dsimp only at hk
  unfold zcq;dsimp only
  gi_wp2
  exact hk
 case body=>
  rintro l pre x a' W hl hrec ⟨⟨v,h1,h2⟩,h4⟩ ⟨Bx,hBx,hbx,rfl⟩ hlen;obtain⟨x1,x2,x3,x4,x5,x6⟩:=x;obtain⟨A0,c0,rfl,_,_⟩:=zac h2;have g0:=h1.at0;obtain⟨y0,y1,y2,y3,y4,y5⟩:=hbx.f6;unfold za2;dsimp only
  have ta:=tal W (.cells #[iV x1,iV x2,iV x3,iV x4,iV x5,iV x6] 31);have HH:=Lib.hid (⟨h1,h2,h4,hbx⟩:_∧_∧_∧_);have hsz:=h4.size;have ho1:=ta.own h2 (fun _ _=>id);have hb1:=h1.keep ta id;clear h1 h2 h4 hbx;gi_wp2_with (gi_at_builtin;refine Hid.out ?_)
  refine Lib.hid ?_;refine wpListIn_append_own _ rfl _ _ 42 rfl (w.heap.size+1) 31 i0 (.agg #[iV 0,iV 0,iV 0,iV 0,iV 0,iV 0]) 6 48 Tryz.underlying42 hi hz hs hb rfl (by decide) _ _ _ rfl ho1 ⟨W.heap.size,0,none⟩ 1 1 [iV x1,iV x2,iV x3,iV x4,iV x5,iV x6] rfl rfl (fun j u hu=>by have h9:=(Blk.new W 31 #[iV x1,iV x2,iV x3,iV x4,iV x5,iV x6]).cell j;rw[show(⟨W.heap.size,0,none⟩:Addr).add j=⟨W.heap.size,j,none⟩ by unfold Addr.add;split<;>simp_all,h9];simpa using hu) (by simp[Value.oneCell']) (by unfold maxLen;omega) (by omega) (by simp;omega) ?_;intro v' w1 ho2 hg2 _;obtain⟨g',cap',rfl⟩:=ownsRow_succ ho2;have hb2:=hb1.keep (Tch.grown (F:=fun k=>(Value.slice A0 pre.length c0).ownBlock=some k) hg2 (fun k hk=>.inl hk)) (fun e=>by have:=(ho1.lt _ e).1;omega);have hc2:=hb2.at0;have hf2:=hb2.frozen 0;gi_wp2
  obtain⟨h1,h2,h4,hbx⟩:=HH.out;have tg:Tch (fun k=>(Value.slice A0 pre.length c0).ownBlock=some k) _ w1:=Tch.grown hg2 (fun k hk=>.inl hk);have tS:Tch (fun g=>g=w.heap.size) w1 (w1.setCell ⟨w.heap.size,0,none⟩ (.slice (some ⟨g',0,none⟩) (pre.length+1) cap')):=Tch.setCell (F:=fun g=>g=w.heap.size) w1 (p:=⟨w.heap.size,0,none⟩) (.inl rfl) _;have tt:Tch (fun g=>g=w.heap.size∨(Value.slice A0 pre.length c0).ownBlock=some g) W (w1.setCell ⟨w.heap.size,0,none⟩ (.slice (some ⟨g',0,none⟩) (pre.length+1) cap')):=((Exn.touch ta).trans (tg.mono fun _ _ h=>.inr h)).trans (tS.mono fun _ _ h=>.inl h)
  have hk:=z2u W0.heap.size tt (fun g hg o ho=>by
   rcases hg with rfl|hg
   ·have h5:W.heap[w.heap.size]?=some (.cells #[_] 42):=h1;rw[h5]at ho;cases ho;rfl
   ·exact z5f h2 hg o ho)
  have hb3:=hb2.set_ 0 (.slice (some ⟨g',0,none⟩) (pre.length+1) cap');have ho3:=tS.own ho2 (fun g hg e=>by have:=(ho2.lt g hg).1;have e:g=w.heap.size:=e;omega);refine⟨hk.1,hk.2,⟨.slice (some ⟨g',0,none⟩) (pre.length+1) cap',by simpa using hb3,by rw[List.flatMap_append,List.length_append,List.flatMap_singleton];exact ho3⟩,h4.trans (tt.mono fun g _ hg=>?_)⟩;rcases hg with rfl|hg
  ·exact Nat.le_refl _
  ·have:=(h2.lt g hg).1;omega
 case done=>
  rintro D ys W hD hp ⟨⟨v,h1,h2⟩,h4⟩ hK;have g0:=h1.at0;have HH:=Lib.hid (⟨h1,h2,h4⟩:_∧_∧_);clear h1 h2 h4;gi_wp2
  obtain⟨h1,h2,h4⟩:=HH.out;have ho9:=ownsRow_putObj h2 (.deferred none) hK rfl;refine⟨by simp,.inl ⟨_,_,rfl,run_takeDeferred hK,?_⟩⟩;exact⟨_,results_tmp rfl _ _ _,v,ys,rfl,hp,zbk (zb8 ho9) (fun g hg=>by have:=(ho9.lt g hg).1;omega),(tW.trans' h4 (fun i hi=>.inr hi)).trans' (Tch.grown (F:=fun g=>g=D) (grownBy_putObj' _ D _) fun k e=>.inl (by cases e;rfl)) (fun i hi=>.inr (by have hi:i=D:=hi;omega))⟩
 case stop=>
  rintro D c pre W _ _ h _;exact h.elim
theorem z2v {w:World} {Bm b:Nat} {es:Array MapEntry} {clock:Nat} {ks:List Rt6} (hkey:es.toList.map (·.key)=ks.map zcq) (hborn:Born es clock) (hB:w.cell? ⟨Bm,0,none⟩=some (.map (some b))) (hBm:Bm<w.heap.size) (hm:w.heap[b]?=some (.map es clock)) (hn:ks.length≤1000000):
 Calls Tryz.prog 172 #[.func (.func 243) #[] #[.pointer (some ⟨Bm,0,none⟩)]] w fun x w'=>∃u ys,x=.returned u∧ys.Perm ks∧Outs za2 6 31 w w' u ys:=by
 have HA:=Lib.hid (z37 hkey hborn hB hBm hm hn);go_enter Tryz.func172,Tryz.ntmps172;go_wp2_with fail;refine HA.out.mono ?_;rintro _ w1 ⟨u,ys,rfl,hp,hO⟩;clear HA;go_wp2;go_ret;exact⟨_,ys,rfl,hp,hO⟩
theorem z5g (b:Nat) (w:World):Calls Tryz.prog 173 #[.map (some b)] w fun e w'=>e=.returned (.func (.func 243) #[] #[.pointer (some ⟨w.heap.size,0,none⟩)])∧w'=w.alloc (.cells #[.map (some b)] 156):=
 (callsIn_wide (n:=6)).1 (keysC_in Fence.wide 6 trivial rfl b w)
end Go.Proofs.YtoegobjnjljegaaGreatDoor
namespace Go.Gk.V38
theorem zy8 (v:Value) (c:Rt6):∀th:List Rt6,zar (th.map fun k=>(k,v)) c=if c∈th then some v else none
 |[]=>rfl
 |x::r=>by
  have ih:=zy8 v c r;rw[List.map_cons];show(if c=x then some v else zar (r.map fun k=>(k,v)) c)=_;by_cases h:c=x
  ·simp[h]
  ·rw[if_neg h,ih];simp[h]
end Go.Gk.V38
namespace Go.Proofs.YtoegobjnjljegaaGreatDoor
open Go.RowKit Go.Gk Go.Gk.V33 Go.Gk.V37 Go.Gk.V38
section
variable {w:World} {bv bi B t mr mp:Nat} {e a s r l n lv:Value} {fs:List Value} {b:Bks} {us:List (Ent×Value)}
theorem zz3 (h:Vw w bv bi B t mr mp e a s r l n lv fs b us) (F:RuleFacts b) (hpl:(zay b.entries).length≤3000) (hT:Tab64 0 w) {v:Value} {cl:List Rt6} (hl:zae za2 6 (fun _=>True) w v cl) (hn:cl.length≤100000) (most:Int):
 Calls Tryz.prog 103 #[.pointer (some ⟨bv,0,none⟩),v,iV most] w fun x w'=>∃(L:List Rt6) (u:Value) (er:Int),x=.returned (.tuple #[u,iV er])∧Outs za2 6 31 w w' u L∧NeedsAns b cl most L er:=by
 obtain⟨A,c,rfl,hc1,hc2⟩:=hl.form;have HV:=Lib.hid (fun w' (t9:Tf w w')=>h.keep t9);have HTT:=Lib.hid (fun w' (t9:Tf w w')=>hT.keep t9);have HLL:=Lib.hid (fun w' (t9:Tf w w')=>hl.keep t9);have HRL:=Lib.hid (fun c=>z1l F.hok hpl c);have hmm:=@run_makeMap Tryz.prog;clear h hT hl;by_cases h1:most<1
 ·have HA:=Lib.hid (show NeedsAns b cl most [] 2 from⟨fun _=>⟨rfl,rfl⟩,fun h=>absurd (.inl h1) h,fun h=>absurd (.inl h1) h⟩);go_enter Tryz.func103,Tryz.ntmps103;go_wp2;(try simp only[Exit.inBlock,Exit.then]);(try rw[Exit.noGoto_ret]);go_ret2
  exact⟨[],_,_,rfl,Outs.start _ _ _ (Tch.refl _ _),HA.out⟩
 by_cases h2:20000<most
 ·have HA:=Lib.hid (show NeedsAns b cl most [] 2 from⟨fun _=>⟨rfl,rfl⟩,fun h=>absurd (.inr h2) h,fun h=>absurd (.inr h2) h⟩);go_enter Tryz.func103,Tryz.ntmps103;go_wp2;(try simp only[Exit.inBlock,Exit.then]);(try rw[Exit.noGoto_ret]);go_ret2
  exact⟨[],_,_,rfl,Outs.start _ _ _ (Tch.refl _ _),HA.out⟩
 have HNA:=Lib.hid (show¬(most<1∨20000<most) by omega);go_enter Tryz.func103,Tryz.ntmps103;go_wp2_with fail;go_loopw [24] (fun i wr=>∃j:Nat,j≤cl.length∧i=.int .i64 j∧z3p b (cl.drop j)=z3p b cl∧Tf w wr) (fun i _=>cl.length-(intOf i).toNat)
 case atStart=>exact⟨0,Nat.zero_le _,rfl,rfl,Tch.refl _ _⟩
 case round=>
  obtain⟨j,hj,rfl,hbad,ht⟩:=hrel;have HB:=Lib.hid hbad;have hj0:=znn j;clear hbad;by_cases hlt:j<cl.length
  ·have hlt':(j:Int)<(cl.length:Int):=by omega
   have hl9:=HLL.out wr ht;obtain⟨g,o9,rfl⟩:=hl9.head (by omega);obtain⟨q0,q1,q2,q3,q4,q5⟩:=Row.six hl9 zd3 hlt rfl;have HBC:=Lib.hid (show(if za3 cl[j] b.ents.length b.accs.length≠0 then za3 cl[j] b.ents.length b.accs.length else z3p b (cl.drop (j+1)))=z3p b cl by rw[←HB.out,List.drop_eq_getElem_cons hlt];rfl);have tA:=tal wr (.cells #[iV cl[j].1,iV cl[j].2.1,iV cl[j].2.2.1,iV cl[j].2.2.2.1,iV cl[j].2.2.2.2.1,iV cl[j].2.2.2.2.2] 31);have bz:=Blk.new wr 31 #[iV cl[j].1,iV cl[j].2.1,iV cl[j].2.2.1,iV cl[j].2.2.2.1,iV cl[j].2.2.2.2.1,iV cl[j].2.2.2.2.2];have HMY:=Lib.hid (ze3 (HV.out _ (ht.trans tA)) cl[j]);generalize cl[j]=cc at *;obtain⟨c1,c2,c3,c4,c5,c6⟩:=cc;unfold zcq at HMY;simp only at q0 q1 q2 q3 q4 q5 tA bz HMY;obtain⟨g0,g1,g2,g3,g4,g5⟩:=bz.f6;generalize za3 (c1,c2,c3,c4,c5,c6) b.ents.length b.accs.length=ci at *;have tt:=ht.trans tA;clear hl9 HB ht tA bz;go_wp2_with fail;refine HMY.out.mono ?_;rintro _ w1 ⟨rfl,t1⟩;have T1:=tt.trans t1;clear HMY q0 q1 q2 q3 q4 q5 g0 g1 g2 g3 g4 g5 tt t1;by_cases hci:ci=0
   ·subst hci;go_wp2;go_roundw
    case rel=>exact⟨j+1,by omega,by go_num,by rw[←HBC.out,if_neg (by simp)],T1⟩
    case measure=>simp[intOf]<;>omega
   ·have hcb:(ci !=0)=true:=by simpa using hci
    have HA:=Lib.hid (show NeedsAns b cl most [] ci from⟨fun h=>absurd h HNA.out,fun _ _=>⟨rfl,by rw[←HBC.out,if_pos hci]⟩,fun _ h0=>by rw[←HBC.out,if_pos hci]at h0;exact absurd h0 hci⟩);clear hci;go_wp2;(try simp only[Exit.inBlock,Exit.then]);(try rw[Exit.noGoto_ret]);go_ret2
    exact⟨[],_,_,rfl,Outs.start _ _ _ T1,HA.out⟩
  ·obtain rfl:j=cl.length:=by omega
   have hlt':¬(cl.length:Int)<(cl.length:Int):=by omega
   have HB0:=Lib.hid (show z3p b cl=0 by rw[←HB.out,List.drop_length];rfl);have tM:=tal wr (.map #[] 0);have hM0:=MapB.new zcq wr;have T1:=ht.trans tM;have HWM:=Lib.hid ht.size;have HCL:=Lib.hid (z05 (HLL.out _ T1) (by omega));clear hlt HB ht tM;go_wp2_with fail;generalize hmb:wr.heap.size=mb at *;generalize wr.alloc _=W1 at *;have HMB:=Lib.hid hM0.lt;clear hmb;refine HCL.out.mono ?_;rintro _ w2 ⟨u,rfl,hO⟩;obtain⟨A2,c2,rfl,_,_⟩:=hO.form;have hM2:=hM0.keep hO.tch id;have T2:=T1.trans hO.tch;have ho2:=zbk (zb8 hO.own) (fun g hg=>show mb+1≤g by have:=(hO.own.lt g hg).1;have:=HMB.out;omega);clear HCL hM0 hO T1 HLL hmm;go_wp2_with fail;have HWS:=Lib.hid (Went.start b cl);go_loopw [12] (fun o w5=>∃(th td:List Rt6) (A5:Option Addr) (k5:Nat),o=.slice A5 td.length k5∧w5.ownsRow (mb+1) 31 6 (.slice A5 td.length k5) td.length (td.flatMap za2)∧MapB zcq w5 mb (th.map fun k=>(k,.int .i64 1))∧Went b cl th td∧(th.length:Int)≤most∧td.length≤cl.length+5001*th.length∧Tf w w5) (fun o w5=>(20002-mapN w5 mb)*6000+lenS o)
   case atStart=>exact⟨[],cl,A2,c2,rfl,ho2,hM2,HWS.out,by simp;omega,by simp,T2⟩
   case round=>
    obtain⟨th,td,A5,k5,rfl,hO5,hM5,hW5,hth,htd,ht5⟩:=hrel;have HMN:=Lib.hid hM5.size;rw[List.length_map]at HMN;have HTH:=Lib.hid hth;have HTD:=Lib.hid htd;have HWT:=Lib.hid hW5;clear hth htd hW5;by_cases h0:td.length=0
    ·obtain rfl:td=[]:=List.eq_nil_of_length_eq_zero h0;have HDN:=Lib.hid HWT.out.done;have hnd:=HWT.out.nd;have tB:=tal wr (.cells #[.map (some mb)] 156);obtain⟨es,ck,E1,E2,E3⟩:=hM5.keep tB id
     have hks:es.toList.map (·.key)=th.map zcq:=by
      have h9:=congrArg (fun l:List (Value×Value)=>l.map (·.1)) E2;simp only[List.map_map]at h9;exact h9
     have HCO:=Lib.hid (z2v (Bm:=wr.heap.size) hks E3 ((Blk.new wr 156 #[.map (some mb)]).at0) (by simp) E1 (by have:=HTH.out;omega));have HKE:=Lib.hid (z5g mb wr);have T6:=ht5.trans tB;have HTL:=Lib.hid (show th.length≤20000 by have:=HTH.out;omega);have HND:=Lib.hid hnd;clear hO5 hM5 E1 E2 E3 hks ht5 hnd tB;simp only[List.length_nil];go_wp2_with fail;refine HKE.out.mono ?_;rintro _ _ ⟨rfl,rfl⟩;clear HKE;go_wp2_with fail;generalize wr.alloc _=W6 at *;refine HCO.out.mono ?_;rintro _ w7 ⟨u7,ys,rfl,hp,hO7⟩;have HSO:=Lib.hid (z3o hO7.row (by rw[hp.length_eq];have:=HTL.out;omega) (hp.nodup_iff.2 HND.out));have HA:=Lib.hid (show NeedsAns b cl most (zza ys) 0 from⟨fun h=>absurd h HNA.out,fun _ h=>absurd HB0.out h,fun _ _=>.inr ⟨rfl,by rw[z0n,hp.length_eq];exact HTH.out,ys,hp.nodup_iff.2 HND.out,rfl,fun k=>(hp.mem_iff).trans (HDN.out k)⟩⟩);have T7:=T6.trans hO7.tch;clear HCO hO7 hp T6;go_wp2_with fail;refine HSO.out.mono ?_;rintro _ w8 ⟨u8,rfl,hO8⟩;have HO8:=Lib.hid (hO8.base T7);clear HSO hO8 T7;go_wp2;go_ret2
     exact⟨_,_,_,rfl,HO8.out,HA.out⟩
    obtain⟨td,cc,rfl⟩:∃td' c',td=td'++[c']:=⟨td.dropLast,td.getLast (fun e=>h0 (by rw[e];rfl)),(List.dropLast_concat_getLast _).symm⟩
    have hlN:(td++[cc]).length=td.length+1:=by simp
    obtain⟨g5,rfl⟩:=ziq hO5 (by omega);have hrow:=Row.own hO5 (P:=fun _=>True) (fun _ _=>trivial);obtain⟨q0,q1,q2,q3,q4,q5⟩:=Row.six (i:=td.length) (show zae za2 6 (fun _=>True) wr (.slice (some ⟨g5,0,none⟩) (td++[cc]).length k5) (td++[cc])from hrow) zd3 (by omega) (by rw[List.getElem_concat_length rfl];rfl);have hot:=own_take hO5 (k:=td.length) (by omega);have htk:((td++[cc]).flatMap za2).take (td.length*6)=td.flatMap za2:=by rw[List.flatMap_append];exact List.take_left' (zc5 zd3 td)
    rw[htk]at hot;obtain⟨A9,k9,hf9,hnk,hkm,_⟩:=zac hO5;obtain⟨rfl,rfl⟩:A9=some ⟨g5,0,none⟩∧k9=k5:=by injection hf9 with e1 e2 e3;exact⟨e1.symm,e3.symm⟩
    have HTL:=Lib.hid HTD.out;rw[hlN]at hnk HTL⊢
    obtain⟨N,hN⟩:∃N,td.length+1=N:=⟨_,rfl⟩
    have hN1:td.length=N-1:=by omega
    rw[hN]at hnk HTL⊢;rw[hN1]at q0 q1 q2 q3 q4 q5 hot;simp only[Nat.zero_add]at q0 q1 q2 q3 q4 q5;have HN:=Lib.hid hN1;have HNP:=Lib.hid (show 1≤N by omega);have hNp:(N:Int)>0:=by omega
    have hNq:(0:Int)≤(N:Int)-1:=by omega
    have hNk:(N:Int)≤(k9:Int):=by omega
    have hk63:(k9:Int)≤9223372036854775807:=by unfold maxLen at hkm;omega
    obtain⟨c1,c2',c3,c4,c5,c6⟩:=cc;have q0:wr.cell? ⟨g5,(N-1)*6,none⟩=some (iV c1):=q0;have q1:wr.cell? ⟨g5,(N-1)*6+1,none⟩=some (iV c2'):=q1;have q2:wr.cell? ⟨g5,(N-1)*6+2,none⟩=some (iV c3):=q2;have q3:wr.cell? ⟨g5,(N-1)*6+3,none⟩=some (iV c4):=q3;have q4:wr.cell? ⟨g5,(N-1)*6+4,none⟩=some (iV c5):=q4;have q5:wr.cell? ⟨g5,(N-1)*6+5,none⟩=some (iV c6):=q5;have tA:=tal wr (.cells #[iV c1,iV c2',iV c3,iV c4,iV c5,iV c6] 31);have bz:=Blk.new wr 31 #[iV c1,iV c2',iV c3,iV c4,iV c5,iV c6];have hotA:=tA.own hot (fun _ _=>id);have hMA:=hM5.keep tA id;have T5:=ht5.trans tA;have hmlt:=hM5.lt;have HMA:=Lib.hid hMA;have HOT:=Lib.hid hotA;have HT5:=Lib.hid T5;have HZ:=Lib.hid (show wr.heap.size≠mb by omega);have HBZ:=Lib.hid bz;obtain⟨g0,g1,g2,g3,g4,g6⟩:=bz.f6;clear hO5 hrow hot htk hf9 hN1 hN hlN hnk hkm h0 tA bz hMA hotA T5 ht5 hM5 hmlt;go_wp2_with (refine zh6 rfl _ _ _ false rfl zym Tryz.underlying156 (zyr _) (k:=(c1,c2',c3,c4,c5,c6)) (by rfl) (by rfl) HMA.out.is ?_;refine Hid.out ?_);refine Lib.hid ?_;have HMS:=Lib.hid HMA.out.size;rw[List.length_map]at HMS;by_cases hcm:((c1,c2',c3,c4,c5,c6):Rt6)∈th
    ·have hf:zar (th.map fun k=>(k,Value.int .i64 1)) (c1,c2',c3,c4,c5,c6)=some (iV 1):=by rw[zy8,if_pos hcm]
     rw[hf];simp only[Option.getD_some];have HW6:=Lib.hid (HWT.out.skip hcm);clear hcm hf q0 q1 q2 q3 q4 q5 g0 g1 g2 g3 g4 g6;go_wp2;go_roundw
     case rel=>exact⟨th,td,some ⟨g5,0,none⟩,k9,by rw[HN.out],by rw[HN.out];exact HOT.out,HMA.out,HW6.out,HTH.out,by have:=HTL.out;have:=HNP.out;have:=HN.out;omega,HT5.out⟩
     case measure=>
      rw[HMS.out,HMN.out];show(20002-th.length)*6000+(N-1)<(20002-th.length)*6000+N;have:=HNP.out;omega
    have hf:zar (th.map fun k=>(k,Value.int .i64 1)) (c1,c2',c3,c4,c5,c6)=none:=by rw[zy8,if_neg hcm]
    have HFN:=Lib.hid hf;rw[hf];simp only[Option.getD_none];have HW6:=Lib.hid (HWT.out.take hcm);obtain⟨es,ck,E1,E2,E3⟩:=HMA.out;obtain⟨es',ck',X1,X2⟩:=z1v zym Tryz.underlying156 zyr E2 E3 mb (c1,c2',c3,c4,c5,c6) hf;have HX1:=Lib.hid X1;have HX2:=Lib.hid X2;have HE2:=Lib.hid E2;clear hcm hf q0 q1 q2 q3 q4 q5 g0 g1 g2 g3 g4 g6 X1 X2 E2 E3 HWT;go_wp2_with fail;have hbz:=HBZ.out;have hot:=HOT.out;have hT5:=HT5.out;generalize hWA:wr.alloc _=W5 at *;generalize hzz:wr.heap.size=z at *
    obtain⟨I,hI⟩:∃I:World→Prop,I=fun w'=>w'.heap[mb]?=some (.map es ck)∨w'.heap[mb]?=some (.map es' ck'):=⟨_,rfl⟩
    obtain⟨J,hJ⟩:∃J:Nat→World→Prop,J=fun s w'=>w'.heap[mb]?=some (.map (if s=0 then es else es') (if s=0 then ck else ck')):=⟨_,rfl⟩
    have HI:=Lib.hid hI;have HJ:=Lib.hid hJ;clear hI hJ hWA hzz;have y0:=zyl (F:=fun g=>g=mb) (I:=I) hbz.at0 HZ.out;have y1:=zyl (F:=fun g=>g=mb) (I:=I) hbz.at1 HZ.out;have y2:=zyl (F:=fun g=>g=mb) (I:=I) hbz.at2 HZ.out;have y3:=zyl (F:=fun g=>g=mb) (I:=I) hbz.at3 HZ.out;have y4:=zyl (F:=fun g=>g=mb) (I:=I) hbz.at4 HZ.out;have y5:=zyl (F:=fun g=>g=mb) (I:=I) hbz.at5 HZ.out;refine zy2 (fun g=>g=mb) I (fun a b t h=>?_) [] 6 [(2,.inl (iV 0)),(4,.inl (.tuple #[iV 0,iV (ck:Int)]))] [(4,0)] 1 J (by kernel_rfl) rfl (by kernel_rfl) (by kernel_rfl) rfl (fun d _ _ _ _ h=>by cases d<;>exact h) trivial ?_ (fun s w1 w2 ht hj=>?_) ?_
    ·rw[HI.out]at h⊢;rcases h with h|h
     ·exact .inl ((t.block _ (Array.getElem?_eq_some_iff.1 h).1 id).trans h)
     ·exact .inr ((t.block _ (Array.getElem?_eq_some_iff.1 h).1 id).trans h)
    ·rw[HJ.out];exact E1
    ·rw[HJ.out]at hj⊢;exact(ht.block _ (Array.getElem?_eq_some_iff.1 hj).1 id).trans hj
    intro bef ops hbef hops;clear hbef;subst hops;simp only[List.take_succ_cons,List.take_zero,List.drop_succ_cons,List.drop_zero];iterate 2 (refine z0m (by rfl) (by rfl) (by rfl) (by rfl) (fun K hK=>?_);go_big_quiet_op;(first|refine hK _ ?_|refine⟨_,fun _=>rfl,hK _ ?_⟩);clear hK K;(try simp only[zaw]))
    refine z24 (iV 0) (by rfl) (by rfl) (by rfl) (fun w1 hr hf=>?_) ?_
    ·have hi:=hr.2 (by rw[HI.out];exact .inl E1);rw[HI.out]at hi;rcases hi with h|h
     ·refine zrg _ _ _ rfl zym Tryz.underlying156 (zyr w1) (k:=(c1,c2',c3,c4,c5,c6)) (by rfl) (by rfl) (show MapIs zcq w1 mb _ from⟨es,ck,h,HE2.out⟩) ⟨by rw[HFN.out];rfl,Tch.refl _ _⟩
     ·refine zrg _ _ _ rfl zym Tryz.underlying156 (zyr w1) (k:=(c1,c2',c3,c4,c5,c6)) (by rfl) (by rfl) (HX2.out w1 h).1 ⟨by rw[z0c _ _ _ HFN.out];rfl,Tch.refl _ _⟩
    simp only[zaw];iterate 1 (refine z0m (by rfl) (by rfl) (by rfl) (by rfl) (fun K hK=>?_);go_big_quiet_op;(first|refine hK _ ?_|refine⟨_,fun _=>rfl,hK _ ?_⟩);clear hK K;(try simp only[zaw]))
    refine p_fix (.tuple #[iV 0,iV (ck:Int)]) 0 (by rfl) (by rfl) (by rfl) (fun w1 hr hj hf=>?_) ?_
    ·rw[HJ.out]at hj;obtain⟨w2,hrun,hh,t2⟩:=HX1.out w1 hj;refine zdm (enc:=zcq) _ _ _ rfl (k:=(c1,c2',c3,c4,c5,c6)) (by rfl) (by rfl) hrun ⟨rfl,⟨t2,fun _=>by rw[HI.out];exact .inr hh⟩,?_⟩;rw[HJ.out];exact hh
    simp only[zaw];iterate 1 (refine z0m (by rfl) (by rfl) (by rfl) (by rfl) (fun K hK=>?_);go_big_quiet_op;(first|refine hK _ ?_|refine⟨_,fun _=>rfl,hK _ ?_⟩);clear hK K;(try simp only[zaw]))
    refine p_nil ?_;intro w6 hr hj hp;rw[HJ.out]at hj;refine zzd rfl _ _ _ _ rfl (b:=mb) (n:=ck) (u:=iV 1) (by rfl) (by rfl) (by first|rfl|(go_num)) ((HX2.out w6 hj).2 (iV 1)) (fun w7 hM7=>?_);obtain⟨hM7,t7⟩:=hM7;have tr:=((Tch.drew (fun g=>g=mb) W5).trans hr.1).trans t7;have b7:=hbz.keep tr HZ.out;have hO7:=tr.own hot (fun g hg e=>by have:=(hot.lt g hg).1;have e:g=mb:=e;omega);have T7:=hT5.trans' tr (fun i hi=>.inr (by have hi:i=mb:=hi;have:=HWM.out;omega));have hM7:MapB zcq w7 mb ((th++[(c1,c2',c3,c4,c5,c6)]).map fun k=>(k,iV 1)):=by rw[List.map_append];exact hM7
    obtain⟨mm,hmq⟩:∃mm,((th++[(c1,c2',c3,c4,c5,c6)]).map fun k=>(k,Value.int .i64 1))=mm:=⟨_,rfl⟩
    rw[hmq]at hM7
    obtain⟨K,hK⟩:∃K,mm.length=K:=⟨_,rfl⟩
    have HK:=Lib.hid (show K=th.length+1 by rw[←hK,←hmq];simp);have HMQ:=Lib.hid hmq;have HKL:=Lib.hid hK;have HM7:=Lib.hid hM7;obtain⟨y0,y1,y2,y3,y4,y5⟩:=b7.f6;have hK0:=znn K;have hK9:(K:Int)≤30000:=by have:=HK.out;have:=HTH.out;omega
    clear hj hp hr t7 tr hbz hot hT5 HX1 HX2 HE2 HI HJ HFN HBZ HOT HMA E1 hM7 hK hmq;go_wp2_with (at_len;refine z1i rfl _ _ rfl 3 Tryz.underlying156 (by rfl) HM7.out ?_;refine Hid.out ?_);refine Lib.hid ?_;rw[HKL.out];by_cases hfull:most<(K:Int)
    ·have hf':(K:Int)>most:=hfull;have HA:=Lib.hid (show NeedsAns b cl most [] 3 from⟨fun h=>absurd h HNA.out,fun _ h=>absurd HB0.out h,fun _ _=>.inl ⟨rfl,rfl,th++[(c1,c2',c3,c4,c5,c6)],HW6.out.nd,fun k hk=>HW6.out.need k (.inl hk),by rw[List.length_append,List.length_singleton,←HK.out];exact hfull⟩⟩);clear hfull y0 y1 y2 y3 y4 y5;go_wp2;(try simp only[Exit.inBlock,Exit.then]);(try rw[Exit.noGoto_ret]);go_ret2
     exact⟨[],_,_,rfl,Outs.start _ _ _ T7,HA.out⟩
    have hf':¬(K:Int)>most:=hfull;have HKM:=Lib.hid (show(K:Int)≤most by omega);have HREC:=Lib.hid (zga (HV.out w7 T7) F (HTT.out w7 T7) c1 c2' c3 c4 c5 c6);have HRLc:=Lib.hid (HRL.out (c1,c2',c3,c4,c5,c6));clear hfull;go_wp2_with fail;refine HREC.out.mono ?_;rintro _ w8 ⟨v1,rfl,hr1,t8⟩;clear HREC y0 y1 y2 y3 y4 y5 b7;generalize zfg b (c1,c2',c3,c4,c5,c6)=RR at *;obtain⟨R,er⟩:=RR;simp only at hr1 HRLc;have HRW:=Lib.hid (show RcpIs w8 v1 R from hr1)
    obtain⟨RR,hRR⟩:∃RR,R=RR:=⟨_,rfl⟩
    have HRR:=Lib.hid hRR;rw[hRR]at HW6 HRLc HRW;obtain⟨⟨b1,b2⟩,pl,mi,⟨s1,s2,s3,s4,s5,s6⟩,rd,⟨r1,r2⟩,hs⟩:=R;obtain⟨p1,m1,rfl,hp1,hm1⟩:=hr1;obtain⟨P1,k1,rfl,_,_⟩:=hp1.form;obtain⟨M1,d1,rfl,_,_⟩:=hm1.form;unfold z4g at HRW⊢;simp only at HRW⊢;have tG:=tal w8 (.cells #[iV b1,iV b2,.slice P1 pl.length k1,.slice M1 mi.length d1,iV s1,iV s2,iV s3,iV s4,iV s5,iV s6,.bool rd,iV r1,iV r2,.bool hs] 48);have bG:=Blk.new w8 48 #[iV b1,iV b2,.slice P1 pl.length k1,.slice M1 mi.length d1,iV s1,iV s2,iV s3,iV s4,iV s5,iV s6,.bool rd,iV r1,iV r2,.bool hs];have HRD:=Lib.hid (zz5 (HRW.out.keep tG) (by have:=HRLc.out;omega))
    have HLN:=Lib.hid (show(zyk RR).length≤5001 by
     unfold zyk zys;refine Nat.le_trans (zzr _) ?_;rw[List.length_append,List.length_append];have:=HRLc.out
     split<;>simp <;>omega)
    have t8G:=t8.trans tG;have hO8:=t8G.own hO7 (fun _ _=>id);have hM8:=HM7.out.keep t8G id;rw[←HMQ.out]at hM8;have T8:=T7.trans t8G;obtain⟨f0,f1,f2,f3,f4,f5,f6,f7,f8,f9,f10,f11,f12,f13⟩:=bG.f14;clear hRR hp1 hm1 tG bG t8 t8G hO7 HM7 HRW T7;go_wp2_with fail;generalize w8.alloc _=W8 at *;generalize w8.heap.size=zG at *;refine HRD.out.mono ?_;rintro _ w9 ⟨u,rfl,hrow,t9⟩;obtain⟨U,cu,rfl,_,_⟩:=hrow.form;have hO9:=t9.own hO8 (fun _ _=>id);have hM9:=hM8.keep t9 id;have T9:=T8.trans t9;have hln:=HLN.out;have htd9:N-1≤100120000:=by have:=HTL.out;have:=HTH.out;omega
    clear HRD f0 f1 f2 f3 f4 f5 f6 f7 f8 f9 f10 f11 f12 f13 hO8 hM8 T8 t9;go_wp2_with (at_builtin;refine apd z00 hO9 hrow.src (ziv _) ?_ (h63:=by unfold maxLen;omega) (hbytes:=by omega);refine Hid.out ?_);refine Lib.hid ?_;intro v2 w10 ho2 hg2 hl2;obtain⟨A10,k10,rfl,_,_⟩:=zac ho2;have tg:=Tch.grown (F:=fun k=>(Value.slice (some ⟨g5,0,none⟩) (N-1) k9).ownBlock=some k) hg2 (fun k hk=>.inl hk);have hM10:=hM9.keep tg (fun hf=>by have:=(hO9.lt _ hf).1;omega);have T10:=T9.trans' tg (fun i hi=>.inr (by have:=(hO9.lt _ hi).1;have:=HWM.out;omega))
    have hO10:=zbk ho2 (fun g hg=>show mb+1≤g by
     rcases hl2 g hg with h|h
     ·exact(hO9.lt g h).1
     ·have:=hM9.lt;omega)
    have HS10:=Lib.hid hM10.size;rw[List.length_map,List.length_append,List.length_singleton]at HS10;have HO10:=Lib.hid hO10;have HM10:=Lib.hid hM10;have HT10:=Lib.hid T10;clear hO9 hM9 T9 hrow ho2 hg2 hl2 tg hM10 T10 hO10;go_wp2;go_roundw
    case rel=>exact⟨th++[(c1,c2',c3,c4,c5,c6)],td++zyk RR,A10,k10,by rw[List.length_append,HN.out],by rw[List.length_append,HN.out,List.flatMap_append];exact HO10.out,HM10.out,HW6.out,by rw[List.length_append,List.length_singleton,←HK.out];exact HKM.out,by rw[List.length_append,List.length_append,List.length_singleton];have:=HTL.out;have:=HN.out;have:=HNP.out;omega,HT10.out⟩
    case measure=>
     rw[HS10.out,HMN.out];show(20002-(th.length+1))*6000+(N-1+(zyk RR).length)<(20002-th.length)*6000+N;have:=HNP.out;have:=HLN.out;have:=HTH.out;omega
end
end Go.Proofs.YtoegobjnjljegaaGreatDoor
namespace Go.Gk
open Go.RowKit
section
variable {P:Program} {ops:Array Oper} {rest:List Oper} {o:Oper} {a:Act} {w:World} {Q:Exit→Act→World→Prop}
theorem z1s (hgd:o.guard=none) (s:Operand) (t:TypeId) (ho:o.op=.call {callee:=.builtin .clear,args:= #[s],argTypes:= #[t]}) {e:TypeId} (hu:P.underlying t=some (.slice e)) {z:Value} (hv:∀w,(zeroValue e).run P w=.ok z w) {k:Nat} (hz:z.cells.size=k) (h1:∀u∈z.cells,u.oneCell'=true)
 {g n c off:Nat} {pre mid suf:List Value} (hoff:off=pre.length) (hs:a.eval s=.slice (some ⟨g,off,none⟩) n c) (hn:0<n) (hm:mid.length=n*k) {T:TypeId} (hb:Blk w g T (pre++mid++suf).toArray)
 (h:∀W zs,zs.length=mid.length→Blk W g T (pre++zs++suf).toArray→Tch (fun k=>k=g) w W→wpList P ops Q rest (a.put o.dst (.tuple #[])) W):wpList P ops Q (o::rest) a w:=by
 subst hoff
 have hl:(Builtin.zeroCells z.cells n).toList.length=mid.length:=by
  rw[Array.length_toList,size_zeroCells,hm,hz]
 have hcell:∀j,j<(Builtin.zeroCells z.cells n).toList.length→(w.cell? ⟨g,pre.length+j,none⟩).isSome=true:=fun j hj=>by
  have hc:=hb.cell (pre.length+j);rw[List.getElem?_toArray,List.append_assoc,List.getElem?_append_right (by omega),Nat.add_sub_cancel_left,List.getElem?_append_left (by omega),List.getElem?_eq_getElem (by omega)]at hc;rw[hc];rfl
 have hst:=run_storeCells_cells (P:=P) g pre.length (Builtin.zeroCells z.cells n).toList 0 w (by simpa using hcell) (fun j _=>hb.frozen _) (fun v hv=>by
  have hv':=Array.mem_toList_iff.1 hv;unfold Builtin.zeroCells at hv';obtain⟨i,hi,rfl⟩:=Array.mem_map.1 hv';have hi:=Array.mem_range.1 hi
  have hp:0<z.cells.size:=by
   rcases Nat.eq_zero_or_pos z.cells.size with h0|h0
   ·rw[h0]at hi;omega
   ·exact h0
  rw[getElem!_pos z.cells (i%z.cells.size) (Nat.mod_lt i hp)]
  exact h1 _ (Array.getElem_mem _))
 simp only[Nat.add_zero]at hst
 have hrun:(Builtin.clear_ #[t] o.type #[.slice (some ⟨g,pre.length,none⟩) n c]).run P w=.ok (.tuple #[]) (w.setCells g pre.length (Builtin.zeroCells z.cells n).toList):=by
  obtain⟨m,rfl⟩:∃m,n=m+1:=⟨n-1,by omega⟩
  simp[Builtin.clear_,run_underlying hu,hv,hst]
 refine wpList_plain hgd fun K hK=>?_
 unfold Oper.wp;simp[execOp,ho,resolve,invoke,builtin,hs,hrun,Result.andThen];exact hK _ _ (h _ _ hl (zki _ _ w pre mid suf hl.symm rfl hb) (Tch.setCells g _ _ w))
end
theorem six_at {cs:List Value} {j:Nat} {x:Rt6} {r:List Rt6} {m:Nat} (h:(cs.drop (j*6)).take m=(x::r).flatMap za2) {i:Nat} (hi:i<6):cs[j*6+i]?=(za2 x)[i]?:=by
 have h1:=congrArg (fun l:List Value=>l[i]?) h;simp only[List.flatMap_cons]at h1;rw[List.getElem?_append_left (by rw[zd3];exact hi),List.getElem?_take]at h1;split at h1
 ·rw[List.getElem?_drop]at h1;exact h1
 ·rw[List.getElem?_eq_getElem (by rw[zd3];exact hi)]at h1;cases h1
end Go.Gk
namespace Go.Proofs.YtoegobjnjljegaaGreatDoor
open Go.RowKit Go.Gk
theorem z20 {w:World} {v:Value} {l:List Rt6} (hl:zae za2 6 (fun _=>True) w v l) (hn:l.length≤200000) (p:Rt6→Bool) (g:Nat) (lb:Array Value) (eg:∀args w,(callFunc g args).run Tryz.prog w=.ok (.enter g args) w)
 (hp:∀(x:Rt6) w',Tf w w'→Calls Tryz.prog g (#[.agg #[iV x.1,iV x.2.1,iV x.2.2.1,iV x.2.2.2.1,iV x.2.2.2.2.1,iV x.2.2.2.2.2]]++lb) w' (zgr (p x) w')):
 Calls Tryz.prog 193 #[v,.func (.func g) #[] lb] w fun e w'=>∃i:Int,e=.returned (iV i)∧((i= -1∧l.any p=false)∨∃k,∃h:k<l.length,i=(k:Int)∧(l.take k).any p=false∧p l[k]=true)∧Tf w w':=by
 obtain⟨A,c,rfl,hc1,hc2⟩:=hl.form;have HP:=Lib.hid hp;clear hp;go_enter Tryz.func193,Tryz.ntmps193;go_wp2_with fail;go_loopw [8] (fun i wr=>∃j:Nat,j≤l.length∧i=.int .i64 j∧(l.take j).any p=false∧Tf w wr) (fun i _=>l.length-(intOf i).toNat)
 case atStart=>exact⟨0,Nat.zero_le _,rfl,rfl,Tch.refl _ _⟩
 case round=>
  obtain⟨j,hj,rfl,h2,ht⟩:=hrel;have H2:=Lib.hid h2;clear h2;by_cases hlt:j<l.length
  ·obtain⟨g',o,rfl⟩:=hl.head (by omega);obtain⟨q0,q1,q2,q3,q4,q5⟩:=Row.six (hl.keep ht) zd3 hlt rfl;have hs:=zcx (p:=p) hlt;have hc:=HP.out l[j] wr ht
   obtain⟨x,hx⟩:∃x,l[j]=x:=⟨_,rfl⟩
   simp only[hx]at q0 q1 q2 q3 q4 q5 hs hc;have HS:=Lib.hid hs;have HC:=Lib.hid hc;have HX:=Lib.hid (show∃h:j<l.length,l[j]=x from⟨hlt,hx⟩);clear hs hc hx;have hlt':(j:Int)<(l.length:Int):=by omega
   have hj0:=znn j;go_wp2_with fail;refine HC.out.mono ?_;rintro _ w2 ⟨rfl,t2⟩;clear HC
   cases hb:p x
   ·rw[hb]at HS;clear hb;go_wp2;go_roundw
    case rel=>exact⟨j+1,by omega,by go_num,by rw[HS.out,H2.out];rfl,ht.trans t2⟩
    case measure=>simp[intOf];omega
   ·have HB:=Lib.hid hb;clear hb;go_wp2;go_ret;obtain⟨h9,h8⟩:=HX.out;exact⟨j,rfl,.inr ⟨j,h9,rfl,H2.out,by rw[h8];exact HB.out⟩,ht.trans t2⟩
  ·obtain rfl:l.length=j:=by omega
   rw[List.take_length]at H2;go_wp2;go_ret;exact⟨-1,rfl,.inl ⟨rfl,H2.out⟩,ht⟩
theorem z2h {w:World} {base:Nat} {v:Value} {l:List Rt6} (hO:w.ownsRow base 31 6 v l.length (l.flatMap za2)) (hn:l.length≤200000) (p:Rt6→Bool) (f:Nat) (lb:Array Value) (eg:∀args w,(callFunc f args).run Tryz.prog w=.ok (.enter f args) w)
 (hp:∀(x:Rt6) w',Tch (fun k=>v.ownBlock=some k) w w'→Calls Tryz.prog f (#[.agg #[iV x.1,iV x.2.1,iV x.2.2.1,iV x.2.2.2.1,iV x.2.2.2.2.1,iV x.2.2.2.2.2]]++lb) w' (zgr (p x) w')):
 Calls Tryz.prog 120 #[v,.func (.func f) #[] lb] w fun e w'=>∃u,e=.returned u∧zae za2 6 (fun k=>base≤k) w' u (l.filter fun x=>!p x)∧Tch (fun k=>v.ownBlock=some k) w w':=by
 have hrow:=Row.own hO (P:=fun _=>True) (fun _ _=>trivial);have HI:=Lib.hid (z20 (l:=l) hrow hn p f lb eg (fun x w' t=>hp x w' (Exn.touch t)));have HOW:=Lib.hid hO;obtain⟨A,c,rfl,hc1,hc2,_⟩:=zac hO;have HP:=Lib.hid hp;clear hp hrow;go_enter Tryz.func120,Tryz.ntmps120;go_wp2_with fail;refine HI.out.mono ?_;rintro _ w1 ⟨i,rfl,h1,t1⟩;have HO1:=Lib.hid (t1.own HOW.out (fun _ _=>id))
 rcases h1 with⟨rfl,hany⟩|⟨k,hk,rfl,hbef,hat⟩
 ·have HF:=Lib.hid (show(l.filter fun x=>!p x)=l from List.filter_eq_self.2 fun x hx=>by
   have:=List.any_eq_false.1 hany x hx
   simpa using this)
  clear HI HP hany hO;go_wp2;(try simp only[Exit.inBlock,Exit.then]);(try rw[Exit.noGoto_ret]);go_ret;refine⟨.slice A l.length c,rfl,?_,Exn.touch t1⟩;rw[HF.out];exact Row.own HO1.out (fun g hg=>(HO1.out.lt g hg).1)
 obtain⟨g,rfl⟩:=ziq hO (by omega);have hk0:=znn k;have hkm:((k:Int)== -1)=false:=by rw[beq_eq_false_iff_ne];omega
 have hwk:wrap64 ((k:Int)+1)=(k:Int)+1:=by unfold wrap64;omega
 obtain⟨cs,hcs,hBk,hct⟩:∃cs:List Value,cs.length=c*6∧Blk w1 g 31 cs.toArray∧cs.take (l.length*6)=l.flatMap za2:=by
  rcases HO1.out.2 with⟨h9,_⟩|⟨g',cap,cur,hv,_,hg,_,_,hsz,ht⟩
  ·cases h9
  ·injection hv with e1 _ e3;injection e1 with e1;injection e1 with e1;subst e1 e3;exact⟨cur.toList,by rw[Array.length_toList];exact hsz,hg,ht⟩
 have hgb:=(HO1.out.lt g rfl).1;have HGB:=Lib.hid hgb
 have hkeep:(l.take k).filter (fun x=>!p x)=l.take k:=List.filter_eq_self.2 fun x hx=>by
  have:=List.any_eq_false.1 hbef x hx;simpa using this
 have HST:=Lib.hid (show k=((l.take (k+1)).filter fun x=>!p x).length∧cs.take (k*6)=((l.take (k+1)).filter fun x=>!p x).flatMap za2∧(cs.drop ((k+1)*6)).take ((l.length-(k+1))*6)=(l.drop (k+1)).flatMap za2 by
  rw[List.take_succ_eq_append_getElem hk,List.filter_append,hkeep];have h9:[l[k]].filter (fun x=>!p x)=[]:=by simp[hat]
  rw[h9,List.append_nil];have h7:l.flatMap za2=(l.take k).flatMap za2++(l.drop k).flatMap za2:=by rw[←List.flatMap_append,List.take_append_drop]
  have h6:l.flatMap za2=(l.take (k+1)).flatMap za2++(l.drop (k+1)).flatMap za2:=by rw[←List.flatMap_append,List.take_append_drop]
  refine⟨by rw[List.length_take];omega,?_,?_⟩
  ·have h8:=congrArg (List.take (k*6)) hct;rw[List.take_take,Nat.min_eq_left (by omega),h7,List.take_left' (by rw[zc5 zd3,List.length_take];omega)]at h8;exact h8
  ·have h8:=congrArg (List.drop ((k+1)*6)) hct;rw[h6,List.drop_left' (by rw[zc5 zd3,List.length_take];omega),List.drop_take]at h8;rw[←h8];congr 1
   omega)
 have HK1:=Lib.hid (show k+1≤l.length by omega);have hcl:(l.length:Int)≤200000:=by omega
 clear hbef hat hkeep hct hO hgb HI HOW;go_wp2_with fail;go_loopw [5,6] (fun x5 x6 wr=>∃(i j:Nat) (cs:List Value),x5=.int .i64 (i:Int)∧x6=.int .i64 (j:Int)∧i<j∧j≤l.length∧Blk wr g 31 cs.toArray∧cs.length=c*6∧(i=((l.take j).filter fun x=>!p x).length∧cs.take (i*6)=((l.take j).filter fun x=>!p x).flatMap za2∧(cs.drop (j*6)).take ((l.length-j)*6)=(l.drop j).flatMap za2)∧Tch (fun k=>k=g) w1 wr) (fun _ x6 _=>l.length-(intOf x6).toNat)
 case atStart=>exact⟨k,k+1,cs,rfl,by simp,by omega,HK1.out,hBk,hcs,HST.out,Tch.refl _ _⟩
 case round=>
  obtain⟨i,j,cs,rfl,rfl,hij,hj,hB,hcs,hST,ht⟩:=hrel;have HST:=Lib.hid hST;have HCS:=Lib.hid hcs;have HIJ:=Lib.hid hij;have hj0:=znn j;have hi0:=znn i;have HB:=Lib.hid hB;have HT:=Lib.hid ht;have hil:(i:Int)<(l.length:Int):=by omega
  clear hST hcs hij hBk;by_cases hlt:j<l.length
  ·have hlt':(j:Int)<(l.length:Int):=by omega
   have h9:=HST.out.2.2;rw[List.drop_eq_getElem_cons hlt]at h9
   have hq:∀i,i<6→wr.cell? ⟨g,j*6+i,none⟩=(za2 l[j])[i]?:=fun i hi=>by
    rw[hB.cell (j*6+i),List.getElem?_toArray];exact six_at h9 hi
   have hcp:=HP.out l[j] (wr.alloc (.cells (za2 l[j]).toArray 31)) ((((Exn.touch t1).trans (HT.out.mono (fun i _ hi=>by have hi:i=g:=hi;rw[hi];rfl))).trans (Exn.touch (tal wr _))));have htk:=List.take_succ_eq_append_getElem hlt;have hdr:=congrArg (List.drop 6) h9;rw[List.flatMap_cons,List.drop_left' (zd3 _),List.drop_take,List.drop_drop]at hdr
   have hdr2:(cs.drop ((j+1)*6)).take ((l.length-(j+1))*6)=(l.drop (j+1)).flatMap za2:=by
    rw[←hdr];congr 1
    ·omega
    ·congr 1;omega
   have hfl:(l.take (j+1)).filter (fun x=>!p x)=(l.take j).filter (fun x=>!p x)++(if p l[j]=true then[]else[l[j]]):=by
    rw[htk,List.filter_append];congr 1;by_cases h:p l[j]=true<;>simp[h]
   obtain⟨x,hx⟩:∃x,l[j]=x:=⟨_,rfl⟩
   simp only[hx]at hq hcp hfl;have HFL:=Lib.hid hfl;have HDR:=Lib.hid hdr2;have HJL:=Lib.hid hlt;clear h9 htk hdr hdr2 hfl hx;obtain⟨a1,a2,a3,a4,a5,a6⟩:=x;have q0:wr.cell? ⟨g,j*6,none⟩=some (iV a1):=hq 0 (by decide);have q1:wr.cell? ⟨g,j*6+1,none⟩=some (iV a2):=hq 1 (by decide);have q2:wr.cell? ⟨g,j*6+2,none⟩=some (iV a3):=hq 2 (by decide);have q3:wr.cell? ⟨g,j*6+3,none⟩=some (iV a4):=hq 3 (by decide);have q4:wr.cell? ⟨g,j*6+4,none⟩=some (iV a5):=hq 4 (by decide);have q5:wr.cell? ⟨g,j*6+5,none⟩=some (iV a6):=hq 5 (by decide);unfold za2 at hcp;simp only at hcp;have tA:=tal wr (.cells #[iV a1,iV a2,iV a3,iV a4,iV a5,iV a6] 31);have bz:=Blk.new wr 31 #[iV a1,iV a2,iV a3,iV a4,iV a5,iV a6];have HCP:=Lib.hid hcp;have hBA:=hB.keep tA id;have htA:=ht.trans (Exn.touch tA);obtain⟨g0,g1,g2,g3,g4,g5⟩:=bz.f6;have HGW:=Lib.hid hB.lt;clear hq hcp hB ht hlt HB HT;go_wp2_with fail;generalize hWA:wr.alloc _=WA at *;generalize hzA:wr.heap.size=zA at *;refine HCP.out.mono ?_;rintro _ w5 ⟨rfl,t5⟩;have b5:=bz.keep t5 id;have hB5:=hBA.keep t5 id;have ht5:=htA.trans (Exn.touch t5);clear HCP g0 g1 g2 g3 g4 g5 q0 q1 q2 q3 q4 q5 bz hBA htA t5 tA hWA hzA;obtain⟨g0,g1,g2,g3,g4,g5⟩:=b5.f6
   cases hpx:p (a1,a2,a3,a4,a5,a6)
   ·rw[hpx,if_neg (by decide)]at HFL;have hi6:i*6=(cs.take (i*6)).length:=by rw[List.length_take,HCS.out];have:=HIJ.out;omega
    have hm6:((cs.drop (i*6)).take 6).length=6:=by rw[List.length_take,List.length_drop,HCS.out];have:=HIJ.out;have:=HJL.out;omega
    have HI6:=Lib.hid hi6;have HM6:=Lib.hid hm6
    have HBB:=Lib.hid (show Blk w5 g 31 (cs.take (i*6)++(cs.drop (i*6)).take 6++cs.drop (i*6+6)).toArray by
     rw[List.append_assoc,←List.drop_drop,List.take_append_drop,List.take_append_drop]
     exact hB5)
    clear hpx hi6 hm6 hB5;go_wp2_with (refine zdp rfl _ _ _ rfl g (i*6) (cs.take (i*6)) ((cs.drop (i*6)).take 6) [iV a1,iV a2,iV a3,iV a4,iV a5,iV a6] (cs.drop (i*6+6)) HI6.out (by rfl) (by rfl) (by simp[Value.oneCell']) (by kernel_rfl) HM6.out HBB.out ?_;refine Hid.out ?_);refine Lib.hid ?_;intro w6 hB6 t6;have HB6:=Lib.hid hB6;have HT6:=Lib.hid (ht5.trans t6);clear hB6 t6 ht5;go_wp2;go_roundw
    case rel=>
     refine⟨i+1,j+1,cs.take (i*6)++[iV a1,iV a2,iV a3,iV a4,iV a5,iV a6]++cs.drop (i*6+6),by go_num,by go_num,by have:=HIJ.out;omega,HJL.out,by simpa using HB6.out,?_,⟨?_,?_,?_⟩,HT6.out⟩
     ·rw[List.length_append,List.length_append,←HI6.out,List.length_drop,HCS.out];simp only[List.length_cons,List.length_nil];have:=HIJ.out;have:=HJL.out;omega
     ·rw[HFL.out,List.length_append,←HST.out.1];rfl
     ·rw[List.take_left' (by rw[List.length_append,←HI6.out];simp only[List.length_cons,List.length_nil];omega),HFL.out,List.flatMap_append,←HST.out.2.1];rfl
     ·rw[show(j+1)*6=(i*6+6)+((j+1)*6-(i*6+6)) by have:=HIJ.out;omega,←List.drop_drop,List.drop_left' (by rw[List.length_append,←HI6.out];rfl),List.drop_drop,show(i*6+6)+((j+1)*6-(i*6+6))=(j+1)*6 by have:=HIJ.out;omega];exact HDR.out
    case measure=>have:=HJL.out;simp[intOf]<;>omega
   ·rw[hpx,if_pos rfl,List.append_nil]at HFL;have HB5:=Lib.hid hB5;clear hpx hB5;go_wp2;go_roundw
    case rel=>exact⟨i,j+1,cs,rfl,by go_num,by have:=HIJ.out;omega,HJL.out,HB5.out,HCS.out,⟨by rw[HFL.out];exact HST.out.1,by rw[HFL.out];exact HST.out.2.1,HDR.out⟩,ht5⟩
    case measure=>have:=HJL.out;simp[intOf]<;>omega
  ·obtain rfl:j=l.length:=by omega
   have hlt':¬(l.length:Int)<(l.length:Int):=by omega
   have HI6:=Lib.hid (show(cs.take (i*6)).length=i*6 by rw[List.length_take,HCS.out];have:=HIJ.out;omega);have HM6:=Lib.hid (show((cs.drop (i*6)).take ((l.length-i)*6)).length=(l.length-i)*6 by rw[List.length_take,List.length_drop,HCS.out];have:=HIJ.out;omega)
   have HBB:=Lib.hid (show Blk wr g 31 (cs.take (i*6)++(cs.drop (i*6)).take ((l.length-i)*6)++(cs.drop (i*6)).drop ((l.length-i)*6)).toArray by
    rw[List.append_assoc,List.take_append_drop,List.take_append_drop]
    exact hB)
   have HNI:=Lib.hid (show 0<l.length-i by have:=HIJ.out;omega);have HIC:=Lib.hid (show i≤l.length by have:=HIJ.out;omega);clear hB ht hlt HB;go_wp2_with (refine z1s rfl _ _ rfl Tryz.underlying42 (z:=.agg #[iV 0,iV 0,iV 0,iV 0,iV 0,iV 0]) (fun w=>by kernel_rfl) (k:=6) rfl (fun u hu=>by simp[Value.cells]at hu;rcases hu with rfl<;>rfl) (off:=i*6) (pre:=cs.take (i*6)) (mid:=(cs.drop (i*6)).take ((l.length-i)*6)) HI6.out.symm (by rfl) HNI.out HM6.out HBB.out ?_;refine Hid.out ?_);refine Lib.hid ?_;intro w6 zs hzs hB6 t6;have HB6:=Lib.hid hB6;have HT6:=Lib.hid (HT.out.trans t6);clear hB6 t6 hzs;go_wp2;go_ret;refine⟨_,rfl,?_,?_⟩
   ·have hfi:((l.filter fun x=>!p x)).length=i:=by have:=HST.out.1;rw[List.take_length]at this;exact this.symm
    have hft:cs.take (i*6)=(l.filter fun x=>!p x).flatMap za2:=by have:=HST.out.2.1;rw[List.take_length]at this;exact this
    refine⟨some ⟨g,0,none⟩,c,by rw[hfi];rfl,by rw[hfi];have:=HIC.out;omega,hc2,zc5 zd3 _,(fun h=>by cases h),fun _=>⟨g,0,rfl,⟨HGB.out,HB6.out.lt⟩,fun m u hu=>?_⟩⟩;rw[Nat.zero_add,HB6.out.cell m,List.getElem?_toArray];(try rw[List.append_assoc]);rw[List.getElem?_append_left (by rw[hft];exact(List.getElem?_eq_some_iff.1 hu).1),hft];exact hu
   ·exact(Exn.touch t1).trans (HT6.out.mono fun i _ hi=>by have hi:i=g:=hi;rw[hi];rfl)
end Go.Proofs.YtoegobjnjljegaaGreatDoor
namespace Go.Gk.V38
open Go.Gk.V37 Go.Gk.V33 Go.RowKit
end Go.Gk.V38
namespace Go.Proofs.YtoegobjnjljegaaGreatDoor
open Go.RowKit Go.Gk Go.Gk.V33 Go.Gk.V37 Go.Gk.V38
section
variable {w:World} {bv bi B t mr mp:Nat} {e a s r l n lv:Value} {fs:List Value} {b:Bks} {us:List (Ent×Value)}
end
end Go.Proofs.YtoegobjnjljegaaGreatDoor
namespace Go.Gk.V38
open Go.Gk.V37 Go.Gk.V33 Go.RowKit
end Go.Gk.V38
namespace Go.Proofs.YtoegobjnjljegaaGreatDoor
open Go.RowKit Go.Gk Go.Gk.V33 Go.Gk.V37 Go.Gk.V38
section
variable {w:World} {bv bi B t mr mp:Nat} {e a s r l n lv:Value} {fs:List Value} {b:Bks} {us:List (Ent×Value)}
