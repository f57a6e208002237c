/-
  Cells in order: cell.Sort.
-/
import Derived.Test.YtoegobjnjljegaaGreatDoorSrt
import Derived.Test.YtoegobjnjljegaaGreatDoorZ80
set_option maxRecDepth 100000
set_option maxHeartbeats 3200000
namespace Go.Gk
open Go.RowKit Go.Sort
def Grw (w w':World):Prop:=∃q os,w'=Go.Sort.grow (w.drewN q) os
theorem Grw.refl (w:World):Grw w w:=⟨0,#[],by simp[Go.Sort.grow,World.drewN]⟩
theorem Grw.trans {a b c:World} (h:Grw a b) (k:Grw b c):Grw a c:=by
 obtain⟨q,os,rfl⟩:=h;obtain⟨q',os',rfl⟩:=k;exact⟨q+q',os++os',by simp[Go.Sort.grow,World.drewN,Nat.add_assoc,Array.append_assoc]⟩
theorem Grw.drew (w:World):Grw w w.drew:=⟨1,#[],by rw[Go.Sort.grow_empty];rfl⟩
theorem Grw.alloc (w:World) (o:Obj):Grw w (w.alloc o):=⟨0,#[o],by rw[Go.Sort.alloc_eq_grow];rfl⟩
theorem Grw.tch {w w':World} (h:Grw w w'):Tf w w':=by
 obtain⟨q,os,rfl⟩:=h;refine⟨rfl,rfl,rfl,by simp[Go.Sort.grow,World.drewN],fun k hk _=>?_⟩;show(w.heap++os)[k]?=_;rw[Array.getElem?_append_left hk]
theorem grc {W:World} {a:Addr} {u:Value} (h:W.cell? a=some u):∀b L (p:Within Grw W.drew b L),p.w.cell? a=some u:=fun _ _ p=>p.hr.tch.cell_some (by exact h) id
@[reducible] def zz4 (ops:Array Oper) (bef:Array Nat) (Vs:List (Nat×Sum Value (Value→World→Prop))) (w0:World):Env:=
 {ops:=ops,bef:=bef,R:=Grw,R0:=Grw,J:=fun _ _=>True,w0:=w0,ks:=fun k=>Vs.lookup k,sp:=fun _=>none,fr:=fun _=>false}
section
variable {P:Program} {ops:Array Oper} {bef:Array Nat} {Vs:List (Nat×Sum Value (Value→World→Prop))} {w0:World} {fin:Act→List (Nat×(World→Prop))→Prop} {o:Oper} {rest:List Oper} {k:Nat} {a:Act} {L:List (Nat×(World→Prop))}
theorem z3m (hw:Region.wanted o (yielded ops a.tmps)=true) (hk:Vs.lookup k=none) (_:(0:Nat)=0) (hp:zgu o.op=true)
 (h:∀K:Act→Prop,(∀a',(zz4 ops bef Vs w0).head P fin rest (k+1) a' L→K a')→o.quiet P a (fun w'=>∃p:Within Grw w0 (bef.getD k 0) L,w'=p.w) K):(zz4 ops bef Vs w0).head P fin (o::rest) k a L:=
 znz (E:=zz4 ops bef Vs w0) hw hk rfl rfl hp h
theorem z4q (x:Value) (hw:Region.wanted o (yielded ops a.tmps)=true) (hk:Vs.lookup k=some (.inl x))
 (h:∀w,Grw w0 w→za8 P o a w (fun v w'=>v=x∧Grw w w')) (h2:(zz4 ops bef Vs w0).head P fin rest (k+1) (a.put o.dst x) L):(zz4 ops bef Vs w0).head P fin (o::rest) k a L:=
 zs7 (E:=zz4 ops bef Vs w0) x hw hk rfl (fun w hr _=>zcs (fun _ _ h=>⟨h,zaf⟩) (h w hr)) h2
theorem q_nil (h:fin a L):(zz4 ops bef Vs w0).head P fin [] k a L:=h
end
theorem z1h {P:Program} {id:Nat} {Q:Exit→Act→World→Prop} {a:Act} {w:World} {l:List Oper} (n:Nat) (Vs:List (Nat×Sum Value (Value→World→Prop))) (hm:P.follows .mixedOrders=true)
 (hn:(decide (n≤l.length))=true) (hc:zj9 [] l.toArray (fun _=>none) n a.tmps.size=true) (hQ:∀d v c a w,Q (.panic c) (a.put d v) w→Q (.panic c) a w) (hV:Stable Grw Vs)
 (h:∀(bef:Array Nat) (ops:Array Oper),bef=Region.before l.toArray→ops=l.toArray→(zz4 ops bef Vs w.drew).head P (fun a' _=>∀w',Grw w.drew w'→wpList P l.toArray Q (l.drop n) a' w') (l.take n) 0 a []):(Code.region id l.toArray true).wp P Q a w:=by
 simp only[zj9,Bool.and_eq_true]at hc;obtain⟨⟨⟨⟨⟨⟨⟨c1,c2⟩,c3⟩,c4⟩,c5⟩,c6⟩,c7⟩,c8⟩:=hc
 refine zf6 (E:=zz4 l.toArray (Region.before l.toArray) Vs w.drew) (n:=n) (m:=0) [] hm rfl rfl ⟨fun _ _ h=>h.tch.size,Grw.refl,fun _ _ _ h k=>h.trans k,fun _ _ h=>h,fun _ _ _ _ _=>trivial,hV.spec,c1,c2,c3,c4,c5,c6⟩ rfl (of_decide_eq_true hn) c7 (by simpa using c8)
  (fun i hi=>by cases hi) (fun i hi=>rfl) hQ ⟨fun k s' _ h=>(by cases h),.inl rfl⟩ trivial ?_
 exact zea (fun a' L' hf w' hr _ _ _=>hf w' hr) _ _ _ _ _ (h _ _ rfl rfl)
theorem z1t (d:Array Rt6):flatK za2 6 d=(d.toList.flatMap za2).toArray:=by
 refine ext_get! (by simp[zc5 zd3]) fun t ht=>?_
 have ht:t<d.size*6:=by simpa using ht
 have h1:t/6<d.size:=by omega
 rw[get_flatK _ _ _ _ ht];have h2:=zfp zd3 d.toList (t/6) (by simpa using h1) (t%6) (Nat.mod_lt _ (by decide));rw[show t/6*6+t%6=t by omega,Array.getElem_toList]at h2;have h3:t<(d.toList.flatMap za2).length:=by rw[zc5 zd3];simpa using ht
 rw[getElem!_pos d (t/6) h1,getElem!_pos (d.toList.flatMap za2).toArray t (by simpa using h3),List.getElem_toArray];have h4:t%6<(za2 d[t/6]).length:=by rw[zd3];exact Nat.mod_lt _ (by decide)
 (try simp only[Array.getElem_toList]);rw[getElem!_pos (za2 d[t/6]) _ h4];rw[List.getElem?_eq_getElem h3,List.getElem?_eq_getElem h4]at h2;exact(Option.some.inj h2).symm
theorem z3n {w:World} {base n size c g:Nat} {e:TypeId} {xs:List Value} (h:w.ownsRow base e size (.slice (some ⟨g,0,none⟩) n c) n xs) {F:Array Value} (hF:F.size=xs.length) (q:Nat) (os:Array Obj):
 (Go.Sort.grow (putRow id (Go.Sort.ahead w q) g 0 F) os).ownsRow base e size (.slice (some ⟨g,0,none⟩) n c) n F.toList:=by
 obtain⟨h0,h1⟩:=h;refine⟨by rw[Array.length_toList,hF,h0],?_⟩
 rcases h1 with⟨h1,_⟩|⟨g',cap,cur,hv,hb,hg,hn,hc,hs,ht⟩
 ·cases h1
 ·injection hv with e1 _ e3;injection e1 with e1;injection e1 with e1;subst e1 e3;have hlt:=(Array.getElem?_eq_some_iff.1 hg).1;have hle:n*size≤cur.size:=by rw[hs];exact Nat.mul_le_mul_right _ hn
  refine .inr ⟨g,c,putCells id 0 F cur,rfl,hb,?_,hn,hc,by simp[putCells,hs],?_⟩
  ·show((putRow id (Go.Sort.ahead w q) g 0 F).heap++os)[g]?=_;rw[Array.getElem?_append_left (by simpa[putRow,mapBlock]using hlt)];show(w.heap.modify g _)[g]?=_;rw[Array.getElem?_modify,if_pos rfl,hg];rfl
  ·apply List.ext_getElem?
   intro j;by_cases hj:j<n*size
   ·rw[List.getElem?_take_of_lt hj,Array.getElem?_toList];simp only[putCells,Array.getElem?_mapIdx,Array.getElem?_eq_getElem (show j<cur.size by omega),Option.map_some];rw[if_pos ⟨Nat.zero_le _,by omega⟩,Nat.sub_zero,id_eq,getElem!_pos F j (by omega),Array.getElem?_toList,Array.getElem?_eq_getElem (by omega)]
   ·rw[List.getElem?_eq_none (by rw[List.length_take];omega),List.getElem?_eq_none (by rw[Array.length_toList];omega)]
theorem z4r {w:World} {base c g:Nat} {e:TypeId} {l:List Rt6} (h:w.ownsRow base e 6 (.slice (some ⟨g,0,none⟩) l.length c) l.length (l.flatMap za2)):HoldsK za2 6 w g 0 l.toArray:=by
 unfold HoldsK;rw[z1t];intro j hj;have hj:j<(l.flatMap za2).length:=by simpa using hj
 rw[Nat.zero_add,id_eq,getElem!_pos (l.flatMap za2).toArray j (by simpa using hj),List.getElem_toArray];refine⟨zk0 h rfl (List.getElem?_eq_getElem hj),?_⟩
 rcases h.2 with⟨hv,_⟩|⟨g',cap,cur,hv,_,hg,_⟩
 ·cases hv
 ·injection hv with e1;injection e1 with e1;injection e1 with e1;subst e1;simp[World.frozen?,hg]
def z2k:List Int→Int
 |[]=>0
 |x::r=>if x≠0 then x else z2k r
def z21 (x y:Rt6):Int:=z2k [Lib.compareInt x.1 y.1,Lib.compareInt x.2.1 y.2.1,Lib.compareInt x.2.2.1 y.2.2.1,Lib.compareInt x.2.2.2.1 y.2.2.2.1,Lib.compareInt x.2.2.2.2.1 y.2.2.2.2.1,Lib.compareInt x.2.2.2.2.2 y.2.2.2.2.2]
def ltC (x y:Rt6):Prop:=x.1<y.1∨(x.1=y.1∧(x.2.1<y.2.1∨(x.2.1=y.2.1∧(x.2.2.1<y.2.2.1∨(x.2.2.1=y.2.2.1∧(x.2.2.2.1<y.2.2.2.1∨(x.2.2.2.1=y.2.2.2.1∧(x.2.2.2.2.1<y.2.2.2.2.1∨(x.2.2.2.2.1=y.2.2.2.2.1∧x.2.2.2.2.2<y.2.2.2.2.2)))))))))
theorem z7j (a b:Int) (r:List Int):z2k (Lib.compareInt a b::r)<0↔a<b∨(a=b∧z2k r<0):=by
 show(if Lib.compareInt a b≠0 then Lib.compareInt a b else z2k r)<0↔_;unfold Lib.compareInt;by_cases h1:a<b
 ·simp[h1]
 ·by_cases h2:a>b
  ·simp[h1,h2];omega
  ·obtain rfl:a=b:=by omega
   simp
theorem z23 (x y:Rt6):z21 x y<0↔ltC x y:=by
 unfold z21 ltC;simp only[z7j];simp[z2k]
theorem swoC:SWO (Go.Proofs.ltOf z21) where
 irrefl x:=by
  unfold Go.Proofs.ltOf;rw[decide_eq_false_iff_not,z23];unfold ltC;omega
 trans x y z h1 h2:=by
  unfold Go.Proofs.ltOf at *;rw[decide_eq_true_eq,z23]at *;unfold ltC at *;omega
 ntrans x y z h1 h2:=by
  unfold Go.Proofs.ltOf at *;rw[decide_eq_false_iff_not,z23]at *;unfold ltC at *;omega
theorem totC (x y:Rt6) (h1:Go.Proofs.ltOf z21 x y=false) (h2:Go.Proofs.ltOf z21 y x=false):x=y:=by
 unfold Go.Proofs.ltOf at *;rw[decide_eq_false_iff_not,z23]at *;unfold ltC at *;obtain⟨x1,x2,x3,x4,x5,x6⟩:=x;obtain⟨y1,y2,y3,y4,y5,y6⟩:=y;simp only at h1 h2;simp only[Prod.mk.injEq];omega
def zza (l:List Rt6):List Rt6:=l.mergeSort fun x y=>!(Go.Proofs.ltOf z21) y x
theorem zzc (l:List Rt6):(zza l).Perm l:=List.mergeSort_perm _ _
theorem z4s {l:List Rt6} (h:l.Nodup):(zza l).Pairwise fun x y=>Go.Proofs.ltOf z21 x y=true:=by
 have h1:(zza l).Pairwise fun x y=>(!(Go.Proofs.ltOf z21) y x)=true:=List.pairwise_mergeSort (fun a b c h1 h2=>by
  simp only[Bool.not_eq_true']at *
  exact swoC.ntrans _ _ _ h2 h1) (fun a b=>by
  simp only[Bool.or_eq_true,Bool.not_eq_true'];by_cases h:Go.Proofs.ltOf z21 b a=true
  ·right
   cases h9:Go.Proofs.ltOf z21 a b with
   |false=>rfl
   |true=>have:=swoC.trans _ _ _ h h9;rw[swoC.irrefl]at this;cases this
  ·left;simpa using h) l
 have h2:(zza l).Nodup:=(zzc l).nodup_iff.2 h;refine List.Pairwise.imp₂ (fun a b h3 h4=>?_) h1 h2
 cases h9:Go.Proofs.ltOf z21 a b with
 |true=>rfl
 |false=>exact absurd (totC a b h9 (by simpa using h3)) h4
theorem z0n (l:List Rt6):(zza l).length=l.length:=(zzc l).length_eq
end Go.Gk
namespace Go.Proofs.YtoegobjnjljegaaGreatDoor
open Go.RowKit Go.Gk Go.Sort
theorem z05 {w:World} {v:Value} {l:List Rt6} (hl:zae za2 6 (fun _=>True) w v l) (hn:l.length≤200000):
 Calls Tryz.prog 170 #[v] w fun e w'=>∃u,e=.returned u∧Outs za2 6 31 w w' u l:=by
 obtain⟨A,c,rfl,hc1,hc2⟩:=hl.form;have hq:∀(w:World) (a:Option Addr) (n c n' c':Nat),(binOp .eql 42 (.slice a n c) (.slice none n' c')).run Tryz.prog w=.ok (.bool a.isNone) w:=fun w a n c n' c'=>Lib.run_eql_slice_nil w _ _ a n c n' c' Tryz.underlying42
 cases A with
 |none=>
  obtain⟨h0,rfl⟩:=hl.src.nil rfl;obtain rfl:l=[]:=List.eq_nil_of_length_eq_zero h0;clear hl;go_enter Tryz.func170,Tryz.ntmps170;go_wp2;go_ret;exact⟨_,rfl,Outs.start _ _ _ (Tch.refl _ _)⟩
 |some a=>
  have tw:=tal w (.cells #[] 31);have hs:=hl.src.keep tw (fun _ _=>id);have h1':=ziv l;go_enter Tryz.func170,Tryz.ntmps170;go_wp2_with (at_builtin;refine apd z00 (zel w 31 6 0 #[] (Nat.zero_le _) rfl) hs h1' ?_;intro v2 w2 ho2 hg2 hl2);go_ret;rw[List.nil_append,Nat.zero_add]at ho2;refine⟨_,rfl,zbk ho2 fun g hg=>?_,tw.trans' (Tch.grown (F:=fun k=>w.heap.size≤k) hg2 fun k hk=>.inl (by have:=zaz hk;omega)) fun i hi=>.inr hi⟩;rcases hl2 g hg with h1|h1
  ·have:=zaz h1;omega
  ·simp at h1;omega
theorem or_any {w:World} {g:Nat} {t:TypeId} {a1 a2 a3 a4 a5 a6:Int} (h:Blk w g t #[iV a1,iV a2,iV a3,iV a4,iV a5,iV a6]):
 Calls Tryz.prog 183 #[.slice (some ⟨g,0,none⟩) 6 6] w fun x w'=>x=.returned (iV (z2k [a1,a2,a3,a4,a5,a6]))∧w'=w:=by
 obtain⟨f0,f1,f2,f3,f4,f5⟩:=h.f6
 obtain⟨r,hr⟩:∃r,z2k [a1,a2,a3,a4,a5,a6]=r:=⟨_,rfl⟩
 rw[hr];have HR:=Lib.hid hr;clear hr h;go_enter Tryz.func183,Tryz.ntmps183;go_wp2_with fail;go_loopw [8] (fun i wr=>∃j:Nat,j≤6∧i=.int .i64 j∧w=wr∧z2k ([a1,a2,a3,a4,a5,a6].drop j)=r) (fun i _=>6-(intOf i).toNat)
 case atStart=>exact⟨0,by omega,rfl,rfl,HR.out⟩
 case round=>
  obtain⟨j,hj,rfl,rfl,hc⟩:=hrel;have HC:=Lib.hid hc;clear hc;rcases(by omega:j=0∨j=1∨j=2∨j=3∨j=4∨j=5∨j=6)with rfl|rfl|rfl|rfl|rfl|rfl|rfl
  ·have HC:=Lib.hid (show(if a1≠0 then a1 else z2k [a2,a3,a4,a5,a6])=r from HC.out);by_cases hz:a1=0
   ·subst hz;go_wp2;go_roundw
    case rel=>exact⟨1,by omega,by go_num,by trivial,HC.out⟩
    case measure=>simp[intOf]
   ·have hzb:(a1 !=0)=true:=by simpa using hz
    have HZ:=Lib.hid hz;clear hz;go_wp2;(try simp only[Exit.inBlock,Exit.then]);(try rw[Exit.noGoto_ret]);go_ret;exact⟨by rw[←HC.out,if_pos HZ.out];rfl,rfl⟩
  ·have HC:=Lib.hid (show(if a2≠0 then a2 else z2k [a3,a4,a5,a6])=r from HC.out);by_cases hz:a2=0
   ·subst hz;go_wp2;go_roundw
    case rel=>exact⟨2,by omega,by go_num,by trivial,HC.out⟩
    case measure=>simp[intOf]
   ·have hzb:(a2 !=0)=true:=by simpa using hz
    have HZ:=Lib.hid hz;clear hz;go_wp2;(try simp only[Exit.inBlock,Exit.then]);(try rw[Exit.noGoto_ret]);go_ret;exact⟨by rw[←HC.out,if_pos HZ.out];rfl,rfl⟩
  ·have HC:=Lib.hid (show(if a3≠0 then a3 else z2k [a4,a5,a6])=r from HC.out);by_cases hz:a3=0
   ·subst hz;go_wp2;go_roundw
    case rel=>exact⟨3,by omega,by go_num,by trivial,HC.out⟩
    case measure=>simp[intOf]
   ·have hzb:(a3 !=0)=true:=by simpa using hz
    have HZ:=Lib.hid hz;clear hz;go_wp2;(try simp only[Exit.inBlock,Exit.then]);(try rw[Exit.noGoto_ret]);go_ret;exact⟨by rw[←HC.out,if_pos HZ.out];rfl,rfl⟩
  ·have HC:=Lib.hid (show(if a4≠0 then a4 else z2k [a5,a6])=r from HC.out);by_cases hz:a4=0
   ·subst hz;go_wp2;go_roundw
    case rel=>exact⟨4,by omega,by go_num,by trivial,HC.out⟩
    case measure=>simp[intOf]
   ·have hzb:(a4 !=0)=true:=by simpa using hz
    have HZ:=Lib.hid hz;clear hz;go_wp2;(try simp only[Exit.inBlock,Exit.then]);(try rw[Exit.noGoto_ret]);go_ret;exact⟨by rw[←HC.out,if_pos HZ.out];rfl,rfl⟩
  ·have HC:=Lib.hid (show(if a5≠0 then a5 else z2k [a6])=r from HC.out);by_cases hz:a5=0
   ·subst hz;go_wp2;go_roundw
    case rel=>exact⟨5,by omega,by go_num,by trivial,HC.out⟩
    case measure=>simp[intOf]
   ·have hzb:(a5 !=0)=true:=by simpa using hz
    have HZ:=Lib.hid hz;clear hz;go_wp2;(try simp only[Exit.inBlock,Exit.then]);(try rw[Exit.noGoto_ret]);go_ret;exact⟨by rw[←HC.out,if_pos HZ.out];rfl,rfl⟩
  ·have HC:=Lib.hid (show(if a6≠0 then a6 else z2k [])=r from HC.out);by_cases hz:a6=0
   ·subst hz;go_wp2;go_roundw
    case rel=>exact⟨6,by omega,by go_num,by trivial,HC.out⟩
    case measure=>simp[intOf]
   ·have hzb:(a6 !=0)=true:=by simpa using hz
    have HZ:=Lib.hid hz;clear hz;go_wp2;(try simp only[Exit.inBlock,Exit.then]);(try rw[Exit.noGoto_ret]);go_ret;exact⟨by rw[←HC.out,if_pos HZ.out];rfl,rfl⟩
  ·have HC:=Lib.hid (show(0:Int)=r from HC.out);go_wp2;go_ret;exact⟨by rw[←HC.out];rfl,rfl⟩
theorem cmpC_any (x y:Rt6) (w:World):
 Calls Tryz.prog 240 #[.agg (za2 x).toArray,.agg (za2 y).toArray] w fun e w'=>e=.returned (iV (z21 x y))∧Grw w w':=by
 obtain⟨a1,a2,a3,a4,a5,a6⟩:=x;obtain⟨b1,b2,b3,b4,b5,b6⟩:=y;have HC:=Lib.hid (fun x y w'=>Tryz.cmp_Compare_int x y w');unfold za2 z21;simp only
 obtain⟨r1,hr1⟩:∃r,Lib.compareInt a1 b1=r:=⟨_,rfl⟩
 obtain⟨r2,hr2⟩:∃r,Lib.compareInt a2 b2=r:=⟨_,rfl⟩
 obtain⟨r3,hr3⟩:∃r,Lib.compareInt a3 b3=r:=⟨_,rfl⟩
 obtain⟨r4,hr4⟩:∃r,Lib.compareInt a4 b4=r:=⟨_,rfl⟩
 obtain⟨r5,hr5⟩:∃r,Lib.compareInt a5 b5=r:=⟨_,rfl⟩
 obtain⟨r6,hr6⟩:∃r,Lib.compareInt a6 b6=r:=⟨_,rfl⟩
 rw[hr1,hr2,hr3,hr4,hr5,hr6];have HR:=Lib.hid (⟨hr1,hr2,hr3,hr4,hr5,hr6⟩:_∧_∧_∧_∧_∧_);clear hr1 hr2 hr3 hr4 hr5 hr6;have bA:=(Blk.new w 31 #[iV a1,iV a2,iV a3,iV a4,iV a5,iV a6]).keep (tal _ (.cells #[iV b1,iV b2,iV b3,iV b4,iV b5,iV b6] 31)) id;have bB:=Blk.new2 w (.cells #[iV a1,iV a2,iV a3,iV a4,iV a5,iV a6] 31) 31 #[iV b1,iV b2,iV b3,iV b4,iV b5,iV b6];have gW:Grw w ((w.alloc (.cells #[iV a1,iV a2,iV a3,iV a4,iV a5,iV a6] 31)).alloc (.cells #[iV b1,iV b2,iV b3,iV b4,iV b5,iV b6] 31)):=(Grw.alloc _ _).trans (Grw.alloc _ _);go_enter Tryz.func240,Tryz.ntmps240;go_wp2_with fail;generalize(w.alloc (.cells #[iV a1,iV a2,iV a3,iV a4,iV a5,iV a6] 31)).alloc _=W at *;generalize w.heap.size=z at *;have x0:=grc bA.at0;have x1:=grc bA.at1;have x2:=grc bA.at2;have x3:=grc bA.at3;have x4:=grc bA.at4;have x5:=grc bA.at5;have y0:=grc bB.at0;have y1:=grc bB.at1;have y2:=grc bB.at2;have y3:=grc bB.at3;have y4:=grc bB.at4;have y5:=grc bB.at5;refine z1h 29 [(4,.inl (iV r1)),(9,.inl (iV r2)),(14,.inl (iV r3)),(19,.inl (iV r4)),(24,.inl (iV r5))] (by kernel_rfl) rfl (by kernel_rfl) (fun d _ _ _ _ h=>by cases d<;>exact h) trivial ?_;intro bef ops hbef hops;clear hbef;subst hops;simp only[tkS];iterate 4 (refine z3m (by rfl) (by rfl) (by rfl) (by rfl) (fun K hK=>?_);go_big_quiet_op;(first|refine hK _ ?_|refine⟨_,fun _=>rfl,hK _ ?_⟩);clear hK K;(try simp only[zaw]))
 refine z4q (iV r1) (by rfl) (by rfl) (fun wa hr=>?_) ?_
 ·refine zaa (d:=9) rfl (by simp) (fun K hK=>?_);go_step;refine(HC.out a1 b1 wa).mono ?_;rintro _ wb ⟨rfl,rfl⟩;exact hK _ _ ⟨by rw[HR.out.1],Grw.refl _⟩
 simp only[zaw];iterate 4 (refine z3m (by rfl) (by rfl) (by rfl) (by rfl) (fun K hK=>?_);go_big_quiet_op;(first|refine hK _ ?_|refine⟨_,fun _=>rfl,hK _ ?_⟩);clear hK K;(try simp only[zaw]))
 refine z4q (iV r2) (by rfl) (by rfl) (fun wa hr=>?_) ?_
 ·refine zaa (d:=14) rfl (by simp) (fun K hK=>?_);go_step;refine(HC.out a2 b2 wa).mono ?_;rintro _ wb ⟨rfl,rfl⟩;exact hK _ _ ⟨by rw[HR.out.2.1],Grw.refl _⟩
 simp only[zaw];iterate 4 (refine z3m (by rfl) (by rfl) (by rfl) (by rfl) (fun K hK=>?_);go_big_quiet_op;(first|refine hK _ ?_|refine⟨_,fun _=>rfl,hK _ ?_⟩);clear hK K;(try simp only[zaw]))
 refine z4q (iV r3) (by rfl) (by rfl) (fun wa hr=>?_) ?_
 ·refine zaa (d:=19) rfl (by simp) (fun K hK=>?_);go_step;refine(HC.out a3 b3 wa).mono ?_;rintro _ wb ⟨rfl,rfl⟩;exact hK _ _ ⟨by rw[HR.out.2.2.1],Grw.refl _⟩
 simp only[zaw];iterate 4 (refine z3m (by rfl) (by rfl) (by rfl) (by rfl) (fun K hK=>?_);go_big_quiet_op;(first|refine hK _ ?_|refine⟨_,fun _=>rfl,hK _ ?_⟩);clear hK K;(try simp only[zaw]))
 refine z4q (iV r4) (by rfl) (by rfl) (fun wa hr=>?_) ?_
 ·refine zaa (d:=24) rfl (by simp) (fun K hK=>?_);go_step;refine(HC.out a4 b4 wa).mono ?_;rintro _ wb ⟨rfl,rfl⟩;exact hK _ _ ⟨by rw[HR.out.2.2.2.1],Grw.refl _⟩
 simp only[zaw];iterate 4 (refine z3m (by rfl) (by rfl) (by rfl) (by rfl) (fun K hK=>?_);go_big_quiet_op;(first|refine hK _ ?_|refine⟨_,fun _=>rfl,hK _ ?_⟩);clear hK K;(try simp only[zaw]))
 refine z4q (iV r5) (by rfl) (by rfl) (fun wa hr=>?_) ?_
 ·refine zaa (d:=29) rfl (by simp) (fun K hK=>?_);go_step;refine(HC.out a5 b5 wa).mono ?_;rintro _ wb ⟨rfl,rfl⟩;exact hK _ _ ⟨by rw[HR.out.2.2.2.2.1],Grw.refl _⟩
 simp only[zaw];iterate 4 (refine z3m (by rfl) (by rfl) (by rfl) (by rfl) (fun K hK=>?_);go_big_quiet_op;(first|refine hK _ ?_|refine⟨_,fun _=>rfl,hK _ ?_⟩);clear hK K;(try simp only[zaw]))
 refine q_nil ?_;intro w3 hr;have HC6:=Lib.hid (HC.out a6 b6 w3);rw[HR.out.2.2.2.2.2]at HC6;have HO:=Lib.hid (or_any (Blk.new w3 3 #[iV r1,iV r2,iV r3,iV r4,iV r5,iV r6]));have HG:=Lib.hid (gW.trans ((Grw.drew W).trans hr));clear x0 x1 x2 x3 x4 x5 y0 y1 y2 y3 y4 y5 bA bB gW hr HC;go_wp2_with fail;refine HC6.out.mono ?_;rintro _ _ ⟨rfl,rfl⟩;clear HC6;go_wp2_with fail;refine HO.out.mono ?_;rintro _ _ ⟨rfl,rfl⟩;clear HO;go_wp2;go_ret;exact⟨rfl,HG.out.trans (Grw.alloc _ _)⟩
theorem z4t {w0 w:World} {v:Value} {l:List Rt6} (hO:Outs za2 6 31 w0 w v l) (hn:l.length≤200000):
 Calls Tryz.prog 239 #[v,.func (.func 240) #[] #[]] w fun e w'=>e=.returned (.tuple #[])∧Outs za2 6 31 w0 w' v (zza l):=by
 obtain⟨A,c,rfl,h1,h2⟩:=hO.form;by_cases h0:0<l.length
 ·obtain⟨g,rfl⟩:=ziq hO.own h0;have hg:=hO.own.lt g rfl;have hcon:=AnyQ.slices_SortFunc_total Tryz.sortCells 6 Tryz.isAgg31 Tryz.sizeOf31 za2 zd3 (fun x v hv=>ziv [x] v (by simpa using hv)) z21 swoC 240 #[] g 0 c l.toArray w (enters_of Tryz.func240 (by kernel_rfl) rfl) (fun m os dk _ x y=>cmpC_any x y _) (z4r hO.own) hg.2 (by simp;omega) totC;refine(show Calls Tryz.prog 239 _ w _ from hcon).mono ?_;rintro e w' ⟨rfl,n,os,rfl⟩
  have hw:sortWorldK za2 6 w g 0 n (zza l).toArray os=Go.Sort.grow (putRow id (Go.Sort.ahead w n) g 0 ((zza l).flatMap za2).toArray) os:=by
   unfold sortWorldK putRowK;rw[z1t]
  have ho:=z3n (F:=((zza l).flatMap za2).toArray) hO.own (by rw[List.size_toArray,zc5 zd3,zc5 zd3,z0n]) n os;have ht:=Tch.putrow id w n g 0 ((zza l).flatMap za2).toArray os;rw[←hw]at ho ht;refine⟨rfl,⟨?_,hO.tch.trans' ht (fun i hi=>.inr (by have hi:i=g:=hi;omega))⟩⟩;rw[z0n];exact ho
 ·obtain rfl:l=[]:=List.eq_nil_of_length_eq_zero (by omega);refine(show Calls Tryz.prog 239 _ w _ from AnyF.slices_SortFunc_none Tryz.sortCells A c (.func (.func 240) #[] #[]) w).mono ?_;rintro e w' ⟨rfl,rfl⟩;exact⟨rfl,by simpa[zza]using hO⟩
theorem z1u {w:World} {v:Value} {l:List Rt6} (hl:zae za2 6 (fun _=>True) w v l) (hn:l.length≤200000) (hd:∀(j:Nat) (h:j+1<l.length),l[j+1]≠l[j]):
 Calls Tryz.prog 241 #[v] w fun x w'=>x=.returned v∧Tf w w':=by
 obtain⟨A,c,rfl,hc1,hc2⟩:=hl.form;have HL:=Lib.hid (fun w' (t9:Tf w w')=>hl.keep t9);have HD:=Lib.hid hd;clear hd;by_cases h2:l.length<2
 ·have h2':(l.length:Int)<2:=by omega
  clear hl;go_enter Tryz.func241,Tryz.ntmps241;go_wp2;(try simp only[Exit.inBlock,Exit.then]);(try rw[Exit.noGoto_ret]);go_ret;exact⟨rfl,Tch.refl _ _⟩
 have h2':¬(l.length:Int)<2:=by omega
 clear hl;go_enter Tryz.func241,Tryz.ntmps241;go_wp2_with fail;go_loopw [3] (fun i wr=>∃j:Nat,1≤j∧j≤l.length∧i=.int .i64 (j:Int)∧Tf w wr) (fun i _=>l.length-(intOf i).toNat)
 case atStart=>exact⟨1,Nat.le_refl _,by omega,rfl,Tch.refl _ _⟩
 case round=>
  obtain⟨j,hj1,hj,rfl,ht⟩:=hrel;by_cases hlt:j<l.length
  ·have hlt':(j:Int)<(l.length:Int):=by omega
   have hj0:=znn j;have hl9:=HL.out wr ht;obtain⟨g,o,rfl⟩:=hl9.head (by omega);have hql:j-1<l.length:=by omega
   obtain⟨x0,x1,x2,x3,x4,x5⟩:=Row.six hl9 zd3 hlt rfl;obtain⟨y0,y1,y2,y3,y4,y5⟩:=Row.six hl9 zd3 hql rfl;have hne:l[j]≠l[j-1]:=by have h:=HD.out (j-1) (by omega);simpa only[show j-1+1=j by omega]using h
   generalize l[j]=a at *;generalize l[j-1]=b at *;obtain⟨a1,a2,a3,a4,a5,a6⟩:=a;obtain⟨b1,b2,b3,b4,b5,b6⟩:=b;simp only at x0 x1 x2 x3 x4 x5 y0 y1 y2 y3 y4 y5
   have hcmp:∀w':World,(binOp .eql 31 (.agg #[iV a1,iV a2,iV a3,iV a4,iV a5,iV a6]) (.agg #[iV b1,iV b2,iV b3,iV b4,iV b5,iV b6])).run Tryz.prog w'=.ok (.bool false) w':=fun w'=>by
    rw[zh7]
    have h9:(a1==b1&&a2==b2&&a3==b3&&a4==b4&&a5==b5&&a6==b6)=false:=by
     rw[Bool.eq_false_iff];intro h;simp only[Bool.and_eq_true,beq_iff_eq]at h;obtain⟨⟨⟨⟨⟨rfl,rfl⟩,rfl⟩,rfl⟩,rfl⟩,rfl⟩:=h;exact hne rfl
    rw[h9]
   have HQ:=Lib.hid (show(0:Int)≤(j:Int)-1 by omega);have X0:=wc0 x0;have X1:=wc0 x1;have X2:=wc0 x2;have X3:=wc0 x3;have X4:=wc0 x4;have X5:=wc0 x5;have Y0:=wc0 y0;have Y1:=wc0 y1;have Y2:=wc0 y2;have Y3:=wc0 y3;have Y4:=wc0 y4;have Y5:=wc0 y5;clear hl9 hne x0 x1 x2 x3 x4 x5 y0 y1 y2 y3 y4 y5;go_wp2_with fail;refine zai (fun _=>False) [] 9 [] [] trivial ?_;intro bef _;iterate 9 (refine zbt ?_;(try simp only[zaw]))
   refine za6 ?_;intro w7 hr _ _;have T7:=ht.trans ((Tch.drew (fun _=>False) wr).trans hr);clear X0 X1 X2 X3 X4 X5 Y0 Y1 Y2 Y3 Y4 Y5 hr;go_wp2;go_roundw
   case rel=>exact⟨j+1,by omega,by omega,by go_num,T7⟩
   case measure=>simp[intOf]<;>omega
  ·obtain rfl:j=l.length:=by omega
   have hlt':¬(l.length:Int)<(l.length:Int):=by omega
   go_wp2;go_ret;exact⟨rfl,ht⟩
theorem z3o {w:World} {v:Value} {l:List Rt6} (hl:zae za2 6 (fun _=>True) w v l) (hn:l.length≤200000) (hd:l.Nodup):
 Calls Tryz.prog 171 #[v] w fun x w'=>∃u,x=.returned u∧Outs za2 6 31 w w' u (zza l):=by
 have HC:=Lib.hid (z05 hl hn);have HS:=Lib.hid (z4s hd);have HN:=Lib.hid (show(zza l).length≤200000 by rw[z0n];exact hn);clear hl;go_enter Tryz.func171,Tryz.ntmps171;go_wp2_with fail;refine HC.out.mono ?_;rintro _ w1 ⟨u,rfl,hO⟩;have HSF:=Lib.hid (z4t hO hn);clear HC hO;go_wp2_with fail;refine HSF.out.mono ?_;rintro _ w2 ⟨rfl,hO⟩
 have HCP:=Lib.hid (z1u hO.row HN.out (fun j h e=>by
  have h1:=List.pairwise_iff_getElem.1 HS.out j (j+1) (by omega) h (by omega);rw[e,swoC.irrefl]at h1
  cases h1))
 clear HSF;go_wp2_with fail;refine HCP.out.mono ?_;rintro _ w3 ⟨rfl,t3⟩;have hO3:=hO.keep t3;clear HCP;go_wp2;go_ret;exact⟨u,rfl,hO3⟩
end Go.Proofs.YtoegobjnjljegaaGreatDoor
namespace Go.Gk.V38
open Go.RowKit Go.Gk.V32 Go.Gk.V33 Go.Gk.V37
inductive Need (b:Bks) (l:List Rt6):Rt6→Prop
 |base {k:Rt6}:k∈l→Need b l k
 |step {c k:Rt6}:Need b l c→k∈zyk (zfg b c).1→Need b l k
def z3p (b:Bks):List Rt6→Int
 |[]=>0
 |c::r=>if za3 c b.ents.length b.accs.length≠0 then za3 c b.ents.length b.accs.length else z3p b r
structure Went (b:Bks) (l th td:List Rt6):Prop where
 nd:th.Nodup
 need:∀k,k∈th∨k∈td→Need b l k
 base:∀k∈l,k∈th∨k∈td
 shut:∀c∈th,∀k∈zyk (zfg b c).1,k∈th∨k∈td
theorem Went.start (b:Bks) (l:List Rt6):Went b l [] l:=⟨List.nodup_nil,fun _ h=>(h.elim (fun h=>(List.not_mem_nil h).elim) .base),fun _ h=>.inr h,fun _ h=>(List.not_mem_nil h).elim⟩
theorem Went.skip {b:Bks} {l th td:List Rt6} {c:Rt6} (h:Went b l th (td++[c])) (hc:c∈th):Went b l th td:=by
 have hx:∀k,k∈th∨k∈td++[c]→k∈th∨k∈td:=fun k hk=>by
  rcases hk with hk|hk
  ·exact .inl hk
  ·rcases List.mem_append.1 hk with hk|hk
   ·exact .inr hk
   ·rw[List.mem_singleton]at hk;exact .inl (hk▸hc)
 exact⟨h.nd,fun k hk=>h.need k (hk.imp id fun h=>List.mem_append_left _ h),fun k hk=>hx k (h.base k hk),fun d hd k hk=>hx k (h.shut d hd k hk)⟩
theorem Went.take {b:Bks} {l th td:List Rt6} {c:Rt6} (h:Went b l th (td++[c])) (hc:c∉th):Went b l (th++[c]) (td++zyk (zfg b c).1):=by
 have hn:Need b l c:=h.need c (.inr (List.mem_append_right _ (List.mem_singleton.2 rfl)))
 have hx:∀k,k∈th∨k∈td++[c]→k∈th++[c]∨k∈td++zyk (zfg b c).1:=fun k hk=>by
  rcases hk with hk|hk
  ·exact .inl (List.mem_append_left _ hk)
  ·rcases List.mem_append.1 hk with hk|hk
   ·exact .inr (List.mem_append_left _ hk)
   ·exact .inl (List.mem_append_right _ hk)
 refine⟨List.nodup_append.2 ⟨h.nd,by simp,fun a ha d hd e=>by rw[List.mem_singleton]at hd;subst hd;exact hc (e▸ha)⟩,fun k hk=>?_,fun k hk=>hx k (h.base k hk),fun d hd k hk=>?_⟩
 ·rcases hk with hk|hk
  ·rcases List.mem_append.1 hk with hk|hk
   ·exact h.need k (.inl hk)
   ·rw[List.mem_singleton]at hk;exact hk▸hn
  ·rcases List.mem_append.1 hk with hk|hk
   ·exact h.need k (.inr (List.mem_append_left _ hk))
   ·exact hn.step hk
 ·rcases List.mem_append.1 hd with hd|hd
  ·exact hx k (h.shut d hd k hk)
  ·rw[List.mem_singleton]at hd;exact .inr (List.mem_append_right _ (hd▸hk))
theorem Went.done {b:Bks} {l th:List Rt6} (h:Went b l th []) (k:Rt6):k∈th↔Need b l k:=by
 refine⟨fun hk=>h.need k (.inl hk),fun hk=>?_⟩;induction hk with
 |base hk=>exact(h.base _ hk).elim id fun h=>(List.not_mem_nil h).elim
 |step _ hk ih=>exact(h.shut _ ih _ hk).elim id fun h=>(List.not_mem_nil h).elim
structure NeedsAns (b:Bks) (l:List Rt6) (most:Int) (L:List Rt6) (er:Int):Prop where
 arg:most<1∨20000<most→L=[]∧er=2
 bad:¬(most<1∨20000<most)→z3p b l≠0→L=[]∧er=z3p b l
 ans:¬(most<1∨20000<most)→z3p b l=0→(L=[]∧er=3∧∃S:List Rt6,S.Nodup∧(∀k∈S,Need b l k)∧most<(S.length:Int))∨(er=0∧(L.length:Int)≤most∧∃S:List Rt6,S.Nodup∧L=zza S∧∀k,k∈S↔Need b l k)
end Go.Gk.V38
namespace Go.Gk
open Go.RowKit Go.Instr
theorem z06 {α:Type} (f:α→α) (x:α):∀l:List α,(l++[x]).modify l.length f=l++[f x]
 |[]=>rfl
 |y::r=>by
  have:=z06 f x r;simpa using this
def lenS:Value→Nat
 | .slice _ n _=>n
 |_=>0
def mapN (w:World) (b:Nat):Nat:=match w.heap[b]? with
 |some (.map es _)=>es.size
 |_=>0
section
variable {κ:Type} [DecidableEq κ] {P:Program} {K:TypeId} {enc:κ→Value}
omit [DecidableEq κ] in
theorem MapB.size {w:World} {b:Nat} {m:List (κ×Value)} (h:MapB enc w b m):mapN w b=m.length:=by
 obtain⟨es,c,h1,h2,_⟩:=h;unfold mapN;rw[h1];have:=congrArg List.length h2;simpa using this
omit [DecidableEq κ] in
theorem z1i {ops:Array Oper} {rest:List Oper} {o:Oper} {a:Act} {w:World} {Q:Exit→Act→World→Prop} (hg:o.guard=none) (m:Operand) (t:TypeId) (hop:o.op=Op.call {callee:=Callee.builtin Builtin.len,args:= #[m],argTypes:= #[t]})
 (e:TypeId) (ht:P.underlying t=some (.map K e)) {b:Nat} {l:List (κ×Value)} (hm:a.eval m=.map (some b)) (h:MapB enc w b l) (hK:wpList P ops Q rest (a.put o.dst (iV (l.length:Int))) w):wpList P ops Q (o::rest) a w:=by
 refine wpList_plain hg fun K' hK'=>?_
 obtain⟨es,c,h1,h2,_⟩:=h;have hl:es.size=l.length:=by have:=congrArg List.length h2;simpa using this
 have hrun:(Builtin.len_ #[t] o.type #[.map (some b)]).run P w=.ok (iV (l.length:Int)) w:=by
  simp[Builtin.len_,run_underlying ht,MapKept.run_getObj_map h1,goInt,Result.andThen,hl]
 unfold Oper.wp;simp[execOp,hop,resolve,invoke,builtin,hm,hrun,Result.andThen];exact hK' _ _ hK
theorem z0c (z:Value) (k:κ):∀m:List (κ×Value),zar m k=none→zar (m++[(k,z)]) k=some z
 |[],_=>by simp[zar]
 |x::r,h=>by
  rw[List.cons_append];unfold zar at h⊢;by_cases hx:k=x.1
  ·rw[if_pos hx]at h;cases h
  ·rw[if_neg hx]at h⊢;exact z0c z k r h
omit [DecidableEq κ] in
theorem zzd {ops:Array Oper} {rest:List Oper} {o:Oper} {a:Act} {w:World} {Q:Exit→Act→World→Prop} (hg:o.guard=none) (T:TypeId) (m s x:Operand) (hop:o.op=Op.entryStore T m s x) {b n:Nat} {u:Value}
 (hm:a.eval m=.map (some b)) (hs:a.eval s=iV (n:Int)) (hx:a.eval x=u) {R:World→Prop} (hrun:∃w',(Instr.entryStore T (.map (some b)) (iV (n:Int)) u).run P w=.ok () w'∧R w') (hK:∀w',R w'→wpList P ops Q rest (a.put o.dst undef) w'):wpList P ops Q (o::rest) a w:=by
 refine wpList_plain hg fun K' hK'=>?_
 obtain⟨w',hrun,h1⟩:=hrun;unfold Oper.wp;simp[execOp,hop,hm,hs,hx,hrun,Result.andThen];exact hK' _ _ (hK w' h1)
theorem z1v (L:KeyLaw P K enc) {T E:TypeId} (hT:P.underlying T=some (.map K E)) {z:Value} (hz:∀w,(zeroValue E).run P w=.ok z w) {m:List (κ×Value)} {es:Array MapEntry} {c:Nat} (h2:es.toList.map (fun e=>(e.key,e.val))=m.map (fun p=>(enc p.1,p.2))) (h3:Born es c) (b:Nat) (k:κ) (hn:zar m k=none):
 ∃es' c',(∀w:World,w.heap[b]?=some (.map es c)→∃w',(Instr.mapEntry T (.map (some b)) (enc k)).run P w=.ok (.tuple #[z,iV ((c:Nat):Int)]) w'∧w'.heap[b]?=some (.map es' c')∧Tch (fun g=>g=b) w w')∧
  (∀w:World,w.heap[b]?=some (.map es' c')→MapIs enc w b (m++[(k,z)])∧∀u,∃w',(Instr.entryStore T (.map (some b)) (iV ((c:Nat):Int)) u).run P w=.ok () w'∧MapB enc w' b (m++[(k,u)])∧Tch (fun g=>g=b) w w'):=by
 have hi:=zlg m k 0;have hlen:es.toList.length=m.length:=by have:=congrArg List.length h2;simpa using this
 have hes:es.size=m.length:=by simpa using hlen
 have hset:∀(w:World) (es:Array MapEntry) (c:Nat) (o:Obj),w.heap[b]?=some (.map es c)→(setObj b o).run P w=.ok () {w with heap:=w.heap.setIfInBounds b o}:=fun w _ _ o h=>MapKept.run_setObj_map o h
 have ht:∀(w:World) (o:Obj),Tch (fun g=>g=b) w {w with heap:=w.heap.setIfInBounds b o}:=fun w o=>⟨rfl,rfl,rfl,by simp,fun k _ hn=>by simp only;rw[Array.getElem?_setIfInBounds_ne (fun e=>hn e.symm)]⟩
 have hnew:∀(w:World) (es:Array MapEntry) (c:Nat) (o:Obj),w.heap[b]?=some (.map es c)→({w with heap:=w.heap.setIfInBounds b o}:World).heap[b]?=some o:=fun w _ _ o h=>by
  have:=(Array.getElem?_eq_some_iff.1 h).1;simp[this]
 cases ha:zm6 m k 0 with
 |some q=>rw[ha,hn]at hi;cases hi
 |none=>
  have hb:=h3.push (enc k) z;refine⟨es.push {key:=enc k,val:=z,born:=c},c+1,fun w h1=>?_,fun w h=>⟨⟨_,_,h,?_⟩,fun u=>?_⟩⟩
  ·have hf:=run_findKey L k m es.toList w h2;refine⟨_,?_,hnew w _ _ _ h1,ht w _⟩;unfold Instr.mapEntry;rw[Sem.run_bind,run_underlying hT];simp only[Result.andThen_ok,Sem.run_bind,MapKept.run_getObj_map h1,L.check,hf,ha,hz,hset w _ _ _ h1,Sem.run_pure,goInt]
  ·rw[Array.toList_push,List.map_append,h2];simp
  ·have hfd:=hb.find (i:=es.size) (by simp);rw[show((es.push {key:=enc k,val:=z,born:=c})[es.size]'(by simp)).born=c by simp]at hfd;unfold Instr.entryStore;simp only[Sem.run_bind,MapKept.run_getObj_map h,Result.andThen_ok,asInt,asIntOf,Sem.run_pure,hfd,hset w _ _ _ h];refine⟨_,rfl,⟨_,_,hnew w _ _ _ h,?_,hb.modify _ _ (fun _=>rfl)⟩,ht _ _⟩;rw[Array.toList_modify,Array.toList_push,List.map_append,List.map_singleton,←h2];rw[show es.size=es.toList.length by simp,z06];simp
