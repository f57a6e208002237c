/-
  The keys of a map, one by one, in whatever order.
-/
import Derived.Test.YtoegobjnjljegaaGreatDoorZ35
import Derived.Test.YtoegobjnjljegaaGreatDoorZ19
import Derived.Maps.RangeRun
set_option maxRecDepth 100000
set_option maxHeartbeats 3200000
namespace Go.Gk
open Go.RowKit Go.ChangeMaps
def z16 (w:World) (r:Nat):Nat:=match w.heap[r]? with
 |some (.mapIter _ _ seen _)=>seen.size
 |_=>0
def zyx (es:Array MapEntry) (i:Nat):Nat:=((es[i]?).map (·.born)).getD 0
theorem born_inj {es:Array MapEntry} {c:Nat} (h:Born es c) {i j:Nat} (hi:i<es.size) (hj:j<es.size) (e:zyx es i=zyx es j):i=j:=by
 unfold zyx at e;rw[Array.getElem?_eq_getElem hi,Array.getElem?_eq_getElem hj]at e;exact h.1 i j hi hj e
theorem left_mem {es:Array MapEntry} {L:List Nat} {e:MapEntry} (h:e∈(leftOf es (L.map (zyx es)).toArray).toList):∃i,∃hi:i<es.size,es[i]=e∧i∉L:=by
 unfold leftOf at h;have h1:e∈es∧(!(L.map (zyx es)).toArray.contains e.born)=true:=by simpa using h
 obtain⟨i,hi,rfl⟩:=Array.getElem_of_mem h1.1;refine⟨i,hi,rfl,fun hL=>?_⟩;have h2:=h1.2;simp only[Bool.not_eq_true',List.contains_toArray]at h2;have h3:zyx es i=es[i].born:=by unfold zyx;rw[Array.getElem?_eq_getElem hi];rfl
 have h4:es[i].born∈L.map (zyx es):=h3▸List.mem_map.2 ⟨i,hL,rfl⟩;rw[List.contains_iff_mem.2 h4]at h2
 cases h2
theorem z5e {es:Array MapEntry} {c:Nat} (hb:Born es c) {L:List Nat} (hL:∀i∈L,i<es.size) (h:(leftOf es (L.map (zyx es)).toArray).size=0):∀i,i<es.size→i∈L:=fun i hi=>by
 unfold leftOf at h;have h1:=Array.eq_empty_of_size_eq_zero h;rw[Array.filter_eq_empty_iff]at h1;have h2:=h1 es[i] (by simp);simp only[Bool.not_eq_true',Bool.not_eq_false,List.contains_toArray]at h2
 have h2:zyx es i∈L.map (zyx es):=by
  have h3:zyx es i=es[i].born:=by unfold zyx;rw[Array.getElem?_eq_getElem hi];rfl
  rw[h3];simpa using h2
 obtain⟨j,hj,e⟩:=List.mem_map.1 h2;exact(born_inj hb (hL j hj) hi e)▸hj
theorem perm_all {L:List Nat} {n:Nat} (hn:L.Nodup) (hL:∀i∈L,i<n) (ha:∀i,i<n→i∈L) {α:Type} [Inhabited α] {ks:List α} (hk:ks.length=n):(L.map fun i=>ks.getD i default).Perm ks:=by
 have h1:L.Perm (List.range n):=(List.perm_ext_iff_of_nodup hn List.nodup_range).2 fun i=>⟨fun h=>List.mem_range.2 (hL i h),fun h=>ha i (List.mem_range.1 h)⟩
 refine(h1.map _).trans ?_
 have h2:(List.range n).map (fun i=>ks.getD i default)=ks:=by
  apply List.ext_getElem
  ·simp[hk]
  ·intro i h3 h4;simp[List.getD,List.getElem?_eq_getElem h4]
 rw[h2]
theorem z01 {w w1:World} {r:Nat} {o:Obj} (h:w1=w∨w1=w.drew):w.grownBy (setBlock w1 r o) (some r):=by
 rcases h with rfl|rfl<;>exact⟨rfl,rfl,rfl,by simp[setBlock],fun i _ hi=>by
  show(Array.setIfInBounds _ r o)[i]?=_;rw[Array.getElem?_setIfInBounds_ne (fun e=>hi (by rw[e]))]
  try rfl⟩
theorem z2t {w w1:World} {r:Nat} {o:Obj} (h:w1=w∨w1=w.drew) (hr:r<w.heap.size):(setBlock w1 r o).heap[r]?=some o:=by
 rcases h with rfl|rfl<;>(show(Array.setIfInBounds _ r o)[r]?=_;rw[Array.getElem?_setIfInBounds_self_of_lt (by simpa using hr)])
theorem z17 {w w1:World} {r i:Nat} {o:Obj} (h:w1=w∨w1=w.drew) (hi:i≠r):(setBlock w1 r o).heap[i]?=w.heap[i]?:=by
 rcases h with rfl|rfl<;>(show(Array.setIfInBounds _ r o)[i]?=_;rw[Array.getElem?_setIfInBounds_ne (fun e=>hi e.symm)];try rfl)
theorem z35 {P:Program} {T K E:TypeId} (hT:P.underlying T=some (.map K E)) {w:World} {b:Nat} {es:Array MapEntry} {c:Nat} (hm:w.heap[b]?=some (.map es c)):(Instr.range T (.map (some b))).run P w=.ok (.pointer (some ⟨w.heap.size,0,none⟩)) (w.alloc (.mapIter (some b) c #[] c)):=by
 unfold Instr.range;simp only[Sem.run_bind,run_underlying hT,Result.andThen_ok,MapKept.run_getObj_map hm,Sem.run_pure,run_newObj_alloc]
end Go.Gk
namespace Go.Proofs.YtoegobjnjljegaaGreatDoor
open Go.RowKit Go.Gk Go.Shelf Go.ChangeMaps
theorem keysC_in (F:Fence) (n:Nat) (h1:F.fn 173) (hro:F.round=none) (b:Nat) (w:World):
 CallsIn F n Tryz.prog 173 #[.map (some b)] w fun e w'=>e=.returned (.func (.func 243) #[] #[.pointer (some ⟨w.heap.size,0,none⟩)])∧w'=w.alloc (.cells #[.map (some b)] 156):=by
 refine callsIn_of_wp Tryz.func173 rfl h1 ?_ hro;simp only[Tryz.ntmps173,List.size_toArray,List.length_cons,List.length_nil,Nat.reduceAdd,Nat.reduceSub,Array.replicate_succ,Array.replicate_zero,List.push_toArray,List.append_toArray,List.nil_append,List.cons_append];gi_wp2
 go_ret;exact⟨rfl,rfl⟩
theorem keys1_in (F:Fence) (n:Nat) (h1:F.fn 243) (hro:F.round=none) (hn:1≤n) (l Bm b:Nat) {es:Array MapEntry} {clock:Nat} {ks:List Rt6} (hkey:es.toList.map (·.key)=ks.map zcq) (hborn:Born es clock) (J Jx:List Rt6→World→Prop) (Kp:World→World→Prop) (hKw:∀W1 W',Kp W1 W'→KeepsWalks W1 W')
 (W:World) (hJ:AbidesFrom W.heap.size J)
 (hY:∀pre x W1,J pre W1→pre.length<ks.length→YieldAt F (n-1) Tryz.prog l #[zcq x] W1 fun e W'=>
  (e=.returned (.bool true)∧J (pre++[x]) W'∧Kp W1 W')∨(e=.returned (.bool false)∧Jx (pre++[x]) W'))
 (hB:W.cell? ⟨Bm,0,none⟩=some (.map (some b))) (hm:W.heap[b]?=some (.map es clock)) (h0:J [] W):
 CallsIn F n Tryz.prog 243 #[.func (.yield l) #[] #[],.pointer (some ⟨Bm,0,none⟩)] W fun e W'=>(∃v,e=.returned v)∧
  ((∃ys,ys.Perm ks∧J ys W')∨(∃pre,True∧Jx pre W')):=by
 have hal:∀(pre:List Rt6) (W1:World) (o:Obj),J pre W1→J pre (W1.alloc o):=fun pre W1 o h=>hJ pre W1 _ none h (World.grownBy_alloc W1 o none) (fun r e=>by cases e)
 have hrg:=z35 Tryz.underlying156 hm;have hlen:es.size=ks.length:=by have:=congrArg List.length hkey;simpa using this
 have hbl:=(Array.getElem?_eq_some_iff.1 hm).1;have hJ1:=hal [] W (.mapIter (some b) clock #[] clock) h0;have hm1:(W.alloc (.mapIter (some b) clock #[] clock)).heap[b]?=some (.map es clock):=(Below.heap_alloc W _ b hbl).trans hm;have hr1:(W.alloc (.mapIter (some b) clock #[] clock)).heap[W.heap.size]?=some (.mapIter (some b) clock #[] clock):=World.alloc_heap_new W _;refine callsIn_of_wp Tryz.func243 rfl h1 ?_ hro;simp only[Tryz.ntmps243,List.size_toArray,List.length_cons,List.length_nil,Nat.reduceAdd,Nat.reduceSub,Array.replicate_succ,Array.replicate_zero,List.push_toArray,List.append_toArray,List.nil_append,List.cons_append];gi_wp2
 generalize hWW:W.alloc (.mapIter (some b) clock #[] clock)=W2 at *;have HJ:=Lib.hid hJ;generalize hrr:W.heap.size=r at *;clear hrg hWW;gi_loopw [] (fun wr=>∃L:List Nat,L.Nodup∧(∀i∈L,i<es.size)∧wr.heap[r]?=some (.mapIter (some b) clock (L.map (zyx es)).toArray clock)∧wr.heap[b]?=some (.map es clock)∧J (L.map fun i=>ks.getD i default) wr) (fun wr=>es.size-z16 wr r)
 case atStart=>exact⟨[],List.nodup_nil,fun i h=>(List.not_mem_nil h).elim,hr1,hm1,hJ1⟩
 case round=>
  obtain⟨L,hLn,hLb,hrr,hmm,hJJ⟩:=hrel;have hL0:z16 wr r=L.length:=by unfold z16;rw[hrr];simp
  rcases run_next_at (P:=Tryz.prog) wr 0 r b clock clock (L.map (zyx es)).toArray es clock hrr hmm (fun x hx=>by obtain⟨i,hi,rfl⟩:=List.getElem_of_mem hx;exact hborn.2 i (by simpa using hi)) (Nat.le_refl _)with⟨hz,hrun⟩|⟨e,he,w1,hw1,hrun⟩
  ·have hp:=perm_all hLn hLb (z5e hborn hLb hz) hlen.symm;clear hz;gi_wp2
   go_end0
   exact⟨⟨_,rfl⟩,.inl ⟨_,hp,hJJ⟩⟩
  ·obtain⟨i,hi,rfl,hiL⟩:=left_mem he;have hik:i<ks.length:=by omega
   have hek:es[i].key=zcq ks[i]:=by
    have:=congrArg (fun l:List Value=>l[i]?) hkey;simpa[hi,hik]using this
   have hnd:(es.toList.map (·.born)).Nodup:=by
    refine List.pairwise_iff_getElem.2 fun a c ha hc hac e=>?_
    rw[List.getElem_map,List.getElem_map,Array.getElem_toList,Array.getElem_toList]at e;have:=hborn.1 a c (by simpa using ha) (by simpa using hc) e;omega
   have hbi:zyx es i=es[i].born:=by unfold zyx;rw[Array.getElem?_eq_getElem hi];rfl
   have hseen:(L.map (zyx es)).toArray.push es[i].born=((L++[i]).map (zyx es)).toArray:=by rw[List.map_append,List.map_singleton,hbi,List.push_toArray]
   have hrl:=(Array.getElem?_eq_some_iff.1 hrr).1;have hJ2:=HJ.out _ _ _ _ hJJ (z01 (r:=r) (o:=.mapIter (some b) clock ((L.map (zyx es)).toArray.push es[i].born) clock) hw1) (fun r' e'=>by cases e';exact⟨by omega,_,hrr,rfl⟩);have hr2:=z2t (o:=.mapIter (some b) clock ((L.map (zyx es)).toArray.push es[i].born) clock) hw1 hrl;have hm2:=(z17 (o:=.mapIter (some b) clock ((L.map (zyx es)).toArray.push es[i].born) clock) hw1 (show b≠r by omega)).trans hmm;have hent:=run_entry_at (P:=Tryz.prog) _ r b clock _ es clock es[i] hr2 hm2 (by simp) hnd;rw[hek]at hrun hent;have HKD:=Lib.hid (show ks.getD i default=ks[i] by simp[List.getD,hik]);have HN:=Lib.hid (show(L++[i]).Nodup∧∀j∈L++[i],j<es.size from⟨List.nodup_append.2 ⟨hLn,by simp,fun a ha c hc e=>by rw[List.mem_singleton]at hc;subst hc;exact hiL (e▸ha)⟩,fun j hj=>by rcases List.mem_append.1 hj with h|h;exact hLb j h;rw[List.mem_singleton]at h;omega⟩)
   have HLL:=Lib.hid (show L.length<ks.length by
    have h1:(L++[i]).length≤(List.range es.size).length:=List.Nodup.length_le_of_subset HN.out.1 fun j hj=>List.mem_range.2 (HN.out.2 j hj)
    rw[List.length_append,List.length_singleton,List.length_range]at h1
    omega)
   rw[hseen]at hrun hr2 hm2 hJ2 hent;generalize hwb:setBlock w1 r _=w2 at *;generalize hkx:ks[i]=kx at *;obtain⟨a1,a2,a3,a4,a5,a6⟩:=kx;unfold zcq at hrun hent hY;simp only at hrun hent;have hJ3:=hal _ _ (.cells #[iV a1,iV a2,iV a3,iV a4,iV a5,iV a6] 31) hJ2;have bz:=Blk.new w2 31 #[iV a1,iV a2,iV a3,iV a4,iV a5,iV a6];have hr3:=(Below.heap_alloc w2 (.cells #[iV a1,iV a2,iV a3,iV a4,iV a5,iV a6] 31) r (Array.getElem?_eq_some_iff.1 hr2).1).trans hr2;have hm3:=(Below.heap_alloc w2 (.cells #[iV a1,iV a2,iV a3,iV a4,iV a5,iV a6] 31) b (Array.getElem?_eq_some_iff.1 hm2).1).trans hm2;obtain⟨fn,tmps,assign,body,hy,hR⟩:=hY _ (a1,a2,a3,a4,a5,a6) _ hJ3 (by rw[List.length_map];exact HLL.out);dsimp only at hy
   obtain⟨g0,g1,g2,g3,g4,g5⟩:=bz.f6;have HR3:=Lib.hid hr3;have HM3:=Lib.hid hm3;have HHL:=Lib.hid hL0;clear hwb hseen hJ2 hr2 hm2 hJJ hrr hmm hnd hbi he hek hiL hrl hal hL0 hr3 hm3 hJ3;gi_wp2
   refine hR.mono ?_;rintro e W3 (⟨rfl,hJ4,hk4⟩|⟨rfl,hJx⟩)
   ·have hkw:=hKw _ _ hk4;have hr4:=hkw.same r _ HR3.out rfl;have hm4:=hkw.same b _ HM3.out rfl;have hsn:z16 W3 r=L.length+1:=by unfold z16;rw[hr4];simp
    have HSN:=Lib.hid hsn;clear hsn;gi_wp2
    go_roundw
    case rel=>exact⟨L++[i],HN.out.1,HN.out.2,hr4,hm4,by rw[List.map_append,List.map_singleton,HKD.out];exact hJ4⟩
    case measure=>rw[HSN.out,HHL.out];have:=HLL.out;omega
   ·gi_wp2
    refine bodyPost_ret (results_none rfl _ _ _) rfl ?_;exact⟨⟨_,rfl⟩,.inr ⟨_,trivial,hJx⟩⟩
end Go.Proofs.YtoegobjnjljegaaGreatDoor
namespace Go.Gk
open Go.RowKit
theorem z5f {w:World} {base n size k:Nat} {e:TypeId} {v:Value} {xs:List Value} (h:w.ownsRow base e size v n xs) (hk:v.ownBlock=some k):∀o,w.heap[k]?=some o→o.isCells=true:=fun o ho=>by
 rcases h.2 with⟨h3,_⟩|⟨g,cap,cur,h3,_,h4,_⟩
 ·rw[h3]at hk;cases hk
 ·rw[h3]at hk;have e1:g=k:=zaz hk;subst e1;rw[h4]at ho;cases ho;rfl
theorem z2u {F:Nat→Prop} {W W':World} (B:Nat) (t:Tch F W W') (hF:∀g,F g→∀o,W.heap[g]?=some o→o.isCells=true):KeepsFrom B W W'∧KeepsWalks W W':=by
 have h:∀(k:Nat) (o:Obj),W.heap[k]?=some o→o.isCells=false→W'.heap[k]?=some o:=fun k o hk hc=>(t.block k (Array.getElem?_eq_some_iff.1 hk).1 (fun hf=>by rw[hF k hf o hk]at hc;cases hc)).trans hk
 exact⟨⟨t.size,fun k o _ hk hc=>h k o hk hc⟩,⟨t.size,fun k o hk hw=>h k o hk (Obj.not_cells_of_walk hw)⟩⟩
end Go.Gk
namespace Go.Proofs.YtoegobjnjljegaaGreatDoor
open Go.RowKit Go.Gk Go.Shelf
attribute [local go_sem] Oper.semAt_some
theorem z36 (F:Fence) (n:Nat) (h1:F.fn 243) (hro:F.round=none) (hn:1≤n) (Bm b:Nat) {es:Array MapEntry} {clock:Nat} {ks:List Rt6} (hkey:es.toList.map (·.key)=ks.map zcq) (hborn:Born es clock) (w:World) (hBm:Bm<w.heap.size) (hc:w.cell? ⟨Bm,0,none⟩=some (.map (some b))) (hm:w.heap[b]?=some (.map es clock)):
 SeqStopsK F n Tryz.prog 243 #[.pointer (some ⟨Bm,0,none⟩)] (fun x:Rt6=> #[zcq x]) KeepsWalks (fun ys=>ys.Perm ks) (fun _=>True) ks.length w:=fun l J Jx W hW hJa _ hY h0=>
 keys1_in F n h1 hro hn l Bm b hkey hborn J Jx KeepsWalks (fun _ _ h=>h) W hJa hY ((hW.cell (p:=⟨Bm,0,none⟩) hBm).trans hc) ((hW.block b (Array.getElem?_eq_some_iff.1 hm).1).trans hm) h0
theorem z37 {w:World} {Bm b:Nat} {es:Array MapEntry} {clock:Nat} {ks:List Rt6} (hkey:es.toList.map (·.key)=ks.map zcq) (hborn:Born es clock) (hB:w.cell? ⟨Bm,0,none⟩=some (.map (some b))) (hBm:Bm<w.heap.size) (hm:w.heap[b]?=some (.map es clock)) (hn:ks.length≤1000000):
 Calls Tryz.prog 242 #[.slice none 0 0,.func (.func 243) #[] #[.pointer (some ⟨Bm,0,none⟩)]] w fun x w'=>∃u ys,x=.returned u∧ys.Perm ks∧Outs za2 6 31 w w' u ys:=by
 obtain⟨W0,hW0⟩:∃W0,w.alloc (.cells #[.slice none 0 0] 42)=W0:=⟨_,rfl⟩
 have tW:Tf w W0:=hW0▸tal w _;have bS0:Blk W0 w.heap.size 42 #[.slice none 0 0]:=hW0▸Blk.new w 42 #[.slice none 0 0];have hz0:W0.heap.size=w.heap.size+1:=by rw[←hW0];simp
 have hB0:=tW.cell_some hB id;have hm0:W0.heap[b]?=some (.map es clock):=(tW.block b (Array.getElem?_eq_some_iff.1 hm).1 id).trans hm;obtain⟨i0,hi,hz,hs,hb⟩:=info_parts z00.info;refine(callsIn_wide (n:=6)).1 ?_;refine callsIn_of_wp_marks Tryz.func242 rfl trivial ?_ rfl;simp only[Tryz.ntmps242,List.size_toArray,List.length_cons,List.length_nil,Nat.reduceAdd,Nat.reduceSub,Array.replicate_succ,Array.replicate_zero,List.push_toArray,List.append_toArray,List.nil_append,List.cons_append];gi_wp2
 refine wpIn_rangeFunc_ownH rfl (by omega) (gf:=243) (lb:= #[.pointer (some ⟨Bm,0,none⟩)]) rfl trivial (enters_of Tryz.func243 (by kernel_rfl) rfl)
  (z36 Fence.wide _ trivial rfl (by omega) Bm b hkey hborn W0 (by omega) hB0 hm0)
  (fun h k=>h.trans k) (fun W l o o' _ hl ho hw=>KeepsWalks.putObj o' hl hw) (Below.refl _ _) (fun _=>rfl)
  (fun pre W=>(∃v,Blk W w.heap.size 42 #[v]∧W.ownsRow (w.heap.size+1) 31 6 v pre.length (pre.flatMap za2))∧Tch (fun g=>w.heap.size≤g) W0 W)
  (fun _ _ _=>False) ?hI (fun _ _ _ _ _ hs _ _=>hs) ⟨⟨_,bS0,World.ownsRow_nil _ _ _ _⟩,Tch.refl _ _⟩
  (fun x a' W=>∃Bx,W0.heap.size≤Bx∧Blk W Bx 31 (za2 x).toArray∧a'={tmps:= #[.slice none 0 0,.func (.func 243) #[] #[.pointer (some ⟨Bm,0,none⟩)],.pointer (some ⟨w.heap.size,0,none⟩),undef,.slice none 0 0,.pointer (some ⟨Bx,0,none⟩),.func (.func 243) #[] #[.pointer (some ⟨Bm,0,none⟩)],.agg (za2 x).toArray,undef,undef,undef,undef,undef],defers:=[]}) ?hAx ?assign ?body ?done ?stop
 case hI=>
  rintro s W W' row ⟨⟨v,h1,h2⟩,h4⟩ hg hr;have t:Tch (fun g=>row=some g) W W':=Tch.grown hg fun k hk=>.inl hk
  have hne:∀g,(∀o,W.heap[g]?=some o→o.isCells=true)→¬row=some g:=fun g hc e=>by
   obtain⟨_,o,ho,hcc⟩:=hr g e;rw[hc o ho]at hcc;cases hcc
  refine⟨⟨v,h1.keep t (hne _ fun o ho=>?_),t.own h2 fun g hg=>hne g (z5f h2 hg)⟩,h4.trans (t.mono fun g _ e=>by have:=(hr g e).1;omega)⟩;have h5:W.heap[w.heap.size]?=some (.cells #[v] 42):=h1;rw[h5]at ho;cases ho;rfl
 case hAx=>
  rintro x a' s W W' row ⟨Bx,h1,h2,h3⟩ hg hr;refine⟨Bx,h1,?_,h3⟩;have t:Tch (fun g=>row=some g) W W':=Tch.grown hg fun k hk=>.inl hk
  refine h2.keep t fun e=>?_
  obtain⟨_,o,ho,hc⟩:=hr Bx e;have h4:W.heap[Bx]?=some (.cells (za2 x).toArray 31):=h2;rw[h4]at ho;cases ho;cases hc
 case assign=>
  rintro l pre x W K ⟨⟨v,h1,h2⟩,h4⟩ hK;have ta:=tal W (.cells (za2 x).toArray 31);have hk:=hK _ (W.alloc (.cells (za2 x).toArray 31)) ((KeepsOthers.alloc _ _).from _) (KeepsWalks.alloc _ _) ⟨⟨v,h1.keep ta id,ta.own h2 (fun _ _=>id)⟩,h4.trans (ta.mono fun _ _ h=>h.elim)⟩ ⟨W.heap.size,h4.size,Blk.new W 31 _,rfl⟩;obtain⟨x1,x2,x3,x4,x5,x6⟩:=x;unfold za2 at hk;dsimp only at hk
  unfold zcq;dsimp only
  gi_wp2
  exact hk
 case body=>
  rintro l pre x a' W hl hrec ⟨⟨v,h1,h2⟩,h4⟩ ⟨Bx,hBx,hbx,rfl⟩ hlen;obtain⟨x1,x2,x3,x4,x5,x6⟩:=x;obtain⟨A0,c0,rfl,_,_⟩:=zac h2;have g0:=h1.at0;obtain⟨y0,y1,y2,y3,y4,y5⟩:=hbx.f6;unfold za2;dsimp only
  have ta:=tal W (.cells #[iV x1,iV x2,iV x3,iV x4,iV x5,iV x6] 31);have HH:=Lib.hid (⟨h1,h2,h4,hbx⟩:_∧_∧_∧_);have hsz:=h4.size;have ho1:=ta.own h2 (fun _ _=>id);have hb1:=h1.keep ta id;clear h1 h2 h4 hbx;gi_wp2_with (gi_at_builtin;refine Hid.out ?_)
  refine Lib.hid ?_;refine wpListIn_append_own _ rfl _ _ 42 rfl (w.heap.size+1) 31 i0 (.agg #[iV 0,iV 0,iV 0,iV 0,iV 0,iV 0]) 6 48 Tryz.underlying42 hi hz hs hb rfl (by decide) _ _ _ rfl ho1 ⟨W.heap.size,0,none⟩ 1 1 [iV x1,iV x2,iV x3,iV x4,iV x5,iV x6] rfl rfl (fun j u hu=>by have h9:=(Blk.new W 31 #[iV x1,iV x2,iV x3,iV x4,iV x5,iV x6]).cell j;rw[show(⟨W.heap.size,0,none⟩:Addr).add j=⟨W.heap.size,j,none⟩ by unfold Addr.add;split<;>simp_all,h9];simpa using hu) (by simp[Value.oneCell']) (by unfold maxLen;omega) (by omega) (by simp;omega) ?_;intro v' w1 ho2 hg2 _;obtain⟨g',cap',rfl⟩:=ownsRow_succ ho2;have hb2:=hb1.keep (Tch.grown (F:=fun k=>(Value.slice A0 pre.length c0).ownBlock=some k) hg2 (fun k hk=>.inl hk)) (fun e=>by have:=(ho1.lt _ e).1;omega);have hc2:=hb2.at0;have hf2:=hb2.frozen 0;gi_wp2
  obtain⟨h1,h2,h4,hbx⟩:=HH.out;have tg:Tch (fun k=>(Value.slice A0 pre.length c0).ownBlock=some k) _ w1:=Tch.grown hg2 (fun k hk=>.inl hk);have tS:Tch (fun g=>g=w.heap.size) w1 (w1.setCell ⟨w.heap.size,0,none⟩ (.slice (some ⟨g',0,none⟩) (pre.length+1) cap')):=Tch.setCell (F:=fun g=>g=w.heap.size) w1 (p:=⟨w.heap.size,0,none⟩) (.inl rfl) _;have tt:Tch (fun g=>g=w.heap.size∨(Value.slice A0 pre.length c0).ownBlock=some g) W (w1.setCell ⟨w.heap.size,0,none⟩ (.slice (some ⟨g',0,none⟩) (pre.length+1) cap')):=((Exn.touch ta).trans (tg.mono fun _ _ h=>.inr h)).trans (tS.mono fun _ _ h=>.inl h)
  have hk:=z2u W0.heap.size tt (fun g hg o ho=>by
   rcases hg with rfl|hg
   ·have h5:W.heap[w.heap.size]?=some (.cells #[_] 42):=h1;rw[h5]at ho;cases ho;rfl
   ·exact z5f h2 hg o ho)
  have hb3:=hb2.set_ 0 (.slice (some ⟨g',0,none⟩) (pre.length+1) cap');have ho3:=tS.own ho2 (fun g hg e=>by have:=(ho2.lt g hg).1;have e:g=w.heap.size:=e;omega);refine⟨hk.1,hk.2,⟨.slice (some ⟨g',0,none⟩) (pre.length+1) cap',by simpa using hb3,by rw[List.flatMap_append,List.length_append,List.flatMap_singleton];exact ho3⟩,h4.trans (tt.mono fun g _ hg=>?_)⟩;rcases hg with rfl|hg
  ·exact Nat.le_refl _
  ·have:=(h2.lt g hg).1;omega
 case done=>
  rintro D ys W hD hp ⟨⟨v,h1,h2⟩,h4⟩ hK;have g0:=h1.at0;have HH:=Lib.hid (⟨h1,h2,h4⟩:_∧_∧_);clear h1 h2 h4;gi_wp2
  obtain⟨h1,h2,h4⟩:=HH.out;have ho9:=ownsRow_putObj h2 (.deferred none) hK rfl;refine⟨by simp,.inl ⟨_,_,rfl,run_takeDeferred hK,?_⟩⟩;exact⟨_,results_tmp rfl _ _ _,v,ys,rfl,hp,zbk (zb8 ho9) (fun g hg=>by have:=(ho9.lt g hg).1;omega),(tW.trans' h4 (fun i hi=>.inr hi)).trans' (Tch.grown (F:=fun g=>g=D) (grownBy_putObj' _ D _) fun k e=>.inl (by cases e;rfl)) (fun i hi=>.inr (by have hi:i=D:=hi;omega))⟩
 case stop=>
  rintro D c pre W _ _ h _;exact h.elim
theorem z2v {w:World} {Bm b:Nat} {es:Array MapEntry} {clock:Nat} {ks:List Rt6} (hkey:es.toList.map (·.key)=ks.map zcq) (hborn:Born es clock) (hB:w.cell? ⟨Bm,0,none⟩=some (.map (some b))) (hBm:Bm<w.heap.size) (hm:w.heap[b]?=some (.map es clock)) (hn:ks.length≤1000000):
 Calls Tryz.prog 172 #[.func (.func 243) #[] #[.pointer (some ⟨Bm,0,none⟩)]] w fun x w'=>∃u ys,x=.returned u∧ys.Perm ks∧Outs za2 6 31 w w' u ys:=by
 have HA:=Lib.hid (z37 hkey hborn hB hBm hm hn);go_enter Tryz.func172,Tryz.ntmps172;go_wp2_with fail;refine HA.out.mono ?_;rintro _ w1 ⟨u,ys,rfl,hp,hO⟩;clear HA;go_wp2;go_ret;exact⟨_,ys,rfl,hp,hO⟩
theorem z5g (b:Nat) (w:World):Calls Tryz.prog 173 #[.map (some b)] w fun e w'=>e=.returned (.func (.func 243) #[] #[.pointer (some ⟨w.heap.size,0,none⟩)])∧w'=w.alloc (.cells #[.map (some b)] 156):=
 (callsIn_wide (n:=6)).1 (keysC_in Fence.wide 6 trivial rfl b w)
