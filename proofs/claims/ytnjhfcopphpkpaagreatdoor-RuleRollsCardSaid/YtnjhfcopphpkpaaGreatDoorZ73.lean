/-
  Plain: maps with whole numbers as keys, filled by a composite literal, and looked into. No program in sight.
-/
import Derived.Test.YtnjhfcopphpkpaaGreatDoorZ5
set_option maxRecDepth 100000
set_option maxHeartbeats 1600000
namespace Go.Gk
open Go.RowKit Go.Instr
def intK (k:Int):Value:=.int .i64 k
section
variable {P:Program} {T K E:TypeId} {w:World}
theorem findNow_ints (k:Int):∀(m:List (Int×Value)) (es:List MapEntry) (i:Nat),es.map (fun e=>(e.key,e.val))=m.map (fun p=>(intK p.1,p.2))→findNow (.int .i64) (intK k) es i=some (aidx m k i)
 |[],es,i,h=>by
  obtain rfl:es=[]:=by simpa using h
  rfl
 |p::r,es,i,h=>by
  match es,h with
  |[],h=>simp at h
  |e::es,h=>
   simp only[List.map_cons,List.cons.injEq,Prod.mk.injEq]at h;obtain⟨⟨h1,h2⟩,h3⟩:=h;have ih:=findNow_ints k r es (i+1) h3;rw[findNow,h1];unfold intK at ih⊢;unfold sameNow;by_cases e':k=p.1
   ·simp[e',h2,aidx]
   ·have hb:(k==p.1)=false:=by simpa using e'
    simp[e',aidx,ih,hb]
theorem run_put_int (hT:P.underlying T=some (.map K E)) (hK:P.underlying K=some (.int .i64)) {b:Nat} {m:List (Int×Value)} (h:MapIs intK w b m) (k:Int) (v:Value) (hn:aidx m k 0=none):
 ∃w',(Instr.mapUpdate T (.map (some b)) (intK k) v).run P w=.ok () w'∧MapIs intK w' b (m++[(k,v)])∧Tch (fun g=>g=b) w w':=by
 obtain⟨es,c,h1,h2⟩:=h;have hlt:=(Array.getElem?_eq_some_iff.1 h1).1;have hf:=MapKept.run_findKey (w:=w) hK (findNow_ints k m es.toList 0 h2);rw[hn]at hf;have hc:(checkKey false 10000 K (intK k)).run P w=.ok () w:=MapKept.run_checkKey hK (show MapKept.IsKey (.int .i64) (intK k)from rfl) false 9999;have hset:∀o:Obj,(setObj b o).run P w=.ok () {w with heap:=w.heap.setIfInBounds b o}:=fun o=>MapKept.run_setObj_map o h1
 have ht:∀o:Obj,Tch (fun g=>g=b) w {w with heap:=w.heap.setIfInBounds b o}:=fun o=>⟨rfl,rfl,rfl,by simp,fun k _ hn=>by simp only;rw[Array.getElem?_setIfInBounds_ne (fun e=>hn e.symm)]⟩
 have hnew:∀o:Obj,({w with heap:=w.heap.setIfInBounds b o}:World).heap[b]?=some o:=fun o=>by simp[hlt]
 unfold Instr.mapUpdate;rw[Sem.run_bind,run_underlying hT];simp only[Result.andThen_ok,Sem.run_bind,MapKept.run_getObj_map h1,hc,hf,hset];refine⟨_,rfl,⟨_,_,hnew _,?_⟩,ht _⟩;rw[Array.toList_push,List.map_append,h2,List.map_append];rfl
theorem run_look_int (hT:P.underlying T=some (.map K E)) (hK:P.underlying K=some (.int .i64)) {b:Nat} {m:List (Int×Value)} (h:MapIs intK w b m) {k:Int} {v:Value} (hv:afind m k=some v):
 (Instr.lookup T (.map (some b)) (intK k) false).run P w=.ok v w:=by
 obtain⟨es,c,h1,h2⟩:=h;have hf:=MapKept.run_findKey (w:=w) hK (findNow_ints k m es.toList 0 h2);have hc:(checkKey es.isEmpty 10000 K (intK k)).run P w=.ok () w:=MapKept.run_checkKey hK (show MapKept.IsKey (.int .i64) (intK k)from rfl) es.isEmpty 9999;have hi:=aidx_find m k 0;rw[hv]at hi;have hg:(getObj b).run P w=.ok (.map es c) w:=MapKept.run_getObj_map h1;unfold Instr.lookup;rw[Sem.run_bind,run_underlying hT];simp only[Result.andThen_ok,Sem.run_bind,hg,Sem.run_pure,hc,hf]
 cases ha:aidx m k 0 with
 |none=>rw[ha]at hi;cases hi
 |some q=>
  rw[ha]at hi;obtain⟨i,u⟩:=q;simp only[Option.map_some,Option.some.injEq]at hi;subst hi;simp
variable {ops:Array Oper} {rest:List Oper} {o:Oper} {a:Act} {Q:Exit→Act→World→Prop}
theorem wpList_insert (hg:o.guard=none) (T:TypeId) (m x v:Operand) (hop:o.op=Op.insert T m x v) (hT:P.underlying T=some (.map K E)) (hK:P.underlying K=some (.int .i64)) {b:Nat} {l:List (Int×Value)} (k:Int) (u:Value)
 (hm:a.eval m=.map (some b)) (hx:a.eval x=intK k) (hv:a.eval v=u) (h:MapIs intK w b l) (hn:aidx l k 0=none) (h9:∀w',MapIs intK w' b (l++[(k,u)])→Tch (fun g=>g=b) w w'→wpList P ops Q rest (a.put o.dst undef) w'):wpList P ops Q (o::rest) a w:=by
 refine wpList_plain hg fun K' hK'=>?_
 obtain⟨w',hrun,r1,r2⟩:=run_put_int hT hK h k u hn;unfold Oper.wp;simp[execOp,hop,hm,hx,hv,hrun,Result.andThen];exact hK' _ _ (h9 w' r1 r2)
theorem yields_look_int (T:TypeId) (m x:Operand) (hop:o.op=Op.lookup T m x false) (hT:P.underlying T=some (.map K E)) (hK:P.underlying K=some (.int .i64)) {b:Nat} {l:List (Int×Value)} {k:Int} {u:Value}
 (hm:a.eval m=.map (some b)) (hx:a.eval x=intK k) (h:MapIs intK w b l) (hu:afind l k=some u) {S:Value→World→Prop} (hS:S u w):yields P o a w S:=by
 have hrun:=run_look_int (P:=P) hT hK h hu;unfold yields;simp only[execOp,hop,hm,hx,Sem.run_bind,hrun,Result.andThen_ok,Sem.run_pure];exact hS
end
end Go.Gk
namespace Go.Proofs.YtnjhfcopphpkpaaGreatDoor
open Go.RowKit Go.Gk
def tellF (c:Int):Value:=if c=1∨c=2 then .func (.func 100) #[] #[]else if c=3 then .func (.func 101) #[] #[]else if c=4∨c=5 then .func (.func 102) #[] #[]else if c=6 then .func (.func 103) #[] #[]else .func (.func 104) #[] #[]
def tellMap:List (Int×Value):=[(1,.func (.func 100) #[] #[]),(2,.func (.func 100) #[] #[]),(3,.func (.func 101) #[] #[]),(4,.func (.func 102) #[] #[]),(5,.func (.func 102) #[] #[]),(6,.func (.func 103) #[] #[]),(7,.func (.func 104) #[] #[])]
theorem tell_find {c:Int} (h:1≤c∧c≤7):afind tellMap c=some (tellF c):=by
 have:c=1∨c=2∨c=3∨c=4∨c=5∨c=6∨c=7:=by omega
 rcases this with rfl|rfl|rfl|rfl|rfl|rfl|rfl<;>rfl
theorem run_makeMapT (w:World):(Instr.makeMap 102 none).run Tryz.prog w=.ok (.map (some w.heap.size)) (w.alloc (.map #[] 0)):=by
 kernel_rfl
theorem tellers_any (w:World):
 Calls Tryz.prog 38 #[] w fun x w'=>∃g,x=.returned (.map (some g))∧MapIs intK w' g tellMap∧Tf w w':=by
 have hmk:=run_makeMapT w;have hT:=Tryz.underlying102;have hK:=Tryz.underlying3;have t0:=tal w (.map #[] 0);have m0:=MapIs.new intK w;have hz:w.heap.size<(w.alloc (.map #[] 0)).heap.size:=by simp
 have HT:=Lib.hid t0;have HM:=Lib.hid m0;clear t0 m0 hz;go_enter Tryz.func38,Tryz.ntmps38;go_wp2_with (refine wpList_insert rfl _ _ _ _ rfl hT hK 1 (.func (.func 100) #[] #[]) (by rfl) (by rfl) (by rfl) HM.out (by rfl) ?_;refine Hid.out ?_);refine Lib.hid ?_;intro w1 h1 s1;refine wpList_insert rfl _ _ _ _ rfl hT hK 2 (.func (.func 100) #[] #[]) (by rfl) (by rfl) (by rfl) h1 (by rfl) ?_;intro w2 h2 s2;refine wpList_insert rfl _ _ _ _ rfl hT hK 3 (.func (.func 101) #[] #[]) (by rfl) (by rfl) (by rfl) h2 (by rfl) ?_;intro w3 h3 s3;refine wpList_insert rfl _ _ _ _ rfl hT hK 4 (.func (.func 102) #[] #[]) (by rfl) (by rfl) (by rfl) h3 (by rfl) ?_;intro w4 h4 s4;refine wpList_insert rfl _ _ _ _ rfl hT hK 5 (.func (.func 102) #[] #[]) (by rfl) (by rfl) (by rfl) h4 (by rfl) ?_;intro w5 h5 s5;refine wpList_insert rfl _ _ _ _ rfl hT hK 6 (.func (.func 103) #[] #[]) (by rfl) (by rfl) (by rfl) h5 (by rfl) ?_;intro w6 h6 s6;refine wpList_insert rfl _ _ _ _ rfl hT hK 7 (.func (.func 104) #[] #[]) (by rfl) (by rfl) (by rfl) h6 (by rfl) ?_;intro w7 h7 s7;have hm:MapIs intK w7 w.heap.size tellMap:=h7;have tt:Tf w w7:=HT.out.trans' ((((((s1.trans s2).trans s3).trans s4).trans s5).trans s6).trans s7) (fun i hi=>.inr (by have hi:i=w.heap.size:=hi;omega));have HM7:=Lib.hid hm;have HT7:=Lib.hid tt;clear h1 h2 h3 h4 h5 h6 h7 s1 s2 s3 s4 s5 s6 s7 hm tt HM HT hT hK;go_wp2;go_ret;exact⟨_,rfl,HM7.out,HT7.out⟩
