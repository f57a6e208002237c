/-
  Plain: a region that draws its order, some of whose operations write what was there, in a forced order.
-/
import Derived.Room.AppendUpon
import Derived.Test.YtoegobjnjljegaaGreatDoorZ13
set_option maxRecDepth 100000
set_option maxHeartbeats 6400000
namespace Go.Gk
open Go.RowKit
@[reducible] def za9 (F:Nat→Prop) (ops:Array Oper) (bef:Array Nat) (Vs:List (Nat×Sum Value (Value→World→Prop))) (sps:List (Nat×Nat)) (J:Nat→World→Prop) (w0:World):Env:=
 {ops:=ops,bef:=bef,R:=Tch F,R0:=Tf,J:=J,w0:=w0,ks:=fun k=>Vs.lookup k,sp:=fun k=>sps.lookup k,fr:=fun _=>false}
section
variable {P:Program} {F:Nat→Prop} {ops:Array Oper} {bef:Array Nat} {Vs:List (Nat×Sum Value (Value→World→Prop))} {sps:List (Nat×Nat)} {J:Nat→World→Prop} {w0:World} {fin:Act→List (Nat×(World→Prop))→Prop} {o:Oper} {rest:List Oper} {k:Nat} {a:Act} {L:List (Nat×(World→Prop))}
theorem zib (hw:Region.wanted o (yielded ops a.tmps)=true) (hk:Vs.lookup k=none) (hs:sps.lookup k=none) (hp:zgu o.op=true)
 (h:∀K:Act→Prop,(∀a',(za9 F ops bef Vs sps J w0).head P fin rest (k+1) a' L→K a')→o.quiet P a (fun w'=>∃p:Within (Tch F) w0 (bef.getD k 0) L,w'=p.w) K):(za9 F ops bef Vs sps J w0).head P fin (o::rest) k a L:=
 znz (E:=za9 F ops bef Vs sps J w0) hw hk hs rfl hp h
theorem s_fix (x:Value) (s:Nat) (hw:Region.wanted o (yielded ops a.tmps)=true) (hk:Vs.lookup k=some (.inl x)) (hs:sps.lookup k=some s)
 (h:∀w,Tch F w0 w→J s w→za8 P o a w (fun v w'=>v=x∧Tch F w w'∧J (s+1) w')) (h2:(za9 F ops bef Vs sps J w0).head P fin rest (k+1) (a.put o.dst x) L):(za9 F ops bef Vs sps J w0).head P fin (o::rest) k a L:=
 zll (E:=za9 F ops bef Vs sps J w0) x s hw hk hs (fun w hr hj _=>zcs (fun _ _ h=>⟨h,zaf⟩) (h w hr hj)) h2
theorem zxa (h:fin a L):(za9 F ops bef Vs sps J w0).head P fin [] k a L:=h
end
def z3r (sps:List (Nat×Nat)) (n m:Nat):Bool:=
 ((List.range n).all fun k=>match sps.lookup k with |none=>true|some s=>decide (s<m))&&(m==0||(List.range n).any fun k=>sps.lookup k==some (m-1))
theorem zcv {P:Program} (F:Nat→Prop) {id:Nat} {Q:Exit→Act→World→Prop} {a:Act} {w:World} {l:List Oper} (pre:List Nat) (n:Nat) (Vs:List (Nat×Sum Value (Value→World→Prop))) (sps:List (Nat×Nat)) (m:Nat) (J:Nat→World→Prop) (hm:P.follows .mixedOrders=true)
 (hn:(decide (n≤l.length))=true) (hc:zj9 pre l.toArray (fun k=>sps.lookup k) n a.tmps.size=true) (hs:z3r sps n m=true) (hpk:(pre.all fun i=>(Vs.lookup i).isNone)=true) (hQ:∀d v c a w,Q (.panic c) (a.put d v) w→Q (.panic c) a w) (hV:Stable (Tch F) Vs)
 (hJ0:J 0 w.drew) (hJ:∀s a b,Tf a b→J s a→J s b)
 (h:∀(bef:Array Nat) (ops:Array Oper),bef=Region.before l.toArray→ops=l.toArray→(za9 F ops bef Vs sps J w.drew).head P (fun a' L=>∀w',Tch F w.drew w'→J m w'→(∀p∈L,p.2 w')→wpList P l.toArray Q (l.drop n) a' w') (l.take n) 0 a []):(Code.region id l.toArray true).wp P Q a w:=by
 simp only[zj9,Bool.and_eq_true]at hc;obtain⟨⟨⟨⟨⟨⟨⟨c1,c2⟩,c3⟩,c4⟩,c5⟩,c6⟩,c7⟩,c8⟩:=hc;simp only[z3r,Bool.and_eq_true,List.all_eq_true,List.mem_range,Bool.or_eq_true,List.any_eq_true,beq_iff_eq]at hs
 refine zf6 (E:=za9 F l.toArray (Region.before l.toArray) Vs sps J w.drew) (n:=n) (m:=m) pre hm rfl rfl ⟨fun _ _ h=>h.size,Tch.refl F,fun _ _ _ h k=>h.trans k,fun _ _ h=>Exn.touch h,hJ,hV.spec,c1,c2,c3,c4,c5,c6⟩ rfl (of_decide_eq_true hn) c7 (by simpa using c8)
  (fun i hi=>by have:=List.all_eq_true.1 hpk i hi;simpa using this) (fun i hi=>rfl) hQ ⟨fun k s' hk h=>?_,hs.2.imp (fun h=>h) (fun⟨k,h1,h2⟩=>⟨k,h1,h2⟩)⟩ hJ0 ?_
 ·have h':sps.lookup k=some s':=h;have:=hs.1 k hk;rw[h']at this;simpa using this
 ·exact zea (fun a' L' hf w' hr hj hp _=>hf w' hr hj hp) _ _ _ _ _ (h _ _ rfl rfl)
open Go.RowKit
section
variable {P:Program} {F:Nat→Prop} {ops:Array Oper} {bef:Array Nat} {Vs:List (Nat×Sum Value (Value→World→Prop))} {sps:List (Nat×Nat)} {J:Nat→World→Prop} {w0:World} {fin:Act→List (Nat×(World→Prop))→Prop} {o:Oper} {rest:List Oper} {k:Nat} {a:Act} {L:List (Nat×(World→Prop))}
theorem z4u (x:Value) (hw:Region.wanted o (yielded ops a.tmps)=true) (hk:Vs.lookup k=some (.inl x)) (hs:sps.lookup k=none)
 (h:∀w,Tch F w0 w→zfo (bef.getD k 0) L w→za8 P o a w (fun v w'=>v=x∧Tf w w')) (h2:(za9 F ops bef Vs sps J w0).head P fin rest (k+1) (a.put o.dst x) L):(za9 F ops bef Vs sps J w0).head P fin (o::rest) k a L:=
 zs7 (E:=za9 F ops bef Vs sps J w0) x hw hk hs (fun w hr hf=>zcs (fun _ _ h=>⟨h,zaf⟩) (h w hr hf)) h2
theorem zog {V:Value→World→Prop} (hw:Region.wanted o (yielded ops a.tmps)=true) (hk:Vs.lookup k=some (.inr V)) (hs:sps.lookup k=none)
 (h:∀w,Tch F w0 w→zfo (bef.getD k 0) L w→za8 P o a w (fun v w'=>V v w'∧Tf w w')) (h2:∀v,(za9 F ops bef Vs sps J w0).head P fin rest (k+1) (a.put o.dst v) ((k,V v)::L)):(za9 F ops bef Vs sps J w0).head P fin (o::rest) k a L:=
 zjj (E:=za9 F ops bef Vs sps J w0) V hw hk hs (fun w hr hf=>zcs (fun _ _ h=>⟨h,zaf⟩) (h w hr hf)) h2
theorem z7u (s:Nat) (hw:Region.wanted o (yielded ops a.tmps)=true) (hk:Vs.lookup k=some (.inr fun _ _=>True)) (hs:sps.lookup k=some s)
 (h:∀w,Tch F w0 w→J s w→zfo (bef.getD k 0) L w→za8 P o a w (fun _ w'=>Tch F w w'∧J (s+1) w')) (h2:∀v,(za9 F ops bef Vs sps J w0).head P fin rest (k+1) (a.put o.dst v) ((k,fun _=>True)::L)):(za9 F ops bef Vs sps J w0).head P fin (o::rest) k a L:=
 zf8 (E:=za9 F ops bef Vs sps J w0) (fun _ _=>True) s hw hk hs (fun w hr hj hf=>zcs (fun _ _ h=>⟨⟨trivial,h⟩,zaf⟩) (h w hr hj hf)) h2
theorem z4v (x:Value) (s:Nat) (hw:Region.wanted o (yielded ops a.tmps)=true) (hk:Vs.lookup k=some (.inl x)) (hs:sps.lookup k=some s)
 (h:∀w,Tch F w0 w→J s w→zfo (bef.getD k 0) L w→za8 P o a w (fun v w'=>v=x∧Tch F w w'∧J (s+1) w')) (h2:(za9 F ops bef Vs sps J w0).head P fin rest (k+1) (a.put o.dst x) L):(za9 F ops bef Vs sps J w0).head P fin (o::rest) k a L:=
 zll (E:=za9 F ops bef Vs sps J w0) x s hw hk hs (fun w hr hj hf=>zcs (fun _ _ h=>⟨h,zaf⟩) (h w hr hj hf)) h2
theorem ztd {V:Value→World→Prop} (s:Nat) (hw:Region.wanted o (yielded ops a.tmps)=true) (hk:Vs.lookup k=some (.inr V)) (hs:sps.lookup k=some s)
 (h:∀w,Tch F w0 w→J s w→zfo (bef.getD k 0) L w→za8 P o a w (fun v w'=>V v w'∧Tch F w w'∧J (s+1) w')) (h2:∀v,(za9 F ops bef Vs sps J w0).head P fin rest (k+1) (a.put o.dst v) ((k,V v)::L)):(za9 F ops bef Vs sps J w0).head P fin (o::rest) k a L:=
 zf8 (E:=za9 F ops bef Vs sps J w0) V s hw hk hs (fun w hr hj hf=>zcs (fun _ _ h=>⟨h,zaf⟩) (h w hr hj hf)) h2
end
theorem ziz {P:Program} {o:Oper} {a:Act} {w:World} {S:World→Prop} (h:∀K:Act→World→Prop,(∀w',S w'→K a w')→o.wp P a w K (fun _ _ _=>False)):za8 P o a w (fun _ w'=>S w'):=by
 have h1:=h (fun a' w'=>a'=a∧S w') (fun w' hs=>⟨rfl,hs⟩);unfold za8;unfold Oper.wp at h1;generalize(execOp a.eval o).run P w=r at *
 cases r with
 |ok n w'=>
  cases n<;>simp only[Oper.upon]at h1<;>simp only[zdv]
  case value u=>exact h1.2
  case skip=>exact h1.2
  case defer dd=>
   have:(dd::a.defers:List Deferred)=a.defers:=by have:=congrArg Act.defers h1.1;rw[zfv]at this;exact this
   have:=congrArg List.length this;simp at this
  case enter f args=>exact h1.mono fun e w'' he=>by cases e<;>first|exact⟨_,rfl,he.2⟩|exact he.elim|(obtain⟨_,_,h0⟩:=he;exact h0.elim)
  case row row args=>exact h1.mono fun _ _ h=>h.2
 |halt x w'=>cases x<;>simp only[Oper.upon]at h1
open Go.RowKit Go.Instr
section
variable {κ:Type} [DecidableEq κ] {P:Program} {K:TypeId} {enc:κ→Value}
theorem zlt (L:KeyLaw P K enc) {T E:TypeId} (hT:P.underlying T=some (.map K E)) {z:Value} (hz:∀w,(zeroValue E).run P w=.ok z w) {m:List (κ×Value)} {es:Array MapEntry} {c:Nat} (h2:es.toList.map (fun e=>(e.key,e.val))=m.map (fun p=>(enc p.1,p.2))) (h3:Born es c) (b:Nat) (k:κ):
 ∃es' c' s m',(∀w:World,w.heap[b]?=some (.map es c)→∃w',(Instr.mapEntry T (.map (some b)) (enc k)).run P w=.ok (.tuple #[(zar m k).getD z,iV ((s:Nat):Int)]) w'∧w'.heap[b]?=some (.map es' c')∧Tch (fun g=>g=b) w w')∧
  (∀w:World,w.heap[b]?=some (.map es' c')→MapS enc w b m' k s)∧∀k',k'≠k→zar m' k'=zar m k':=by
 have hi:=zlg m k 0;have hlen:es.toList.length=m.length:=by have:=congrArg List.length h2;simpa using this
 have hes:es.size=m.length:=by simpa using hlen
 have hset:∀(w:World) (o:Obj),w.heap[b]?=some (.map es c)→(setObj b o).run P w=.ok () {w with heap:=w.heap.setIfInBounds b o}:=fun w o h=>MapKept.run_setObj_map o h
 have ht:∀(w:World) (o:Obj),Tch (fun g=>g=b) w {w with heap:=w.heap.setIfInBounds b o}:=fun w o=>⟨rfl,rfl,rfl,by simp,fun k _ hn=>by simp only;rw[Array.getElem?_setIfInBounds_ne (fun e=>hn e.symm)]⟩
 have hnew:∀(w:World) (o:Obj),w.heap[b]?=some (.map es c)→({w with heap:=w.heap.setIfInBounds b o}:World).heap[b]?=some o:=fun w o h=>by
  have:=(Array.getElem?_eq_some_iff.1 h).1;simp[this]
 cases ha:zm6 m k 0 with
 |none=>
  rw[ha]at hi;have hn:zar m k=none:=by simpa using hi.symm
  have hab:=zrf m k 0 ha;refine⟨es.push {key:=enc k,val:=z,born:=c},c+1,c,m++[(k,z)],fun w h1=>?_,fun w h=>⟨_,_,es.size,by simp,h,?_,h3.push _ _,by simp,?_,fun j hj=>?_⟩,fun k' hk'=>?_⟩
  ·have hf:=run_findKey L k m es.toList w h2;refine⟨_,?_,hnew w _ h1,ht w _⟩;unfold Instr.mapEntry;rw[Sem.run_bind,run_underlying hT];simp only[Result.andThen_ok,Sem.run_bind,MapKept.run_getObj_map h1,L.check,hf,ha,hz,hset w _ h1,Sem.run_pure,hn,Option.getD_none,goInt]
  ·rw[Array.toList_push,List.map_append,h2];simp
  ·rw[hes,List.getElem?_append_right (Nat.le_refl _)];simp
  ·rw[List.getElem?_append_left (by omega)];exact hab j
  ·rw[←zwb m k z 0 ha,zlh,if_neg hk']
 |some q=>
  rw[ha]at hi;have hn:zar m k=some q.2:=by simpa using hi.symm
  obtain⟨i,v⟩:=q;obtain⟨n,hin,hk,hfirst⟩:=zt6 m k 0 i v ha;obtain rfl:i=n:=by omega
  have him:i<m.length:=by
   rcases Nat.lt_or_ge i m.length with h|h
   ·exact h
   ·rw[List.getElem?_eq_none h]at hk;cases hk
  have hie:i<es.size:=by omega
  have hkey:(es[i]?).map (·.key)=some (enc k):=by
   have h3:=congrArg (fun l:List (Value×Value)=>(l[i]?).map (·.1)) h2;simp only[List.getElem?_map]at h3;rw[List.getElem?_eq_getElem him]at h3 hk;simp only[Option.map_some,Option.some.injEq]at h3 hk;rw[hk]at h3;rw[←Array.getElem?_toList]
   cases he:es.toList[i]? with
   |none=>rw[he]at h3;cases h3
   |some e=>rw[he]at h3;simpa using h3
  have hkk:es[i].key=enc k:=by rw[Array.getElem?_eq_getElem hie]at hkey;simpa using hkey
  refine⟨es.modify i fun e=>{e with key:=enc k},c,es[i].born,m,fun w h1=>?_,fun w h=>⟨_,_,i,by simpa using hie,h,?_,h3.modify i _ (fun _=>rfl),by rw[Array.getElem_modify];simp,hk,hfirst⟩,fun k' _=>rfl⟩
  ·have hf:=run_findKey L k m es.toList w h2;refine⟨_,?_,hnew w _ h1,ht w _⟩;unfold Instr.mapEntry;rw[Sem.run_bind,run_underlying hT];simp only[Result.andThen_ok,Sem.run_bind,MapKept.run_getObj_map h1,L.check,hf,ha];rw[hkey];simp only[Option.getD_some,keyThatStays,L.bits,if_true,Sem.run_pure,Result.andThen_ok,hset w _ h1,hn,goInt];rw[Array.getElem?_eq_getElem hie];rfl
  ·rw[←h2,Array.toList_modify];apply List.ext_getElem?
   intro n;rw[List.getElem?_map,List.getElem?_modify,List.getElem?_map];by_cases e:i=n
   ·subst e;rw[Array.getElem?_toList,Array.getElem?_eq_getElem hie];simp[←hkk]
   ·simp[e]
variable {o:Oper} {a:Act} {w:World}
omit [DecidableEq κ] in
theorem zdm (T:TypeId) (m x:Operand) (hop:o.op=Op.mapEntry T m x) {b:Nat} {k:κ} {v:Value} {w':World} (hm:a.eval m=.map (some b)) (hx:a.eval x=enc k)
 (hrun:(Instr.mapEntry T (.map (some b)) (enc k)).run P w=.ok v w') {S:Value→World→Prop} (hS:S v w'):za8 P o a w S:=by
 unfold za8;simp only[execOp,hop,hm,hx,Sem.run_bind,hrun,Result.andThen_ok,Sem.run_pure];exact hS
theorem zem {ops:Array Oper} {rest:List Oper} {Q:Exit→Act→World→Prop} (hg:o.guard=none) (T:TypeId) (m s x:Operand) (hop:o.op=Op.entryStore T m s x) {b n:Nat} {k:κ} {l:List (κ×Value)} {u:Value}
 (hm:a.eval m=.map (some b)) (hs:a.eval s=iV (n:Int)) (hx:a.eval x=u) (h:MapS enc w b l k n) (hK:∀w' m',MapB enc w' b m'→(∀k',zar m' k'=if k'=k then some u else zar l k')→Tch (fun g=>g=b) w w'→wpList P ops Q rest (a.put o.dst undef) w'):wpList P ops Q (o::rest) a w:=by
 refine wpList_plain hg fun K' hK'=>?_
 obtain⟨w',m',hrun,h1,h2,h3⟩:=h.run_store (P:=P) (T:=T) u;unfold Oper.wp;simp[execOp,hop,hm,hs,hx,hrun,Result.andThen];exact hK' _ _ (hK w' m' h1 h2 h3)
theorem zg0 (s x:Operand) (t:TypeId) (ho:o.op=.call {callee:=.builtin .append,args:= #[s,x],argTypes:= #[t,t]})
 {e:TypeId} {z:Value} {size bytes:Nat} (T:RowTy P t e z size bytes) {A:Option Addr} {n c:Nat} {xs:List Value} (hown:w.ownsRow 0 e size (.slice A n c) n xs) (hv:a.eval s=.slice A n c)
 {g:Nat} {m c':Nat} {news:List Value} (hs:Src w (some ⟨g,0,none⟩) m c' size news) (hx:a.eval x=.slice (some ⟨g,0,none⟩) m c') (h1:∀u∈news,u.oneCell'=true)
 (hroom:n+m≤c) (h63:n+m≤maxLen) (hbytes:(n+m)*bytes≤140737488355328) {S:Value→World→Prop}
 (h:∀w',w'.ownsRow 0 e size (.slice A (n+m) c) (n+m) (xs++news)→w.grownBy w' (Value.slice A n c).ownBlock→S (.slice A (n+m) c) w'):za8 P o a w S:=by
 obtain⟨v',w',hr,h2,h3,h4⟩:=zhh w T o.type hown hs h1 h63 hbytes;obtain⟨i,hi,hz,hsize,hby⟩:=info_parts T.info;have hv':=run_append_cap_room w t t o.type e i T.und hi A n c (.slice (some ⟨g,0,none⟩) m c') m news (by rw[hsize];exact Go.Src.ofSlice w T.und ⟨g,0,none⟩ m c' news hs.len (hs.cell _ rfl) h1) hroom hr;subst hv';unfold za8 execOp;simp only[ho,resolve,invoke,builtin,Sem.run_bind,Sem.run_pure,Result.andThen_ok,List.map_toArray,List.map_cons,List.map_nil,hv,hx,hr];exact h w' h2 h3
theorem zg1 (s x:Operand) (t:TypeId) (ho:o.op=.call {callee:=.builtin .append,args:= #[s,x],argTypes:= #[t,t]})
 {e:TypeId} {z:Value} {size bytes:Nat} (T:RowTy P t e z size bytes) {A:Option Addr} {n c:Nat} {xs:List Value} (hown:w.ownsRow 0 e size (.slice A n c) n xs) (hv:a.eval s=.slice A n c)
 {g:Nat} {m c':Nat} {news:List Value} (hs:Src w (some ⟨g,0,none⟩) m c' size news) (hx:a.eval x=.slice (some ⟨g,0,none⟩) m c') (h1:∀u∈news,u.oneCell'=true)
 (hroom:c<n+m) (h63:n+m≤maxLen) (hbytes:(n+m)*bytes≤140737488355328) {S:Value→World→Prop}
 (h:∀v' w',w'.ownsRow 0 e size v' (n+m) (xs++news)→(∀k,v'.ownBlock=some k→w.heap.size≤k)→Tf w w'→S v' w'):za8 P o a w S:=by
 obtain⟨v',w',hr,h2,h3,h4⟩:=zhh w T o.type hown hs h1 h63 hbytes;obtain⟨i,hi,hz,hsize,hby⟩:=info_parts T.info;have hsrc:=Go.Src.ofSlice w T.und ⟨g,0,none⟩ m c' news hs.len (hs.cell _ rfl) h1
 have hold:(Builtin.firstCells i.size n (.slice A n c)).run P w.drew=.ok xs.toArray w.drew:=by
  cases A with
  |none=>
   have:=(Src.own hown).nil rfl;obtain⟨h0,_⟩:=this;subst h0;have hx0:xs=[]:=List.eq_nil_of_length_eq_zero (by have:=hown.1;simpa using this);subst hx0;exact run_firstCells_none w.drew i.size 0 0 c
  |some ad=>
   refine run_firstCells_some w.drew i.size n ad n c xs (by rw[hsize];exact hown.1) (fun j u hu=>?_);have:=(Src.own hown).cell ad rfl j u hu;simpa using this
 have hgrow:=run_append_grow_src w t t o.type e i z T.und hi hz A n c xs hold (.slice (some ⟨g,0,none⟩) m c') m news (by rw[hsize];exact hsrc) hroom (by unfold maxLen at h63;omega) (by rw[hby];exact growslice_fits hroom hbytes);rw[hgrow]at hr;injection hr with e1 e2;subst e1 e2;unfold za8 execOp;simp only[ho,resolve,invoke,builtin,Sem.run_bind,Sem.run_pure,Result.andThen_ok,List.map_toArray,List.map_cons,List.map_nil,hv,hx,hgrow];refine h _ _ h2 (fun k hk=>by have:=zaz hk;omega) ((Tch.drew _ w).trans (Tch.alloc _ _ _))
end
open Go.RowKit
structure EntsTo (E:TypeId) (w:World) (B B1:Nat) (v:Value) (us vs:List (Ent×Value)) (j:Nat):Prop where
 len:vs.length=us.length
 map:vs.map (·.1)=us.map (·.1)
 own:w.ownsRow B E 3 v us.length (vs.flatMap zvp)
 lines:∀i (h:i<vs.length),i<j→zae zdr 4 (fun g=>B1≤g) w vs[i].2 vs[i].1.lines
theorem EntsTo.keep {E:TypeId} {w w':World} {B B1:Nat} {v:Value} {us vs:List (Ent×Value)} {j:Nat} (h:EntsTo E w B B1 v us vs j) (t:Tf w w'):EntsTo E w' B B1 v us vs j:=
 ⟨h.len,h.map,t.own h.own (fun _ _=>id),fun i hi hj=>(h.lines i hi hj).keep t⟩
theorem EntsTo.step {E:TypeId} {w:World} {B B1 g c:Nat} {us vs:List (Ent×Value)} {j:Nat} (h:EntsTo E w B B1 (.slice (some ⟨g,0,none⟩) us.length c) us vs j) (hg:g<B1) (hj:j<us.length) {u:Value} (hu:zae zdr 4 (fun g=>B1≤g) w u us[j].1.lines):
 EntsTo E (w.setCell ⟨g,j*3+2,none⟩ u) B B1 (.slice (some ⟨g,0,none⟩) us.length c) us (vs.set j (us[j].1,u)) (j+1):=by
 have hjv:j<vs.length:=by rw[h.len];exact hj
 have hm:vs[j].1=us[j].1:=by
  have:=congrArg (fun l:List Ent=>l[j]?) h.map;simp only[List.getElem?_map]at this;rw[List.getElem?_eq_getElem hjv,List.getElem?_eq_getElem hj]at this;simpa using this
 have tS:Tch (fun k=>k=g) w (w.setCell ⟨g,j*3+2,none⟩ u):=Tch.setCell (F:=fun k=>k=g) w (p:=⟨g,j*3+2,none⟩) (.inl rfl) u;refine⟨by rw[List.length_set];exact h.len,?_,?_,fun i hi hij=>?_⟩
 ·rw[List.map_set,h.map];apply List.ext_getElem?
  intro n;rw[List.getElem?_set];by_cases e:j=n
  ·subst e;rw[if_pos rfl,List.length_map,if_pos hj,List.getElem?_map,List.getElem?_eq_getElem hj];rfl
  ·rw[if_neg e]
 ·have:=zw6 h.own (j*3+2) u;rwa [zoa zc6 vs j 2 u (us[j].1,u) hjv (by decide) (by rw[←hm];rfl)]at this
 ·by_cases e:i=j
  ·subst e;rw[List.getElem_set_self]
   exact hu.keepTo tS fun k hk hp=>⟨fun h=>by have h:k=g:=h;omega,hp⟩
  ·have hi':i<vs.length:=by rw[List.length_set]at hi;exact hi
   rw[List.getElem_set_ne (fun h=>e h.symm)]
   exact(h.lines i hi' (by omega)).keepTo tS fun k hk hp=>⟨fun h=>by have h:k=g:=h;omega,hp⟩
theorem EntsTo.all {E:TypeId} {w:World} {B B1:Nat} {v:Value} {us vs:List (Ent×Value)} (h:EntsTo E w B B1 v us vs us.length) (p:Ent×Value) (hp:p∈vs):zae zdr 4 (fun g=>B1≤g) w p.2 p.1.lines:=by
 obtain⟨i,hi,rfl⟩:=List.mem_iff_getElem.1 hp;exact h.lines i hi (by rw[←h.len];exact hi)
theorem Row.cast {P:Nat→Prop} {w:World} {v:Value} {n m size:Nat} {cs:List Value} (h:Row P w v n size cs) (e:n=m):Row P w v m size cs:=e▸h
theorem zff {w:World} {base:Nat} {e t:TypeId} {size n k:Nat} {v:Value} {xs:List Value} {cs:Array Value} (h:w.ownsRow base e size v n xs) (hk:v.ownBlock=some k) (hb:Blk w k t cs):e=t:=by
 rcases h.2 with⟨h1,_⟩|⟨g,cap,cur,h1,_,h3,_⟩
 ·rw[h1]at hk;cases hk
 ·rw[h1]at hk;have e1:g=k:=zaz hk;subst e1;have h2:w.heap[g]?=some (.cells cs t):=hb;rw[h3]at h2
  cases h2;rfl
theorem zw9 {w:World} {base base':Nat} {e e':TypeId} {size size' n n' k:Nat} {v v':Value} {xs xs':List Value} (h:w.ownsRow base e size v n xs) (h':w.ownsRow base' e' size' v' n' xs') (hk:v.ownBlock=some k) (hk':v'.ownBlock=some k):e=e':=by
 rcases h'.2 with⟨h1,_⟩|⟨g,cap,cur,h1,_,h3,_⟩
 ·rw[h1]at hk';cases hk'
 ·rw[h1]at hk';have e1:g=k:=zaz hk';subst e1;exact zff h hk h3
def CopyV (T0 T1 T2 T3 T4 E:TypeId) (B:Nat) (b:Bks) (us:List (Ent×Value)) (u:Value) (w:World):Prop:=∃V0 k0 V1 k1 V2 k2 V3 k3 V4 k4 V5 k5,u=.agg #[.slice V0 b.ents.length k0,.slice V1 b.accs.length k1,.slice V2 b.stakes.length k2,.slice V3 b.rates.length k3,.slice V4 b.locks.length k4,.slice V5 us.length k5]∧
 w.ownsRow B T0 1 (.slice V0 b.ents.length k0) b.ents.length (b.ents.flatMap zby)∧w.ownsRow B T1 4 (.slice V1 b.accs.length k1) b.accs.length (b.accs.flatMap zfq)∧w.ownsRow B T2 4 (.slice V2 b.stakes.length k2) b.stakes.length (b.stakes.flatMap zdr)∧w.ownsRow B T3 6 (.slice V3 b.rates.length k3) b.rates.length (b.rates.flatMap za2)∧w.ownsRow B T4 2 (.slice V4 b.locks.length k4) b.locks.length (b.locks.flatMap zn0)∧
 w.ownsRow B E 3 (.slice V5 us.length k5) us.length (us.flatMap zvp)
theorem CopyV.keep {T0 T1 T2 T3 T4 E:TypeId} {B:Nat} {b:Bks} {us:List (Ent×Value)} {u:Value} {w w':World} (h:CopyV T0 T1 T2 T3 T4 E B b us u w) (t:Tf w w'):CopyV T0 T1 T2 T3 T4 E B b us u w':=
 let⟨V0,k0,V1,k1,V2,k2,V3,k3,V4,k4,V5,k5,e,h0,h1,h2,h3,h4,h5⟩:=h
 ⟨V0,k0,V1,k1,V2,k2,V3,k3,V4,k4,V5,k5,e,t.own h0 (fun _ _=>id),t.own h1 (fun _ _=>id),t.own h2 (fun _ _=>id),t.own h3 (fun _ _=>id),t.own h4 (fun _ _=>id),t.own h5 (fun _ _=>id)⟩
theorem Tch.sets6 (w:World) (z:Nat) (a b c d e f:Value):Tch (fun g=>g=z) w ((((((w.setCell ⟨z,0,none⟩ a).setCell ⟨z,1,none⟩ b).setCell ⟨z,2,none⟩ c).setCell ⟨z,3,none⟩ d).setCell ⟨z,4,none⟩ e).setCell ⟨z,5,none⟩ f):=
 (((((Tch.setCell (F:=fun k=>k=z) w (p:=⟨z,0,none⟩) (.inl rfl) a).trans (Tch.setCell (F:=fun k=>k=z) _ (p:=⟨z,1,none⟩) (.inl rfl) b)).trans (Tch.setCell (F:=fun k=>k=z) _ (p:=⟨z,2,none⟩) (.inl rfl) c)).trans (Tch.setCell (F:=fun k=>k=z) _ (p:=⟨z,3,none⟩) (.inl rfl) d)).trans (Tch.setCell (F:=fun k=>k=z) _ (p:=⟨z,4,none⟩) (.inl rfl) e)).trans (Tch.setCell (F:=fun k=>k=z) _ (p:=⟨z,5,none⟩) (.inl rfl) f)
theorem Blk.sets6 {w:World} {z:Nat} {t:TypeId} {x0 x1 x2 x3 x4 x5:Value} (h:Blk w z t #[x0,x1,x2,x3,x4,x5]) (a b c d e f:Value):Blk ((((((w.setCell ⟨z,0,none⟩ a).setCell ⟨z,1,none⟩ b).setCell ⟨z,2,none⟩ c).setCell ⟨z,3,none⟩ d).setCell ⟨z,4,none⟩ e).setCell ⟨z,5,none⟩ f) z t #[a,b,c,d,e,f]:=by
 have:=(((((h.set_ 0 a).set_ 1 b).set_ 2 c).set_ 3 d).set_ 4 e).set_ 5 f;simpa using this
end Go.Gk
namespace Go.Proofs.YtoegobjnjljegaaGreatDoor
open Go.RowKit Go.Gk
theorem zof {w:World} {e a s r l n:Value} {b:Bks} {us:List (Ent×Value)} (h:BksAt w e a s r l n b us) (hfw:BksFew b):
 Calls Tryz.prog 57 #[.agg #[e,a,s,r,l,n]] w fun x w'=>∃e' a' s' r' l' n' us',x=.returned (.agg #[e',a',s',r',l',n'])∧BksAt w' e' a' s' r' l' n' b us'∧BooksIs (fun g=>w.heap.size≤g) w' (.agg #[e',a',s',r',l',n']) b∧Tf w w':=by
 have hul:us.length≤30:=by have:=hfw.entries;rw[←h.map,List.length_map]at this;exact this
 have hone:∀p∈us,p.2.oneCell'=true:=fun p hp=>by
  obtain⟨A,c,e,_,_⟩:=(h.ent.lines p hp).form;rw[e];rfl
 have hln:∀p∈us,p.1.lines.length≤60:=fun p hp=>hfw.lines p.1 (by rw[←h.map];exact List.mem_map_of_mem hp)
 obtain⟨Ae,ce,rfl,_,_⟩:=h.ents.form;obtain⟨Aa,ca,rfl,_,_⟩:=h.accs.form;obtain⟨As,cs,rfl,_,_⟩:=h.stakes.form;obtain⟨Ar,cr,rfl,_,_⟩:=h.rates.form;obtain⟨Al,cl,rfl,_,_⟩:=h.locks.form;obtain⟨An,cn,rfl,_,_⟩:=h.ent.row.form
 obtain⟨W,hW⟩:∃W,(w.alloc (.cells #[.slice Ae b.ents.length ce,.slice Aa b.accs.length ca,.slice As b.stakes.length cs,.slice Ar b.rates.length cr,.slice Al b.locks.length cl,.slice An us.length cn] 29)).alloc (.cells #[.slice none 0 0,.slice none 0 0,.slice none 0 0,.slice none 0 0,.slice none 0 0,.slice none 0 0] 29)=W:=⟨_,rfl⟩
 have tw:Tf w W:=hW▸(Tch.alloc _ _ _).trans (Tch.alloc _ _ _);have b0:Blk W w.heap.size 29 #[.slice Ae b.ents.length ce,.slice Aa b.accs.length ca,.slice As b.stakes.length cs,.slice Ar b.rates.length cr,.slice Al b.locks.length cl,.slice An us.length cn]:=hW▸(Blk.new w 29 _).alloc _;have b1:Blk W (w.heap.size+1) 29 #[.slice none 0 0,.slice none 0 0,.slice none 0 0,.slice none 0 0,.slice none 0 0,.slice none 0 0]:=hW▸Blk.new2 w _ 29 _;have hz:w.heap.size+2=W.heap.size:=by rw[←hW];simp
 have HW:=Lib.hid hW;have HH:=Lib.hid (h.keep tw);clear hW h;go_enter Tryz.func57,Tryz.ntmps57;go_wp2_with fail;rw[HW.out];clear HW;have HZ:=Lib.hid (show w.heap.size≤w.heap.size from Nat.le_refl _);generalize hzw:w.heap.size=z at *;have HZW:=Lib.hid hzw;clear hzw HZ;obtain⟨p0,p1,p2,p3,p4,p5⟩:=b0.w6;refine zai (fun _=>False) [] 20 [(2,.inr fun u w'=>w'.ownsRow W.heap.size 3 1 u b.ents.length (b.ents.flatMap zby)),(5,.inr fun u w'=>w'.ownsRow W.heap.size 91 4 u b.accs.length (b.accs.flatMap zfq)),(8,.inr fun u w'=>w'.ownsRow W.heap.size 224 4 u b.stakes.length (b.stakes.flatMap zdr)),(11,.inr fun u w'=>w'.ownsRow W.heap.size 115 6 u b.rates.length (b.rates.flatMap za2)),(14,.inr fun u w'=>w'.ownsRow W.heap.size 227 2 u b.locks.length (b.locks.flatMap zn0)),(17,.inr fun u w'=>w'.ownsRow W.heap.size 207 3 u us.length (us.flatMap zvp)),(18,.inr fun u w'=>CopyV 3 91 224 115 227 207 W.heap.size b us u w'),(19,.inr fun u w'=>∃g,u=.pointer (some ⟨g,0,none⟩)∧W.heap.size≤g∧Blk w' g 29 #[.slice none 0 0,.slice none 0 0,.slice none 0 0,.slice none 0 0,.slice none 0 0,.slice none 0 0])] [] ?_ ?_
 ·exact⟨fun _ _ _ hr h=>hr.own h (fun _ _=>id),fun _ _ _ hr h=>hr.own h (fun _ _=>id),fun _ _ _ hr h=>hr.own h (fun _ _=>id),fun _ _ _ hr h=>hr.own h (fun _ _=>id),fun _ _ _ hr h=>hr.own h (fun _ _=>id),fun _ _ _ hr h=>hr.own h (fun _ _=>id),fun _ _ _ hr h=>h.keep hr,fun _ _ _ hr ⟨g,h1,h2,h3⟩=>⟨g,h1,h2,h3.keep hr id⟩,trivial⟩
 intro bef hbef;have hb2:(bef.getD 18 0).testBit 2=true:=by rw[hbef];kernel_rfl
 have hb5:(bef.getD 18 0).testBit 5=true:=by rw[hbef];kernel_rfl
 have hb8:(bef.getD 18 0).testBit 8=true:=by rw[hbef];kernel_rfl
 have hb11:(bef.getD 18 0).testBit 11=true:=by rw[hbef];kernel_rfl
 have hb14:(bef.getD 18 0).testBit 14=true:=by rw[hbef];kernel_rfl
 have hb17:(bef.getD 18 0).testBit 17=true:=by rw[hbef];kernel_rfl
 clear hbef;iterate 2 (refine zbt ?_;(try simp only[zaw]))
 refine zaq (by rfl) (by rfl) (fun w1 hr hf=>?_) (fun v0=>?_)
 ·refine zaa (d:=8) rfl (by simp) (fun K hK=>?_);go_step;refine(ziw (HH.out.ents.keep ((Tch.drew _ W).trans hr)) (by have:=hfw.ents;omega)).mono ?_;rintro _ w2 ⟨u,rfl,hO⟩;exact hK _ _ ⟨⟨(hO.base ((Tch.drew _ W).trans hr)).own,hO.tch⟩,zaf⟩
 simp only[zaw];iterate 2 (refine zbt ?_;(try simp only[zaw]))
 refine zaq (by rfl) (by rfl) (fun w1 hr hf=>?_) (fun v1=>?_)
 ·refine zaa (d:=11) rfl (by simp) (fun K hK=>?_);go_step;refine(zob (HH.out.accs.keep ((Tch.drew _ W).trans hr)) (by have:=hfw.accs;omega)).mono ?_;rintro _ w2 ⟨u,rfl,hO⟩;exact hK _ _ ⟨⟨(hO.base ((Tch.drew _ W).trans hr)).own,hO.tch⟩,zaf⟩
 simp only[zaw];iterate 2 (refine zbt ?_;(try simp only[zaw]))
 refine zaq (by rfl) (by rfl) (fun w1 hr hf=>?_) (fun v2=>?_)
 ·refine zaa (d:=14) rfl (by simp) (fun K hK=>?_);go_step;refine(zoc (HH.out.stakes.keep ((Tch.drew _ W).trans hr)) (by have:=hfw.stakes;omega)).mono ?_;rintro _ w2 ⟨u,rfl,hO⟩;exact hK _ _ ⟨⟨(hO.base ((Tch.drew _ W).trans hr)).own,hO.tch⟩,zaf⟩
 simp only[zaw];iterate 2 (refine zbt ?_;(try simp only[zaw]))
 refine zaq (by rfl) (by rfl) (fun w1 hr hf=>?_) (fun v3=>?_)
 ·refine zaa (d:=17) rfl (by simp) (fun K hK=>?_);go_step;refine(zmq (HH.out.rates.keep ((Tch.drew _ W).trans hr)) (by have:=hfw.rates;omega)).mono ?_;rintro _ w2 ⟨u,rfl,hO⟩;exact hK _ _ ⟨⟨(hO.base ((Tch.drew _ W).trans hr)).own,hO.tch⟩,zaf⟩
 simp only[zaw];iterate 2 (refine zbt ?_;(try simp only[zaw]))
 refine zaq (by rfl) (by rfl) (fun w1 hr hf=>?_) (fun v4=>?_)
 ·refine zaa (d:=20) rfl (by simp) (fun K hK=>?_);go_step;refine(zmr (HH.out.locks.keep ((Tch.drew _ W).trans hr)) (by have:=hfw.locks;omega)).mono ?_;rintro _ w2 ⟨u,rfl,hO⟩;exact hK _ _ ⟨⟨(hO.base ((Tch.drew _ W).trans hr)).own,hO.tch⟩,zaf⟩
 simp only[zaw];iterate 2 (refine zbt ?_;(try simp only[zaw]))
 refine zaq (by rfl) (by rfl) (fun w1 hr hf=>?_) (fun v5=>?_)
 ·refine zaa (d:=23) rfl (by simp) (fun K hK=>?_);go_step;refine(zod (HH.out.ent.row.keep ((Tch.drew _ W).trans hr)) (by omega) hone).mono ?_;rintro _ w2 ⟨u,rfl,hO⟩;exact hK _ _ ⟨⟨(hO.base ((Tch.drew _ W).trans hr)).own,hO.tch⟩,zaf⟩
 simp only[zaw];refine zaq (by rfl) (by rfl) (fun w1 hr hf=>?_) (fun v8=>?_)
 ·have h5:=hf _ (List.Mem.head _) hb17;have h4:=hf _ (List.Mem.tail _ (List.Mem.head _)) hb14;have h3:=hf _ (List.Mem.tail _ (List.Mem.tail _ (List.Mem.head _))) hb11;have h2:=hf _ (List.Mem.tail _ (List.Mem.tail _ (List.Mem.tail _ (List.Mem.head _)))) hb8;have h1:=hf _ (List.Mem.tail _ (List.Mem.tail _ (List.Mem.tail _ (List.Mem.tail _ (List.Mem.head _))))) hb5;have h0:=hf _ (List.Mem.tail _ (List.Mem.tail _ (List.Mem.tail _ (List.Mem.tail _ (List.Mem.tail _ (List.Mem.head _)))))) hb2;dsimp only at h0 h1 h2 h3 h4 h5
  obtain⟨V0,k0,rfl,_,_,_⟩:=zac h0;obtain⟨V1,k1,rfl,_,_,_⟩:=zac h1;obtain⟨V2,k2,rfl,_,_,_⟩:=zac h2;obtain⟨V3,k3,rfl,_,_,_⟩:=zac h3;obtain⟨V4,k4,rfl,_,_,_⟩:=zac h4;obtain⟨V5,k5,rfl,_,_,_⟩:=zac h5;refine zaa (d:=24) rfl (by simp) (fun K hK=>?_);go_step;exact hK _ _ ⟨⟨⟨V0,k0,V1,k1,V2,k2,V3,k3,V4,k4,V5,k5,rfl,h0,h1,h2,h3,h4,h5⟩,Tch.refl _ _⟩,zaf⟩
 simp only[zaw];refine zaq (by rfl) (by rfl) (fun w1 hr hf=>?_) (fun v6=>?_)
 ·refine zaa (d:=3) rfl (by simp) (fun K hK=>?_);go_step;exact hK _ _ ⟨⟨⟨_,rfl,((Tch.drew (fun _=>False) W).trans hr).size,Blk.new w1 29 _⟩,Tch.alloc _ _ _⟩,zaf⟩
 simp only[zaw];refine za6 ?_;intro w1 hr hp hap;have t1:=(Tch.drew (fun _=>False) W).trans hr;obtain⟨g,rfl,hg,hbg⟩:=hp _ (List.Mem.head _);obtain⟨V0,k0,V1,k1,V2,k2,V3,k3,V4,k4,V5,k5,rfl,h0,h1,h2,h3,h4,h5⟩:=hp _ (List.Mem.tail _ (List.Mem.head _));clear hp hap hr p0 p1 p2 p3 p4 p5 hb2 hb5 hb8 hb11 hb14 hb17;have hzg:¬z=g:=by omega
 have hgz:¬g=z:=by omega
 have tS:=Tch.sets6 w1 g (.slice V0 b.ents.length k0) (.slice V1 b.accs.length k1) (.slice V2 b.stakes.length k2) (.slice V3 b.rates.length k3) (.slice V4 b.locks.length k4) (.slice V5 us.length k5);have bS:=hbg.sets6 (.slice V0 b.ents.length k0) (.slice V1 b.accs.length k1) (.slice V2 b.stakes.length k2) (.slice V3 b.rates.length k3) (.slice V4 b.locks.length k4) (.slice V5 us.length k5);obtain⟨c0,c1,c2,c3,c4,c5⟩:=hbg.f6;have f0:=hbg.frozen 0;have f1:=hbg.frozen 1;have f2:=hbg.frozen 2;have f3:=hbg.frozen 3;have f4:=hbg.frozen 4;have f5:=hbg.frozen 5;have p5:=(b0.keep t1 id).at5;have tz:Tf W ((((((w1.setCell ⟨g,0,none⟩ (.slice V0 b.ents.length k0)).setCell ⟨g,1,none⟩ (.slice V1 b.accs.length k1)).setCell ⟨g,2,none⟩ (.slice V2 b.stakes.length k2)).setCell ⟨g,3,none⟩ (.slice V3 b.rates.length k3)).setCell ⟨g,4,none⟩ (.slice V4 b.locks.length k4)).setCell ⟨g,5,none⟩ (.slice V5 us.length k5)):=t1.trans' tS (fun i hi=>.inr (by have hi:i=g:=hi;omega))
 have r0:=tS.own h0 (fun k hk e=>by
  have e:k=g:=e;subst e
  exact absurd (zff h0 hk hbg) (by decide))
 have r1:=tS.own h1 (fun k hk e=>by
  have e:k=g:=e;subst e
  exact absurd (zff h1 hk hbg) (by decide))
 have r2:=tS.own h2 (fun k hk e=>by
  have e:k=g:=e;subst e
  exact absurd (zff h2 hk hbg) (by decide))
 have r3:=tS.own h3 (fun k hk e=>by
  have e:k=g:=e;subst e
  exact absurd (zff h3 hk hbg) (by decide))
 have r4:=tS.own h4 (fun k hk e=>by
  have e:k=g:=e;subst e
  exact absurd (zff h4 hk hbg) (by decide))
 have r5:=tS.own h5 (fun k hk e=>by
  have e:k=g:=e;subst e
  exact absurd (zff h5 hk hbg) (by decide))
 have R0:=Lib.hid r0;have R1:=Lib.hid r1;have R2:=Lib.hid r2;have R3:=Lib.hid r3;have R4:=Lib.hid r4;have R5:=Lib.hid r5;have BS:=Lib.hid bS;have TZ:=Lib.hid tz
 have hlt5:=fun k (hk:(Value.slice V5 us.length k5).ownBlock=some k)=>(r5.lt k hk)
 clear r0 r1 r2 r3 r4 r5 bS tz h0 h1 h2 h3 h4 h5;go_wp2_with fail;generalize(((((w1.setCell ⟨g,0,none⟩ (.slice V0 b.ents.length k0)).setCell ⟨g,1,none⟩ (.slice V1 b.accs.length k1)).setCell ⟨g,2,none⟩ (.slice V2 b.stakes.length k2)).setCell ⟨g,3,none⟩ (.slice V3 b.rates.length k3)).setCell ⟨g,4,none⟩ (.slice V4 b.locks.length k4)).setCell ⟨g,5,none⟩ (.slice V5 us.length k5)=S1 at *;clear c0 c1 c2 c3 c4 c5 f0 f1 f2 f3 f4 f5 p5 tS hbg;have hln':∀(i:Nat) (h:i<us.length),us[i].1.lines.length≤60:=fun i h=>hln _ (List.getElem_mem _)
 go_loopw [28] (fun i wr=>∃(j:Nat) (vs:List (Ent×Value)),j≤us.length∧i=.int .i64 j∧EntsTo 207 wr W.heap.size S1.heap.size (.slice V5 us.length k5) us vs j∧Tch (fun k=>W.heap.size≤k∧(Value.slice V5 us.length k5).ownBlock=some k) S1 wr) (fun i _=>us.length-(intOf i).toNat)
 case atStart=>exact⟨0,us,by omega,rfl,⟨rfl,rfl,R5.out,fun i _ h=>by omega⟩,Tch.refl _ _⟩
 case round=>
  obtain⟨j,vs,hj,rfl,hE,ht⟩:=hrel
  have hgo:∀k,W.heap.size≤k∧(Value.slice V5 us.length k5).ownBlock=some k→k≠g:=fun k hk e=>by
   subst e;exact absurd (zff R5.out hk.2 BS.out) (by decide)
  have bR:=BS.out.keep ht (fun hf=>hgo g hf rfl);have tR:=TZ.out.trans' ht (fun i hi=>.inr hi.1);by_cases hlt:j<us.length
  ·have hlt':(j:Int)<(us.length:Int):=by omega
   have hj0:=znn j;obtain⟨gS,oS,rfl⟩:=HH.out.ent.row.head (by omega);obtain⟨q0,q1,q2⟩:=Row.three (HH.out.ent.row.keep tR) zc6 hlt rfl;obtain⟨gE,rfl⟩:=ziq hE.own (by omega);have hgE:=hlt5 gE rfl;have HLN:=Lib.hid (HH.out.ent.lines us[j] (List.getElem_mem _));have hl60:=hln' j hlt;obtain⟨A',c',hfv,_,_⟩:=HLN.out.form;have HST:=Lib.hid (fun w' (u:Value) (h:EntsTo 207 w' W.heap.size S1.heap.size (.slice (some ⟨gE,0,none⟩) us.length k5) us vs j) (hu:zae zdr 4 (fun g=>S1.heap.size≤g) w' u us[j].1.lines)=>h.step hgE.2 hlt hu);generalize us[j]=x at *;obtain⟨⟨yp,yr,yl⟩,yv⟩:=x;simp only at hfv q0 q1 q2 HLN hl60 HST;subst hfv;have tq:=tal wr (.cells #[iV yp,iV yr,.slice A' yl.length c'] 207);have hbq:=Blk.new wr 207 #[iV yp,iV yr,.slice A' yl.length c'];go_wp2_with fail;clear q0 q1 q2;have g5:=zad (F:=fun _=>False) (show(wr.alloc (.cells #[iV yp,iV yr,.slice A' yl.length c'] 207)).cell? ⟨g,5,none⟩=some _ from(bR.keep tq id).cell 5) id;have n2:=zad (F:=fun _=>False) (show(wr.alloc (.cells #[iV yp,iV yr,.slice A' yl.length c'] 207)).cell? ⟨wr.heap.size,2,none⟩=some _ from hbq.cell 2) id;have hEq:=hE.keep tq;have tRq:=tR.trans tq;have htq:=ht.trans (Exn.touch tq);have hszq:=ht.size;have hszq2:=tq.size;clear hbq hE;generalize wr.alloc (.cells #[iV yp,iV yr,.slice A' yl.length c'] 207)=W2 at *;generalize wr.heap.size=N at *;refine zai (fun _=>False) [] 6 [(5,.inr fun u w'=>zae zdr 4 (fun g=>S1.heap.size≤g) w' u yl)] [] ?_ ?_
   ·exact⟨fun _ _ _ hr h=>h.keep hr,trivial⟩
   intro bef _;iterate 5 (refine zbt ?_;(try simp only[zaw]))
   refine zaq (by rfl) (by rfl) (fun w3 hr hf=>?_) (fun v9=>?_)
   ·refine zaa (d:=38) rfl (by simp) (fun K hK=>?_);go_step;have t3:=(Tch.drew _ W2).trans hr;refine(zhv (HLN.out.keep (tRq.trans t3)) (by omega)).mono ?_;rintro _ w4 ⟨u,rfl,hO⟩;exact hK _ _ ⟨⟨hO.rowN.weak (fun k hk=>by have:=t3.size;omega),hO.tch⟩,zaf⟩
   simp only[zaw];refine za6 ?_;intro w3 hr hp hap;have h9:=hp _ (List.Mem.head _);dsimp only at h9
   have t3:=(Tch.drew (fun _=>False) W2).trans hr;obtain⟨A9,c9,rfl,_,_⟩:=h9.form;have hE3:=hEq.keep t3;have hjv:j<vs.length:=by rw[hE3.len];exact hlt
   have s2:w3.cell? ⟨gE,j*3+2,none⟩=some vs[j].2:=zk0 hE3.own (g:=gE) rfl (by
    have:=zfp zc6 vs j hjv 2 (by decide)
    exact this)
   have s2f:=zjo hE3.own (j*3+2);have hst:=HST.out w3 _ hE3 h9;have tE:Tch (fun k=>k=gE) w3 (w3.setCell ⟨gE,j*3+2,none⟩ (.slice A9 yl.length c9)):=Tch.setCell (F:=fun k=>k=gE) w3 (p:=⟨gE,j*3+2,none⟩) (.inl rfl) _
   have tFin:=(htq.trans (Exn.touch t3)).trans (tE.mono fun i _ e=>by
    have e:i=gE:=e;subst e
    exact⟨hgE.1,rfl⟩)
   clear hp hap hr g5 n2;go_wp2;go_roundw
   case rel=>exact⟨j+1,_,by omega,by go_num,hst,tFin⟩
   case measure=>simp[intOf];omega
  ·obtain rfl:us.length=j:=by omega
   have g0:=bR.cell 0;have g1:=bR.cell 1;have g2:=bR.cell 2;have g3:=bR.cell 3;have g4:=bR.cell 4;have g5:=bR.cell 5;have bZ:=b1.keep tR id;have k0':=bZ.cell 0;have k1':=bZ.cell 1;have k2':=bZ.cell 2;have k3':=bZ.cell 3;have k4':=bZ.cell 4;have k5':=bZ.cell 5;have f0:=bZ.frozen 0;have f1:=bZ.frozen 1;have f2:=bZ.frozen 2;have f3:=bZ.frozen 3;have f4:=bZ.frozen 4;have f5:=bZ.frozen 5;simp at g0 g1 g2 g3 g4 g5 k0' k1' k2' k3' k4' k5';go_wp2;have hbF:=bZ.sets6 (.slice V0 b.ents.length k0) (.slice V1 b.accs.length k1) (.slice V2 b.stakes.length k2) (.slice V3 b.rates.length k3) (.slice V4 b.locks.length k4) (.slice V5 us.length k5);have tZ:=Tch.sets6 wr (z+1) (.slice V0 b.ents.length k0) (.slice V1 b.accs.length k1) (.slice V2 b.stakes.length k2) (.slice V3 b.rates.length k3) (.slice V4 b.locks.length k4) (.slice V5 us.length k5);refine zfe hbF ?_;have hown5:=hE.own;have n0:∀{T:TypeId} {size n:Nat} {v:Value} {xs:List Value},T≠207→S1.ownsRow W.heap.size T size v n xs→wr.ownsRow W.heap.size T size v n xs:=fun hT h=>ht.own h (fun k hk hF=>hT (zw9 h R5.out hk hF.2))
   have n1:∀{T:TypeId} {size n:Nat} {v:Value} {xs:List Value},wr.ownsRow W.heap.size T size v n xs→Row (fun g=>z≤g) _ v n size xs:=fun h=>Row.own (tZ.own h (fun k hk hF=>by have h1:=(h.lt k hk).1;have hF:k=z+1:=hF;omega)) (fun k hk=>by have h1:=(h.lt k hk).1;omega)
   have hA':=(n1 hE.own).cast hE.len.symm;have hLN:=fun p (hp:p∈vs)=>(hE.all p hp).keepTo (P':=fun g=>z≤g) tZ (fun k hk hp=>⟨fun e=>by have e:k=z+1:=e;have:=TZ.out.size;omega,by have:=TZ.out.size;omega⟩)
   have r0:=n1 (n0 (by decide) R0.out);have r1:=n1 (n0 (by decide) R1.out);have r2:=n1 (n0 (by decide) R2.out);have r3:=n1 (n0 (by decide) R3.out);have r4:=n1 (n0 (by decide) R4.out);have hmap:=hE.map.trans HH.out.map;refine⟨_,_,_,_,_,_,vs,rfl,⟨r0.any,r1.any,r2.any,r3.any,r4.any,⟨hA'.any,fun p hp=>(hLN p hp).any⟩,hmap⟩,?_,(tw.trans tR).trans' tZ (fun i hi=>.inr (by have hi:i=z+1:=hi;have:=HZW.out;omega))⟩;rw[show w.heap.size=z from HZW.out];exact⟨_,_,_,_,_,_,rfl,r0,r1,r2,r3,r4,vs,hmap,hA',hLN⟩
