/-
  Plain: maps whose entries are found again by their stamps: m[k] = append(m[k], x). No program in sight.
-/
import Derived.Test.YtoegobjnjljegaaGreatDoorZ4
import Derived.RangeFuncBox
import Derived.RangeFuncNested
set_option maxRecDepth 100000
set_option maxHeartbeats 800000
namespace Go.Gk
open Go.RowKit Go.Instr
def Born (es:Array MapEntry) (clock:Nat):Prop:=(∀i j (hi:i<es.size) (hj:j<es.size),es[i].born=es[j].born→i=j)∧∀i (hi:i<es.size),es[i].born<clock
theorem Born.modify {es:Array MapEntry} {clock:Nat} (h:Born es clock) (i:Nat) (f:MapEntry→MapEntry) (hf:∀e,(f e).born=e.born):Born (es.modify i f) clock:=by
 have hb:∀j (hj:j<(es.modify i f).size),((es.modify i f)[j]).born=(es[j]'(by simpa using hj)).born:=fun j hj=>by
  rw[Array.getElem_modify];split
  ·rename_i e;subst e;exact hf _
  ·rfl
 refine⟨fun a b ha hb' e=>?_,fun a ha=>?_⟩
 ·rw[hb a ha,hb b hb']at e;exact h.1 a b (by simpa using ha) (by simpa using hb') e
 ·rw[hb a ha];exact h.2 a (by simpa using ha)
theorem Born.push {es:Array MapEntry} {clock:Nat} (h:Born es clock) (k v:Value):Born (es.push {key:=k,val:=v,born:=clock}) (clock+1):=by
 refine⟨fun a b ha hb e=>?_,fun a ha=>?_⟩
 ·rw[Array.size_push]at ha hb;rw[Array.getElem_push,Array.getElem_push]at e;split at e<;>split at e
  ·exact h.1 a b _ _ e
  ·have:=h.2 a (by assumption);simp only at e;omega
  ·have:=h.2 b (by assumption);simp only at e;omega
  ·omega
 ·rw[Array.size_push]at ha;rw[Array.getElem_push];split
  ·have:=h.2 a (by assumption);omega
  ·exact Nat.lt_succ_self _
theorem Born.find {es:Array MapEntry} {clock i:Nat} (h:Born es clock) (hi:i<es.size):es.findIdx? (fun e=>(e.born:Int)==((es[i].born:Nat):Int))=some i:=by
 rw[Array.findIdx?_eq_some_iff_getElem];refine⟨hi,by simp,fun j hj hp=>?_⟩;have hp':((es[j]'(by omega)).born:Int)=((es[i].born:Nat):Int):=by simpa using hp
 have:=h.1 j i (by omega) hi (Int.ofNat.inj hp');omega
section
variable {κ:Type} {P:Program} {K:TypeId} {enc:κ→Value} {w:World}
def MapB (enc:κ→Value) (w:World) (b:Nat) (m:List (κ×Value)):Prop:=
 ∃es clock,w.heap[b]?=some (.map es clock)∧es.toList.map (fun e=>(e.key,e.val))=m.map (fun p=>(enc p.1,p.2))∧Born es clock
theorem MapB.is {b:Nat} {m:List (κ×Value)} (h:MapB enc w b m):MapIs enc w b m:=let⟨es,c,h1,h2,_⟩:=h;⟨es,c,h1,h2⟩
theorem MapB.keep {w':World} {F:Nat→Prop} {b:Nat} {m:List (κ×Value)} (h:MapB enc w b m) (t:Tch F w w') (hn:¬F b):MapB enc w' b m:=
 let⟨es,c,h1,h2⟩:=h;⟨es,c,(t.block b (Array.getElem?_eq_some_iff.1 h1).1 hn).trans h1,h2⟩
theorem MapB.new (enc:κ→Value) (w:World):MapB enc (w.alloc (.map #[] 0)) w.heap.size []:=⟨#[],0,heap_alloc_new w _,rfl,fun _ _ h=>by simp at h,fun _ h=>by simp at h⟩
theorem MapB.lt {b:Nat} {m:List (κ×Value)} (h:MapB enc w b m):b<w.heap.size:=h.is.lt
def MapS (enc:κ→Value) (w:World) (b:Nat) (m:List (κ×Value)) (k:κ) (s:Nat):Prop:=
 ∃es clock i,∃hi:i<es.size,w.heap[b]?=some (.map es clock)∧es.toList.map (fun e=>(e.key,e.val))=m.map (fun p=>(enc p.1,p.2))∧Born es clock∧es[i].born=s∧(m[i]?).map (·.1)=some k∧∀j,j<i→(m[j]?).map (·.1)≠some k
theorem MapS.keep {w':World} {F:Nat→Prop} {b s:Nat} {k:κ} {m:List (κ×Value)} (h:MapS enc w b m k s) (t:Tch F w w') (hn:¬F b):MapS enc w' b m k s:=
 let⟨es,c,i,hi,h1,h2⟩:=h;⟨es,c,i,hi,(t.block b (Array.getElem?_eq_some_iff.1 h1).1 hn).trans h1,h2⟩
end
section
variable {κ:Type} [DecidableEq κ] {P:Program} {K:TypeId} {enc:κ→Value} {w:World}
theorem zwm (m:List (κ×Value)):∀(i:Nat) (k:κ) (u:Value),(m[i]?).map (·.1)=some k→(∀j,j<i→(m[j]?).map (·.1)≠some k)→∀k',zar (m.set i (k,u)) k'=if k'=k then some u else zar m k':=by
 induction m with
 |nil=>intro i k u h _ k';simp at h
 |cons p r ih=>
  intro i k u h hn k'
  cases i with
  |zero=>
   have hk:p.1=k:=by simpa using h
   simp only[List.set_cons_zero,zar];by_cases e:k'=k
   ·simp[e]
   ·simp[e,hk]
  |succ i=>
   have h0:¬p.1=k:=by have:=hn 0 (by omega);simpa using this
   have:=ih i k u (by simpa using h) (fun j hj=>by have:=hn (j+1) (by omega);simpa using this) k';simp only[List.set_cons_succ,zar,this];by_cases e:k'=k
   ·subst e;simp only[if_true];rw[if_neg (fun e=>h0 e.symm)]
   ·simp only[e,if_false]
theorem zt6 (m:List (κ×Value)) (k:κ):∀(i j:Nat) (u:Value),zm6 m k i=some (j,u)→∃n,j=i+n∧(m[n]?).map (·.1)=some k∧∀q,q<n→(m[q]?).map (·.1)≠some k:=by
 induction m with
 |nil=>intro i j u h;cases h
 |cons p r ih=>
  intro i j u h;simp only[zm6]at h;split at h
  ·rename_i e
   cases h;exact⟨0,rfl,by simp[e],fun q hq=>by omega⟩
  ·rename_i e
   obtain⟨n,h1,h2,h3⟩:=ih _ _ _ h;refine⟨n+1,by omega,by simpa using h2,fun q hq=>?_⟩
   cases q with
   |zero=>simpa using fun e'=>e e'.symm
   |succ q=>simpa using h3 q (by omega)
theorem zrf (m:List (κ×Value)) (k:κ):∀i,zm6 m k i=none→∀q:Nat,(m[q]?).map (·.1)≠some k:=by
 induction m with
 |nil=>intro i _ q;simp
 |cons p r ih=>
  intro i h q;simp only[zm6]at h;split at h
  ·cases h
  ·rename_i e
   cases q with
   |zero=>simpa using fun e'=>e e'.symm
   |succ q=>simpa using ih _ h q
theorem MapS.run_store {T:TypeId} {b s:Nat} {m:List (κ×Value)} {k:κ} (h:MapS enc w b m k s) (u:Value):
 ∃(w':World) (m':List (κ×Value)),(Instr.entryStore T (.map (some b)) (iV (s:Int)) u).run P w=.ok () w'∧MapB enc w' b m'∧(∀k',zar m' k'=if k'=k then some u else zar m k')∧Tch (fun g=>g=b) w w':=by
 obtain⟨es,c,i,hi,h1,h2,h3,rfl,hk,hfirst⟩:=h;have hlt:=(Array.getElem?_eq_some_iff.1 h1).1;have hset:∀o:Obj,(setObj b o).run P w=.ok () {w with heap:=w.heap.setIfInBounds b o}:=fun o=>MapKept.run_setObj_map o h1
 have ht:∀o:Obj,Tch (fun g=>g=b) w {w with heap:=w.heap.setIfInBounds b o}:=fun o=>⟨rfl,rfl,rfl,by simp,fun k _ hn=>by simp only;rw[Array.getElem?_setIfInBounds_ne (fun e=>hn e.symm)]⟩
 have hnew:∀o:Obj,({w with heap:=w.heap.setIfInBounds b o}:World).heap[b]?=some o:=fun o=>by simp[hlt]
 have hf:=h3.find hi;unfold Instr.entryStore;simp only[Sem.run_bind,MapKept.run_getObj_map h1,Result.andThen_ok,asInt,asIntOf,Sem.run_pure,hf,hset];refine⟨_,_,rfl,⟨_,_,hnew _,?_,h3.modify i _ (fun _=>rfl)⟩,zwm m i k u hk hfirst,ht _⟩;rw[List.map_set,←h2,Array.toList_modify];apply List.ext_getElem?
 intro n;rw[List.getElem?_map,List.getElem?_modify,List.getElem?_set,List.getElem?_map];by_cases e:i=n
 ·subst e
  have hkey:es[i].key=enc k:=by
   have h4:=congrArg (fun l:List (Value×Value)=>(l[i]?).map (·.1)) h2
   have him:i<m.length:=by
    rcases Nat.lt_or_ge i m.length with h|h
    ·exact h
    ·rw[List.getElem?_eq_none h]at hk;cases hk
   simp only[List.getElem?_map]at h4;rw[List.getElem?_eq_getElem him]at h4 hk;simp only[Option.map_some,Option.some.injEq]at h4 hk;rw[hk,Array.getElem?_toList,Array.getElem?_eq_getElem hi]at h4;simpa using h4
  have hie':i<es.toList.length:=by simpa using hi
  rw[Array.getElem?_toList,Array.getElem?_eq_getElem hi];simp[hkey,hi]
 ·simp[e]
theorem zrg {o:Oper} {a:Act} (T:TypeId) (m x:Operand) (hop:o.op=Op.lookup T m x false) (L:KeyLaw P K enc) {E:TypeId} (hT:P.underlying T=some (.map K E)) {z:Value} (hz:(zeroValue E).run P w=.ok z w) {b:Nat} {l:List (κ×Value)} {k:κ}
 (hm:a.eval m=.map (some b)) (hx:a.eval x=enc k) (h:MapIs enc w b l) {S:Value→World→Prop} (hS:S ((zar l k).getD z) w):za8 P o a w S:=by
 have hrun:=h.run_look L hT hz k false;unfold za8;simp only[execOp,hop,hm,hx,Sem.run_bind,hrun,Result.andThen_ok,Sem.run_pure];exact hS
end
open Go.RowKit
abbrev zgm:=Int×Int×Int
abbrev Pst:=Int×Ln4
abbrev Rw3:=Int×Int×Int
def zez (s:zgm):Value:=.agg #[iV s.1,iV s.2.1,iV s.2.2]
def zjk (r:Rw3):List Value:=[iV r.1,iV r.2.1,iV r.2.2]
theorem zk2:∀a,(zjk a).length=3:=fun _=>rfl
def zbd (q:Pst):zgm:=(q.2.1,q.2.2.1,q.1)
def zbq (s:zgm):Nat→List Pst→List Rw3
 |_,[]=>[]
 |i,q::r=>if zbd q=s then((i:Int)+1,q.2.2.2.1,q.2.2.2.2)::zbq s (i+1) r else zbq s (i+1) r
def zbf (ps:List Pst) (s:zgm):List Rw3:=zbq s 0 ps
theorem zis (s:zgm) (q:Pst):∀(ps:List Pst) (i:Nat),zbq s i (ps++[q])=zbq s i ps++(if zbd q=s then[(((i+ps.length:Nat):Int)+1,q.2.2.2.1,q.2.2.2.2)]else[])
 |[],i=>by simp[zbq]
 |p::r,i=>by
  simp only[List.cons_append,zbq,zis s q r (i+1),List.length_cons];rw[show i+1+r.length=i+(r.length+1) by omega];split<;>simp
theorem zln (s:zgm) (q:Pst) (ps:List Pst):zbf (ps++[q]) s=zbf ps s++(if zbd q=s then[((ps.length:Int)+1,q.2.2.2.1,q.2.2.2.2)]else[]):=by
 unfold zbf;rw[zis];simp
theorem zka (s:zgm):∀(ps:List Pst) (i:Nat),(zbq s i ps).length≤ps.length
 |[],_=>by simp[zbq]
 |q::r,i=>by
  simp only[zbq];have:=zka s r (i+1);split<;>simp <;>omega
theorem zfx (ps:List Pst) (s:zgm):(zbf ps s).length≤ps.length:=zka s ps 0
def zkb (ps:List Pst) (e a:Int) (i:Nat):List Int:=
 match ps[i]? with
 |none=>[]
 |some q=>if(q.2.1,q.2.2.1)=(e,a)∧zbf (ps.take i) (zbd q)=[]then[q.1]else[]
def zcd (ps:List Pst) (e a:Int):List Int:=(List.range ps.length).flatMap (zkb ps e a)
theorem zde (ps:List Pst) (q:Pst) (e a:Int):zcd (ps++[q]) e a=zcd ps e a++(if(q.2.1,q.2.2.1)=(e,a)∧zbf ps (zbd q)=[]then[q.1]else[]):=by
 unfold zcd;rw[List.length_append,List.length_singleton,List.range_succ,List.flatMap_append];congr 1
 ·have:∀l:List Nat,(∀i∈l,i<ps.length)→l.flatMap (zkb (ps++[q]) e a)=l.flatMap (zkb ps e a):=fun l=>by
   induction l with
   |nil=>intro _;rfl
   |cons x r ih=>
    intro h;have hx:=h x (List.mem_cons_self ..);rw[List.flatMap_cons,List.flatMap_cons,ih fun i hi=>h i (List.mem_cons_of_mem _ hi)];congr 1;unfold zkb;rw[List.getElem?_append_left hx,List.take_append_of_le_length (Nat.le_of_lt hx)]
  exact this _ fun i hi=>List.mem_range.1 hi
 ·simp[zkb]
theorem znb (ps:List Pst) (e a:Int):(zcd ps e a).length≤ps.length:=by
 unfold zcd
 have:∀l:List Nat,(l.flatMap (zkb ps e a)).length≤l.length:=fun l=>by
  induction l with
  |nil=>simp
  |cons x r ih=>
   have:(zkb ps e a x).length≤1:=by
    unfold zkb;split
    ·simp
    ·split<;>simp
   rw[List.flatMap_cons,List.length_append,List.length_cons];omega
 simpa using this (List.range ps.length)
def ze0:Value:=.slice none 0 0
section
variable {κ:Type} [DecidableEq κ]
def Fam (e:TypeId) (size:Nat) (w:World) (B:Nat) (R:List (κ×Value)) (n:κ→Nat) (cs:κ→List Value):Prop:=
 ∀k,w.ownsRow B e size ((zar R k).getD ze0) (n k) (cs k)
def OwBy (tag:Bool) (f:κ→zgm) (R:List (κ×Value)) (ow:Nat→Option (Bool×zgm)):Prop:=∀k v g,zar R k=some v→v.ownBlock=some g→ow g=some (tag,f k)
variable {e:TypeId} {size:Nat} {w w':World} {B:Nat} {R:List (κ×Value)} {n:κ→Nat} {cs:κ→List Value} {F:Nat→Prop}
theorem Fam.keep (h:Fam e size w B R n cs) (t:Tch F w w') (hn:∀k v g,zar R k=some v→v.ownBlock=some g→¬F g):Fam e size w' B R n cs:=fun k=>by
 refine t.own (h k) fun g hg=>?_
 cases hf:zar R k with
 |none=>rw[hf]at hg;cases hg
 |some v=>rw[hf]at hg;exact hn k v g hf hg
theorem Fam.lt (h:Fam e size w B R n cs) {k:κ} {v:Value} {g:Nat} (hf:zar R k=some v) (hg:v.ownBlock=some g):B≤g∧g<w.heap.size:=by
 have:=h k;rw[hf]at this;exact this.lt g hg
theorem Fam.at (h:Fam e size w B R n cs) (k:κ):w.ownsRow B e size ((zar R k).getD ze0) (n k) (cs k):=h k
theorem Fam.put {k:κ} {v:Value} {m:Nat} {xs:List Value} (h:Fam e size w B R n cs) (hv:w.ownsRow B e size v m xs):Fam e size w B (z2d R k v) (fun i=>if i=k then m else n i) (fun i=>if i=k then xs else cs i):=fun i=>by
 rw[zlh];by_cases hi:i=k
 ·simp only[hi,if_true,Option.getD_some];exact hv
 ·simp only[hi,if_false];exact h i
theorem Fam.none (e:TypeId) (size:Nat) (w:World) (B:Nat):Fam (κ:=κ) e size w B [] (fun _=>0) (fun _=>[]):=fun _=>World.ownsRow_nil _ _ _ _
theorem Fam.congr {n':κ→Nat} {cs':κ→List Value} (h:Fam e size w B R n cs) (h1:∀k,n k=n' k) (h2:∀k,cs k=cs' k):Fam e size w B R n' cs':=fun k=>by rw[←h1,←h2];exact h k
theorem OwBy.put {tag:Bool} {f:κ→zgm} {ow:Nat→Option (Bool×zgm)} {k:κ} {v:Value} {z:Nat} (h:OwBy tag f R ow) (hz:∀k v g,zar R k=some v→v.ownBlock=some g→g<z) (hv:∀g,v.ownBlock=some g→((zar R k).getD ze0).ownBlock=some g∨z≤g):
 OwBy tag f (z2d R k v) (fun g=>if z≤g then some (tag,f k)else ow g):=fun i u g hi hg=>by
 rw[zlh]at hi;by_cases hik:i=k
 ·subst hik;rw[if_pos rfl]at hi;obtain rfl:=Option.some.inj hi;rcases hv g hg with h1|h1
  ·cases hf:zar R i with
   |none=>rw[hf]at h1;cases h1
   |some v0=>
    rw[hf]at h1;have:=hz i v0 g hf h1;show(if z≤g then _ else _)=_;rw[if_neg (by omega)];exact h i v0 g hf h1
  ·show(if z≤g then _ else _)=_;rw[if_pos h1]
 ·rw[if_neg hik]at hi;have:=hz i u g hi hg;show(if z≤g then _ else _)=_;rw[if_neg (by omega)];exact h i u g hi hg
theorem OwBy.stay {tag:Bool} {f:κ→zgm} {ow:Nat→Option (Bool×zgm)} {z:Nat} {q:Option (Bool×zgm)} (h:OwBy tag f R ow) (hz:∀k v g,zar R k=some v→v.ownBlock=some g→g<z):OwBy tag f R (fun g=>if z≤g then q else ow g):=fun i u g hi hg=>by
 have:=hz i u g hi hg;show(if z≤g then _ else _)=_;rw[if_neg (by omega)];exact h i u g hi hg
theorem Fam.step {tag:Bool} {f:κ→zgm} (hf:∀a b,f a=f b→a=b) {ow:Nat→Option (Bool×zgm)} {mb:Nat} {w1 w2:World} {R':List (κ×Value)} {k:κ} {v:Value} {m:Nat} {xs:List Value} (h:Fam e size w B R n cs) (ho:OwBy tag f R ow) (hB:B≤w.heap.size) (hmb:mb<B) (t1:Tch F w w1) (hF:∀g,F g→g=mb∨((zar R k).getD ze0).ownBlock=some g) (hv:w1.ownsRow 0 e size v m xs) (hvb:∀g,v.ownBlock=some g→((zar R k).getD ze0).ownBlock=some g∨w.heap.size≤g)
 (t2:Tch (fun g=>g=mb) w1 w2) (hR:∀k',zar R' k'=if k'=k then some v else zar R k'):
 Fam e size w2 B R' (fun i=>if i=k then m else n i) (fun i=>if i=k then xs else cs i)∧OwBy tag f R' (fun g=>if w.heap.size≤g then some (tag,f k)else ow g):=by
 have hblk:∀g,((zar R k).getD ze0).ownBlock=some g→(B≤g∧g<w.heap.size)∧ow g=some (tag,f k):=fun g hg=>by
  cases hk:zar R k with
  |none=>rw[hk]at hg;cases hg
  |some u=>rw[hk]at hg;exact⟨h.lt hk hg,ho k u g hk hg⟩
 refine⟨fun i=>?_,fun i u g hi hg=>?_⟩
 ·rw[hR];by_cases hik:i=k
  ·simp only[hik,if_true,Option.getD_some];refine t2.own (zbk hv fun g hg=>?_) fun g hg e=>?_
   ·rcases hvb g hg with h1|h1
    ·exact(hblk g h1).1.1
    ·omega
   ·have e:g=mb:=e;rcases hvb g hg with h1|h1
    ·have:=(hblk g h1).1.1;omega
    ·omega
  ·simp only[hik,if_false];have hi:=h i;refine t2.own (t1.own hi fun g hg hFg=>?_) fun g hg e=>?_
   ·have hlt:=(hi.lt g hg).1;rcases hF g hFg with e|e
    ·omega
    ·cases hr:zar R i with
     |none=>rw[hr]at hg;cases hg
     |some u=>
      rw[hr]at hg;have h1:=ho i u g hr hg;rw[(hblk g e).2]at h1;injection h1 with h1;injection h1 with _ h1;exact hik (hf _ _ h1.symm)
   ·have e:g=mb:=e;have:=(hi.lt g hg).1;omega
 ·rw[hR]at hi;show(if w.heap.size≤g then _ else _)=_;by_cases hik:i=k
  ·subst hik;rw[if_pos rfl]at hi;obtain rfl:=Option.some.inj hi;rcases hvb g hg with h1|h1
   ·rw[if_neg (by have:=(hblk g h1).1.2;omega)];exact(hblk g h1).2
   ·rw[if_pos h1]
  ·rw[if_neg hik]at hi;rw[if_neg (by have:=(h.lt hi hg).2;omega)];exact ho i u g hi hg
theorem Fam.aside {κ':Type} [DecidableEq κ'] {tag tag':Bool} (ht:tag≠tag') {f:κ→zgm} {f':κ'→zgm} {ow:Nat→Option (Bool×zgm)} {mb:Nat} {w2:World} {M:List (κ'×Value)} {n':κ'→Nat} {cs':κ'→List Value} {e':TypeId} {size':Nat} {k:κ} (h:Fam e' size' w B M n' cs') (ho:OwBy tag' f' M ow) (hr:OwBy tag f R ow) (hmb:mb<B) (t:Tch F w w2) (hF:∀g,F g→g=mb∨((zar R k).getD ze0).ownBlock=some g):
 Fam e' size' w2 B M n' cs'∧OwBy tag' f' M (fun g=>if w.heap.size≤g then some (tag,f k)else ow g):=by
 refine⟨h.keep t fun i u g hi hg hFg=>?_,ho.stay fun i u g hi hg=>(h.lt hi hg).2⟩;have hlt:=(h.lt hi hg).1;rcases hF g hFg with e1|e1
 ·omega
 ·cases hk:zar R k with
  |none=>rw[hk]at e1;cases e1
  |some v=>
   rw[hk]at e1;have h1:=hr k v g hk e1;rw[ho i u g hi hg]at h1;injection h1 with h1;injection h1 with h1 _;exact ht h1.symm
end
structure TallyIs (T eR eI:TypeId) (w:World) (B t mr mp:Nat) (ps:List Pst) (n:Int):Prop where
 blk:Blk w t T #[.map (some mr),.map (some mp),iV n,iV ps.length]
 lt:t<B∧mr<B∧mp<B
 ex:∃R M ow,MapB zez w mr R∧MapB zez w mp M∧Fam eR 3 w B R (fun s=>(zbf ps s).length) (fun s=>(zbf ps s).flatMap zjk)∧
  Fam eI 1 w B M (fun s=>if s.2.2=0 then(zcd ps s.1 s.2.1).length else 0) (fun s=>if s.2.2=0 then(zcd ps s.1 s.2.1).flatMap zby else[])∧OwBy true id R ow∧OwBy false id M ow
theorem zes {w:World} {t mr:Nat} {T:TypeId} {cs:Array Value} {R:List (zgm×Value)} (h:Blk w t T cs) (hm:MapB zez w mr R):t≠mr:=fun e=>by
 subst e;obtain⟨es,c,h1,_⟩:=hm;have h2:w.heap[t]?=some (.cells cs T):=h;rw[h2]at h1;cases h1
theorem TallyIs.keep {T eR eI:TypeId} {w w':World} {B t mr mp:Nat} {ps:List Pst} {n:Int} {F:Nat→Prop} (h:TallyIs T eR eI w B t mr mp ps n) (tc:Tch F w w') (hn:∀g,g<w.heap.size→F g→g<B∧g≠t∧g≠mr∧g≠mp):TallyIs T eR eI w' B t mr mp ps n:=by
 obtain⟨R,M,ow,h1,h2,h3,h4,h5,h6⟩:=h.ex;refine⟨h.blk.keep tc fun hf=>(hn _ h.blk.lt hf).2.1 rfl,h.lt,R,M,ow,h1.keep tc fun hf=>(hn _ h1.lt hf).2.2.1 rfl,h2.keep tc fun hf=>(hn _ h2.lt hf).2.2.2 rfl,h3.keep tc fun k v g hf hg hF=>?_,h4.keep tc fun k v g hf hg hF=>?_,h5,h6⟩
 ·have:=h3.lt hf hg;have:=(hn g this.2 hF).1;omega
 ·have:=h4.lt hf hg;have:=(hn g this.2 hF).1;omega
end Go.Gk
namespace Go.Proofs.YtoegobjnjljegaaGreatDoor
open Go.RowKit Go.Gk
theorem eqAcc (a0:Int) (a1:Int) (a2:Bool) (a3:Bool) (b0:Int) (b1:Int) (b2:Bool) (b3:Bool) (w:World):(Op.equalIn 10000 91 (.agg #[iV a0,iV a1,.bool a2,.bool a3]) (.agg #[iV b0,iV b1,.bool b2,.bool b3])).run Tryz.prog w=.ok (a0==b0&&a1==b1&&a2==b2&&a3==b3) w:=by
 have u_bool:=Tryz.underlying4;have a_bool:=Tryz.isAgg4;have z_bool:=Tryz.sizeOf4;have u_int:=Tryz.underlying3;have a_int:=Tryz.isAgg3;have z_int:=Tryz.sizeOf3;have hS:Tryz.prog.underlying 91=some (.struct (Tryz.prog.fieldsOf 91)):=by kernel_rfl
 have hp:Tryz.prog.stoodInHeld 91=false:=by kernel_rfl
 rw[show(10000:Nat)=9999+1 from rfl,run_equalIn_agg w 9999 91 _ _ hS hp];simp only[Program.fieldsOf,Tryz.underlying91];go_simp
 by_cases h0:a0=b0<;>by_cases h1:a1=b1<;>by_cases h2:a2=b2<;>by_cases h3:a3=b3<;>simp[h0,h1,h2,h3]
theorem zt7 (a0:Int) (a1:Int) (a2:Bool) (a3:Bool) (b0:Int) (b1:Int) (b2:Bool) (b3:Bool) (w:World):(binOp .neq 91 (.agg #[iV a0,iV a1,.bool a2,.bool a3]) (.agg #[iV b0,iV b1,.bool b2,.bool b3])).run Tryz.prog w=.ok (.bool (!(a0==b0&&a1==b1&&a2==b2&&a3==b3))) w:=by
 rw[run_neq_struct,eqAcc];rfl
theorem eqLine (a0:Int) (a1:Int) (a2:Int) (a3:Int) (b0:Int) (b1:Int) (b2:Int) (b3:Int) (w:World):(Op.equalIn 10000 60 (.agg #[iV a0,iV a1,iV a2,iV a3]) (.agg #[iV b0,iV b1,iV b2,iV b3])).run Tryz.prog w=.ok (a0==b0&&a1==b1&&a2==b2&&a3==b3) w:=by
 have u_int:=Tryz.underlying3;have a_int:=Tryz.isAgg3;have z_int:=Tryz.sizeOf3;have hS:Tryz.prog.underlying 60=some (.struct (Tryz.prog.fieldsOf 60)):=by kernel_rfl
 have hp:Tryz.prog.stoodInHeld 60=false:=by kernel_rfl
 rw[show(10000:Nat)=9999+1 from rfl,run_equalIn_agg w 9999 60 _ _ hS hp];simp only[Program.fieldsOf,Tryz.underlying60];go_simp
 by_cases h0:a0=b0<;>by_cases h1:a1=b1<;>by_cases h2:a2=b2<;>by_cases h3:a3=b3<;>simp[h0,h1,h2,h3]
theorem zrh (a0:Int) (a1:Int) (a2:Int) (a3:Int) (b0:Int) (b1:Int) (b2:Int) (b3:Int) (w:World):(binOp .neq 60 (.agg #[iV a0,iV a1,iV a2,iV a3]) (.agg #[iV b0,iV b1,iV b2,iV b3])).run Tryz.prog w=.ok (.bool (!(a0==b0&&a1==b1&&a2==b2&&a3==b3))) w:=by
 rw[run_neq_struct,eqLine];rfl
theorem z4j (a0:Int) (a1:Int) (a2:Int) (a3:Int) (a4:Int) (a5:Int) (b0:Int) (b1:Int) (b2:Int) (b3:Int) (b4:Int) (b5:Int) (w:World):(Op.equalIn 10000 31 (.agg #[iV a0,iV a1,iV a2,iV a3,iV a4,iV a5]) (.agg #[iV b0,iV b1,iV b2,iV b3,iV b4,iV b5])).run Tryz.prog w=.ok (a0==b0&&a1==b1&&a2==b2&&a3==b3&&a4==b4&&a5==b5) w:=by
 have u_int:=Tryz.underlying3;have a_int:=Tryz.isAgg3;have z_int:=Tryz.sizeOf3;have hS:Tryz.prog.underlying 31=some (.struct (Tryz.prog.fieldsOf 31)):=by kernel_rfl
 have hp:Tryz.prog.stoodInHeld 31=false:=by kernel_rfl
 rw[show(10000:Nat)=9999+1 from rfl,run_equalIn_agg w 9999 31 _ _ hS hp];simp only[Program.fieldsOf,Tryz.underlying31];go_simp
 by_cases h0:a0=b0<;>by_cases h1:a1=b1<;>by_cases h2:a2=b2<;>by_cases h3:a3=b3<;>by_cases h4:a4=b4<;>by_cases h5:a5=b5<;>simp[h0,h1,h2,h3,h4,h5]
theorem zh7 (a0:Int) (a1:Int) (a2:Int) (a3:Int) (a4:Int) (a5:Int) (b0:Int) (b1:Int) (b2:Int) (b3:Int) (b4:Int) (b5:Int) (w:World):(binOp .eql 31 (.agg #[iV a0,iV a1,iV a2,iV a3,iV a4,iV a5]) (.agg #[iV b0,iV b1,iV b2,iV b3,iV b4,iV b5])).run Tryz.prog w=.ok (.bool (a0==b0&&a1==b1&&a2==b2&&a3==b3&&a4==b4&&a5==b5)) w:=by
 rw[run_eql_struct,z4j];rfl
theorem zri (a0:Int) (a1:Int) (a2:Int) (a3:Int) (a4:Int) (a5:Int) (b0:Int) (b1:Int) (b2:Int) (b3:Int) (b4:Int) (b5:Int) (w:World):(binOp .neq 31 (.agg #[iV a0,iV a1,iV a2,iV a3,iV a4,iV a5]) (.agg #[iV b0,iV b1,iV b2,iV b3,iV b4,iV b5])).run Tryz.prog w=.ok (.bool (!(a0==b0&&a1==b1&&a2==b2&&a3==b3&&a4==b4&&a5==b5))) w:=by
 rw[run_neq_struct,z4j];rfl
theorem eqRatio (a0:Int) (a1:Int) (b0:Int) (b1:Int) (w:World):(Op.equalIn 10000 44 (.agg #[iV a0,iV a1]) (.agg #[iV b0,iV b1])).run Tryz.prog w=.ok (a0==b0&&a1==b1) w:=by
 have u_int:=Tryz.underlying3;have a_int:=Tryz.isAgg3;have z_int:=Tryz.sizeOf3;have hS:Tryz.prog.underlying 44=some (.struct (Tryz.prog.fieldsOf 44)):=by kernel_rfl
 have hp:Tryz.prog.stoodInHeld 44=false:=by kernel_rfl
 rw[show(10000:Nat)=9999+1 from rfl,run_equalIn_agg w 9999 44 _ _ hS hp];simp only[Program.fieldsOf,Tryz.underlying44];go_simp
 by_cases h0:a0=b0<;>by_cases h1:a1=b1<;>simp[h0,h1]
theorem run_ne_Ratio (a0:Int) (a1:Int) (b0:Int) (b1:Int) (w:World):(binOp .neq 44 (.agg #[iV a0,iV a1]) (.agg #[iV b0,iV b1])).run Tryz.prog w=.ok (.bool (!(a0==b0&&a1==b1))) w:=by
 rw[run_neq_struct,eqRatio];rfl
