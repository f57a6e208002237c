/-
  Plain theorems over whatever program: a region that draws its order, some of whose operations make memory (values that are not unique), or write in a forced order; a forced tail behind. No program in sight.
-/
import Derived.Deep.Quiet
import Derived.BigQuiet
import Derived.WalkKit
import Derived.StillTail
import Derived.Below
import Derived.Laws.World
import Derived.Laws.Rows
import Derived.Maps.OwnSet
import Derived.Maps.Ext
import Derived.Deep.AppendLies
import Derived.Maps.AppendAt
import Derived.Deep.MidRow
namespace Go.Gk
open Go
section
variable {P:Program}
def zdv (P:Program) (S:Value→World→Prop):Result Next→Prop
 | .ok (.value v) w'=>S v w'
 | .ok .skip w'=>S undef w'
 | .ok (.enter f args) w'=>Calls P f args w' (fun e w''=>∃v,e=.returned v∧S v w'')
 | .ok (.row row args) w'=>Rows P row args w' S
 |_=>False
def za8 (P:Program) (o:Oper) (a:Act) (w:World) (S:Value→World→Prop):Prop:=zdv P S ((execOp a.eval o).run P w)
theorem zcs {o:Oper} {a:Act} {w:World} {S S':Value→World→Prop} (h:∀v w,S v w→S' v w) (hh:za8 P o a w S):za8 P o a w S':=by
 unfold za8 at *;generalize(execOp a.eval o).run P w=r at *
 cases r with
 |ok n w'=>
  cases n<;>simp only[zdv]at hh⊢ <;>
   first
    |exact h _ _ hh
    |exact Calls.mono hh (fun e w'' ⟨v,hv,hs⟩=>⟨v,hv,h _ _ hs⟩)
    |exact Rows.mono hh h
 |halt x w'=>simp only[zdv]at hh
theorem zj3 {o:Oper} {a a':Act} {w:World} {S:Value→World→Prop} (he:execOp a'.eval o=execOp a.eval o)
 (h:za8 P o a w S):za8 P o a' w S:=by
 unfold za8 at *;rw[he];exact h
theorem zgs {o:Oper} {a:Act} {w:World} {S:Value→World→Prop} {K:Act→World→Prop} {Q:Exit→Act→World→Prop} (h:za8 P o a w S)
 (hk:∀v w',S v w'→K (a.put o.dst v) w'):o.wp P a w K Q:=by
 unfold za8 at h;unfold Oper.wp;generalize(execOp a.eval o).run P w=r at *
 cases r with
 |ok n w'=>
  cases n<;>simp only[zdv]at h<;>simp only[Oper.upon]<;>
   first
    |exact hk _ _ h
    |exact Calls.mono h (fun e w'' ⟨v,hv,hs⟩=>by subst hv;exact hk _ _ hs)
    |exact Rows.mono h hk
 |halt x w'=>simp only[zdv]at h
def zli (P:Program) (o:Oper) (a:Act) (w:World) (x:Value):Prop:=(execOp a.eval o).run P w=.ok (.value x) w∨((execOp a.eval o).run P w=.ok .skip w∧x=undef)
theorem zdw {o:Oper} {a a':Act} {w:World} {x:Value} (he:execOp a'.eval o=execOp a.eval o) (h:zli P o a w x):zli P o a' w x:=by
 unfold zli at *;rw[he];exact h
theorem zo9 {o:Oper} {a:Act} {w:World} {x y:Value} (h:zli P o a w x) (h':zli P o a w y):x=y:=by
 rcases h with h|⟨h,rfl⟩<;>rcases h' with h'|⟨h',rfl⟩<;>rw[h]at h'<;>simp at h'<;>first|exact h'|rfl
theorem zlj {o:Oper} {a:Act} {w:World} {x:Value} {S:Value→World→Prop} (h:zli P o a w x) (hs:S x w):za8 P o a w S:=by
 unfold za8;rcases h with h|⟨h,rfl⟩<;>rw[h]<;>exact hs
def zfo (b:Nat) (L:List (Nat×(World→Prop))) (w:World):Prop:=∀p∈L,b.testBit p.1=true→p.2 w
structure Env where
 ops:Array Oper
 bef:Array Nat
 R:World→World→Prop
 R0:World→World→Prop
 J:Nat→World→Prop
 w0:World
 ks:Nat→Option (Sum Value (Value→World→Prop))
 sp:Nat→Option Nat
 fr:Nat→Bool
def zt3:Value→Option Nat
 | .pointer (some a)=>some a.block
 | .slice (some a) _ _=>some a.block
 | .map (some r)=>some r
 |_=>none
def zkt (b:Bool) (v:Value) (w w':World):Prop:=b=true→∀g,zt3 v=some g→w.heap.size≤g∧g<w'.heap.size
def Env.asks (E:Env) (P:Program) (k:Nat) (F:World→Prop) (o:Oper) (a:Act) (V:Value→World→Prop):Prop:=
 match E.sp k with
 |none=>∀w,E.R E.w0 w→F w→za8 P o a w (fun v w'=>(V v w'∧E.R0 w w')∧zkt (E.fr k) v w w')
 |some s=>∀w,E.R E.w0 w→E.J s w→F w→za8 P o a w (fun v w'=>(V v w'∧E.R w w'∧E.J (s+1) w')∧zkt (E.fr k) v w w')
def Env.head (E:Env) (P:Program) (fin:Act→List (Nat×(World→Prop))→Prop):List Oper→Nat→Act→List (Nat×(World→Prop))→Prop
 |[],_,a,L=>fin a L
 |o::rest,k,a,L=>
  if Region.wanted o (yielded E.ops a.tmps)=true then
   match E.ks k with
   |none=>(E.sp k=none∧E.fr k=false)∧∃x,(∀w,E.R E.w0 w→zfo (E.bef.getD k 0) L w→zli P o a w x)∧E.head P fin rest (k+1) (a.put o.dst x) L
   |some (.inl x)=>E.asks P k (zfo (E.bef.getD k 0) L) o a (fun v _=>v=x)∧E.head P fin rest (k+1) (a.put o.dst x) L
   |some (.inr V)=>E.asks P k (zfo (E.bef.getD k 0) L) o a V∧∀v,E.head P fin rest (k+1) (a.put o.dst v) ((k,V v)::L)
  else E.sp k=none∧E.head P fin rest (k+1) (a.put o.dst undef) L
def zho (ops:Array Oper) (k:Nat):Option Tmp:=(ops[k]?).bind (·.dst)
def befOK (ops:Array Oper) (bef:Array Nat) (n:Nat):Bool:=
 (List.range n).all fun k=>match ops[k]? with
  |none=>false
  |some o=>bef.getD k 0==o.after.toList.foldl (fun s e=>if Region.binds .any e then s|||2^e.on|||bef.getD e.on 0 else s) 0
def zwc (ops:Array Oper) (bef:Array Nat) (n:Nat):Bool:=
 (List.range n).all fun k=>match ops[k]? with
  |none=>false
  |some o=>(o.looksAt ops).all fun t=>(List.range n).all fun j=>(zho ops j !=some t)||((bef.getD k 0).testBit j&&decide (j<k))
def dstOK (ops:Array Oper) (n N:Nat):Bool:=
 (List.range n).all fun k=>match zho ops k with
  |none=>true
  |some d=>decide (d<N)&&(List.range k).all fun j=>zho ops j !=some d
def zwd (ops:Array Oper) (n:Nat):Bool:=
 (List.range n).all fun k=>match ops[k]? with
  |none=>false
  |some o=>o.after.toList.all fun e=>!Region.binds .any e||decide (e.on<k)
def spOK (bef:Array Nat) (sp:Nat→Option Nat) (n:Nat):Bool:=
 (List.range n).all fun k=>match sp k with
  |none=>true
  |some s=>(s==0||(List.range k).any fun j=>sp j==some (s-1)&&(bef.getD k 0).testBit j)&&(List.range k).all fun j=>sp j !=some s
theorem zin (bef:Array Nat) (j:Nat):∀(l:List Edge) (s:Nat),(l.foldl (fun s e=>if Region.binds .any e then s|||2^e.on|||bef.getD e.on 0 else s) s).testBit j=true→
 s.testBit j=true∨∃e∈l,Region.binds .any e=true∧(e.on=j∨(bef.getD e.on 0).testBit j=true)
 |[],s,h=>.inl h
 |e::l,s,h=>by
  simp only[List.foldl_cons]at h
  rcases zin bef j l _ h with h|⟨e',he,hb⟩
  ·split at h
   ·rename_i hb
    rw[Nat.testBit_or,Nat.testBit_or,Nat.testBit_two_pow]at h;simp only[Bool.or_eq_true,decide_eq_true_eq]at h;rcases h with(h|h)|h
    ·exact .inl h
    ·exact .inr ⟨e,by simp,hb,.inl h⟩
    ·exact .inr ⟨e,by simp,hb,.inr h⟩
   ·exact .inl h
  ·exact .inr ⟨e',by simp[he],hb⟩
def val (a:Act) (o:Oper) (x:Value):Prop:=∀d,o.dst=some d→a.tmps.getD d undef=x
def Env.settled (E:Env) (P:Program) (k:Nat) (o:Oper) (A:Act) (w:World):Prop:=
 if Region.wanted o (yielded E.ops A.tmps)=true then
  match E.ks k with
  |none=>∃x,val A o x∧∀w',E.R w w'→zli P o A w' x
  |some (.inl x)=>val A o x
  |some (.inr V)=>∃v,val A o v∧V v w
 else val A o undef
structure Env.Laws (E:Env) (n N:Nat):Prop where
 grows:∀a b,E.R a b→a.heap.size≤b.heap.size
 refl:∀w,E.R w w
 trans:∀a b c,E.R a b→E.R b c→E.R a c
 sub:∀a b,E.R0 a b→E.R a b
 keepJ:∀s a b,E.R0 a b→E.J s a→E.J s b
 keepV:∀k V,E.ks k=some (.inr V)→∀v a b,E.R a b→V v a→V v b
 noSel:Region.noSelect E.ops=true
 bef:befOK E.ops E.bef n=true
 look:zwc E.ops E.bef n=true
 dst:dstOK E.ops n N=true
 edge:zwd E.ops n=true
 sp:spOK E.bef E.sp n=true
structure Env.Inv (E:Env) (P:Program) (n:Nat) (a0:Act) (listed:Array Bool) (A:Act) (w:World):Prop where
 head:HeadInv .any E.ops n listed
 r:E.R E.w0 w
 size:A.tmps.size=a0.tmps.size
 defers:A.defers=a0.defers
 same:∀t,(∀j,j<n→zho E.ops j≠some t)→A.tmps.getD t undef=a0.tmps.getD t undef
 settled:∀k o,k<n→E.ops[k]?=some o→listed.getD k false=true→E.settled P k o A w
 fresh:∀k d,k<n→listed.getD k false=true→E.fr k=true→zho E.ops k=some d→∀g,zt3 (A.tmps.getD d undef)=some g→g<w.heap.size∧
  ∀k' d',k'<n→listed.getD k' false=true→E.fr k'=true→zho E.ops k'=some d'→k≠k'→zt3 (A.tmps.getD d' undef)≠some g
 j:∃s,(∀k s',k<n→E.sp k=some s'→(listed.getD k false=true↔s'<s))∧(s=0∨∃k,k<n∧E.sp k=some (s-1))∧E.J s w
section
variable {E:Env} {n N:Nat} {a0:Act} {listed:Array Bool} {A:Act} {w:World}
theorem zc4 {ops:Array Oper} {k:Nat} {o:Oper} (h:ops[k]?=some o):zho ops k=o.dst:=by simp[zho,h]
theorem zgt (G:E.Laws n N) {k:Nat} {o:Oper} (hk:k<n) (ho:E.ops[k]?=some o) {t:Tmp} (ht:t∈o.looksAt E.ops) {j:Nat} (hj:j<n) (hd:zho E.ops j=some t):
 (E.bef.getD k 0).testBit j=true∧j<k:=by
 have h:=List.all_eq_true.1 G.look k (List.mem_range.2 hk);simp only[ho]at h;have h2:=List.all_eq_true.1 (List.all_eq_true.1 h t ht) j (List.mem_range.2 hj);simp only[hd,bne_self_eq_false,Bool.false_or,Bool.and_eq_true,decide_eq_true_eq]at h2;exact h2
theorem bef_spec (G:E.Laws n N) {k:Nat} {o:Oper} (hk:k<n) (ho:E.ops[k]?=some o) {j:Nat} (h:(E.bef.getD k 0).testBit j=true):
 ∃e∈o.after,Region.binds .any e=true∧(e.on=j∨(E.bef.getD e.on 0).testBit j=true):=by
 have h1:=List.all_eq_true.1 G.bef k (List.mem_range.2 hk);simp only[ho,beq_iff_eq]at h1;rw[h1]at h
 rcases zin E.bef j _ _ h with h|⟨e,he,hb⟩
 ·simp at h
 ·exact⟨e,by simpa using he,hb⟩
theorem zlk (G:E.Laws n N) {k:Nat} {o:Oper} (hk:k<n) (ho:E.ops[k]?=some o) {e:Edge} (he:e∈o.after) (hb:Region.binds .any e=true):e.on<k:=by
 have h1:=List.all_eq_true.1 G.edge k (List.mem_range.2 hk);simp only[ho]at h1;have h2:=List.all_eq_true.1 h1 e (by simpa using he);simpa[hb]using h2
theorem zji (G:E.Laws n N) (inv:HeadInv .any E.ops n listed):∀(k:Nat) (o:Oper),k<n→E.ops[k]?=some o→(∀e∈o.after,Region.binds .any e=true→listed.getD e.on false=true)→
 ∀j,(E.bef.getD k 0).testBit j=true→listed.getD j false=true:=by
 intro k;induction k using Nat.strongRecOn with
 |_ k ih=>
  intro o hk ho hall j hj;obtain⟨e,he,hb,h⟩:=bef_spec G hk ho hj;have hl:=hall e he hb;rcases h with rfl|h
  ·exact hl
  ·have hek:=zlk G hk ho he hb
   have hlt:e.on<E.ops.size:=by
    have:=(Array.getElem?_eq_some_iff.1 ho).1;omega
   have hoe:E.ops[e.on]?=some (E.ops[e.on]):=Array.getElem?_eq_getElem hlt;exact ih e.on hek _ (by omega) hoe (fun e' he' hb'=>inv.closed e.on _ hoe hl e' he' hb') j h
theorem zf4 (G:E.Laws n N) (inv:HeadInv .any E.ops n listed) {k:Nat} {o:Oper} (hk:k<n) (ho:E.ops[k]?=some o) (hl:listed.getD k false=true):
 ∀j,(E.bef.getD k 0).testBit j=true→listed.getD j false=true:=
 zji G inv k o hk ho (fun e he hb=>inv.closed k o ho hl e he hb)
theorem zd9 {ops:Array Oper} {o:Oper} (hs:∀cs b,o.op≠.select cs b) {a A:Act} (h:∀t∈o.looksAt ops,a.tmps.getD t undef=A.tmps.getD t undef):execOp A.eval o=execOp a.eval o:=
 execOp_congr o hs fun x hx=>by
  cases x with
  |tmp t=>exact(h t (List.mem_append_left _ (List.mem_filterMap.2 ⟨.tmp t,by simpa using hx,rfl⟩))).symm
  |_=>rfl
theorem zwe (tmps:Array Value) (t:Nat) (u:Option Bool) (h:(match tmps[t]? with |some (.bool b)=>some b|_=>none)=u):(match tmps.getD t undef with | .bool b=>some b|_=>none)=u:=by
 subst h;rcases Nat.lt_or_ge t tmps.size with h|h
 ·simp[h];split<;>simp_all
 ·simp[Array.getElem?_eq_none h,undef]
theorem zj4 (ops:Array Oper) (tmps:Array Value) (g:Nat) (t:Tmp) (ht:(ops[g]?).bind (·.dst)=some t):yielded ops tmps g=(match tmps.getD t undef with | .bool b=>some b|_=>none):=by
 unfold yielded;rw[ht];exact(zwe tmps t _ rfl).symm
theorem zfd {ops:Array Oper} {o:Oper} {a A:Act} (h:∀t∈o.looksAt ops,a.tmps.getD t undef=A.tmps.getD t undef):Region.wanted o (yielded ops A.tmps)=Region.wanted o (yielded ops a.tmps):=by
 unfold Region.wanted
 cases hg:o.guard with
 |none=>rfl
 |some gw=>
  obtain⟨g,want⟩:=gw
  have hy:yielded ops A.tmps g=yielded ops a.tmps g:=by
   cases ht:(ops[g]?).bind (·.dst)with
   |none=>simp[yielded,ht]
   |some t=>
    have:=h t (by simp[Oper.looksAt,hg,ht]);rw[zj4 _ _ _ _ ht,zj4 _ _ _ _ ht,this]
  simp only[hy]
theorem zdk {a:Act} {d:Tmp} {v:Value} (h:d<a.tmps.size):(a.put (some d) v).tmps.getD d undef=v:=by
 simp[Act.put,h]
theorem zbs {a:Act} {x:Option Tmp} {t:Tmp} {v:Value} (h:x≠some t):(a.put x v).tmps.getD t undef=a.tmps.getD t undef:=by
 cases x with
 |none=>rfl
 |some d=>
  have:d≠t:=fun e=>h (by rw[e])
  simp[Act.put,Array.getElem?_setIfInBounds_ne this]
theorem zs4 (a:Act) (x:Option Tmp) (v:Value):(a.put x v).tmps.size=a.tmps.size:=by cases x<;>simp[Act.put]
theorem zfv (a:Act) (x:Option Tmp) (v:Value):(a.put x v).defers=a.defers:=by cases x<;>rfl
def Env.goes (E:Env) (P:Program) (k:Nat) (o:Oper) (A:Act) (w:World) (V:Value→World→Prop):Prop:=
 match E.sp k with
 |none=>za8 P o A w (fun v w'=>(V v w'∧E.R0 w w')∧zkt (E.fr k) v w w')
 |some s=>E.J s w→za8 P o A w (fun v w'=>(V v w'∧E.R w w'∧E.J (s+1) w')∧zkt (E.fr k) v w w')
def Env.next (E:Env) (P:Program) (k:Nat) (o:Oper) (A:Act) (w:World):Prop:=
 if Region.wanted o (yielded E.ops A.tmps)=true then
  match E.ks k with
  |none=>(E.sp k=none∧E.fr k=false)∧∃x,∀w',E.R w w'→zli P o A w' x
  |some (.inl x)=>E.goes P k o A w (fun v _=>v=x)
  |some (.inr V)=>E.goes P k o A w V
 else E.sp k=none
structure Env.Along (E:Env) (n k:Nat) (a0:Act) (listed:Array Bool) (A a:Act) (w:World) (L:List (Nat×(World→Prop))):Prop where
 agree:∀t,(∀j,j<n→zho E.ops j=some t→j<k∧listed.getD j false=true)→a.tmps.getD t undef=A.tmps.getD t undef
 size:a.tmps.size=a0.tmps.size
 defers:a.defers=a0.defers
 facts:∀p∈L,p.1<k∧(listed.getD p.1 false=true→∀w',E.R w w'→p.2 w')
theorem Env.Along.looks {k:Nat} {a:Act} {L:List (Nat×(World→Prop))} (G:E.Laws n N) (al:E.Along n k a0 listed A a w L) {o:Oper} (hk:k<n) (ho:E.ops[k]?=some o)
 (hb:∀j,(E.bef.getD k 0).testBit j=true→listed.getD j false=true):∀t∈o.looksAt E.ops,a.tmps.getD t undef=A.tmps.getD t undef:=fun t ht=>
 al.agree t fun j hj hd=>by
  obtain⟨h1,h2⟩:=zgt G hk ho ht hj hd;exact⟨h2,hb j h1⟩
theorem Env.Along.facts_at {k:Nat} {a:Act} {L:List (Nat×(World→Prop))} (al:E.Along n k a0 listed A a w L) {b:Nat} (hb:∀j,b.testBit j=true→listed.getD j false=true)
 {w':World} (hr:E.R w w'):zfo b L w':=fun p hp ht=>(al.facts p hp).2 (hb _ ht) w' hr
theorem Env.Along.step {k:Nat} {a:Act} {L:List (Nat×(World→Prop))} (G:E.Laws n N) (hN:a0.tmps.size=N) (al:E.Along n k a0 listed A a w L) {o:Oper} (hk:k<n) (ho:E.ops[k]?=some o) {x:Value}
 (hx:listed.getD k false=true→val A o x) {L':List (Nat×(World→Prop))} (hL:∀p∈L',p∈L∨(p.1=k∧(listed.getD k false=true→∀w',E.R w w'→p.2 w'))):
 E.Along n (k+1) a0 listed A (a.put o.dst x) w L':=by
 refine⟨fun t ht=>?_,by rw[zs4];exact al.size,by rw[zfv];exact al.defers,fun p hp=>?_⟩
 ·by_cases hd:o.dst=some t
  ·obtain⟨_,hl⟩:=ht k hk (by rw[zc4 ho];exact hd);have h1:=List.all_eq_true.1 G.dst k (List.mem_range.2 hk);rw[zc4 ho,hd]at h1;simp only[Bool.and_eq_true,decide_eq_true_eq]at h1;rw[hd,zdk (by rw[al.size,hN];exact h1.1)];exact(hx hl t hd).symm
  ·rw[zbs hd];refine al.agree t fun j hj hdj=>?_
   obtain⟨h1,h2⟩:=ht j hj hdj;refine⟨?_,h2⟩;have:j≠k:=fun e=>hd (by subst e;rw[←zc4 ho];exact hdj)
   omega
 ·rcases hL p hp with h|⟨h1,h2⟩
  ·have:=al.facts p h;exact⟨by omega,this.2⟩
  ·exact⟨by omega,fun hl=>h2 (by rw[←h1];exact hl)⟩
theorem zj5 {k:Nat} {a:Act} {o:Oper} {b:Nat} {L:List (Nat×(World→Prop))} {V:Value→World→Prop} (he:execOp A.eval o=execOp a.eval o) (hr:E.R E.w0 w) (hF:zfo b L w)
 (h:E.asks P k (zfo b L) o a V):E.goes P k o A w V:=by
 unfold Env.asks at h;unfold Env.goes;split<;>rename_i hs<;>simp only[hs]at h
 ·exact zj3 he (h w hr hF)
 ·exact fun hj=>zj3 he (h w hr hj hF)
theorem down {fin:Act→List (Nat×(World→Prop))→Prop} (G:E.Laws n N) (hN:a0.tmps.size=N) (inv:E.Inv P n a0 listed A w):∀(l:List Oper) (k:Nat) (a:Act) (L:List (Nat×(World→Prop))),
 (∀j,j<l.length→l[j]?=E.ops[k+j]?)→k+l.length=n→E.head P fin l k a L→E.Along n k a0 listed A a w L→
 (∀i o,k≤i→i<n→E.ops[i]?=some o→listed.getD i false=false→(∀e∈o.after,Region.binds .any e=true→listed.getD e.on false=true)→E.next P i o A w)∧
 ((∀i,i<n→listed.getD i false=true)→∃a' L',fin a' L'∧E.Along n n a0 listed A a' w L')
 |[],k,a,L,_,hk,h,al=>by
  have:k=n:=by simpa using hk
  subst this;exact⟨fun i o h1 h2=>by omega,fun _=>⟨a,L,h,al⟩⟩
 |o::l,k,a,L,hl,hk,h,al=>by
  have hkn:k<n:=by simp only[List.length_cons]at hk;omega
  have ho:E.ops[k]?=some o:=by simpa using(hl 0 (by simp)).symm
  have hsel:∀cs b,o.op≠.select cs b:=fun cs b=>Region.noSelect_spec G.noSel k o cs b ho
  have hl':∀j,j<l.length→l[j]?=E.ops[k+1+j]?:=fun j hj=>by
   have:=hl (j+1) (by simp;omega);simpa[Nat.add_assoc,Nat.add_comm 1 j]using this
  have hk':k+1+l.length=n:=by simp only[List.length_cons]at hk;omega
  have looks:(∀j,(E.bef.getD k 0).testBit j=true→listed.getD j false=true)→execOp A.eval o=execOp a.eval o∧Region.wanted o (yielded E.ops A.tmps)=Region.wanted o (yielded E.ops a.tmps):=fun hb=>
   ⟨zd9 hsel (al.looks G hkn ho hb),zfd (al.looks G hkn ho hb)⟩
  have main:(listed.getD k false=false→(∀j,(E.bef.getD k 0).testBit j=true→listed.getD j false=true)→E.next P k o A w)∧
   ∃a' L',E.head P fin l (k+1) a' L'∧E.Along n (k+1) a0 listed A a' w L':=by
   simp only[Env.head]at h;by_cases hw:Region.wanted o (yielded E.ops a.tmps)=true
   ·rw[if_pos hw]at h
    have setl:listed.getD k false=true→execOp A.eval o=execOp a.eval o∧Region.wanted o (yielded E.ops A.tmps)=true∧(∀w',E.R w w'→zfo (E.bef.getD k 0) L w'):=fun hlk=>by
     have hb:=zf4 G inv.head hkn ho hlk;obtain⟨h1,h2⟩:=looks hb;exact⟨h1,h2.trans hw,fun w' hr=>al.facts_at hb hr⟩
    cases hks:E.ks k with
    |none=>
     simp only[hks]at h;obtain⟨hsp,x,hx,h⟩:=h;refine⟨fun _ hb=>?_,a.put o.dst x,L,h,al.step G hN hkn ho (fun hlk=>?_) (fun p hp=>.inl hp)⟩
     ·obtain⟨h1,h2⟩:=looks hb;unfold Env.next;rw[if_pos (h2.trans hw),hks];exact⟨hsp,x,fun w' hr=>zdw h1 (hx w' (G.trans _ _ _ inv.r hr) (al.facts_at hb hr))⟩
     ·obtain⟨h1,h2,h3⟩:=setl hlk;have hs:=inv.settled k o hkn ho hlk;unfold Env.settled at hs;rw[if_pos h2,hks]at hs;obtain⟨x',hv,hi⟩:=hs;have:x=x':=zo9 (zdw h1 (hx w inv.r (h3 w (G.refl w)))) (hi w (G.refl w));rw[this];exact hv
    |some q=>
     cases q with
     |inl x=>
      simp only[hks]at h;refine⟨fun _ hb=>?_,a.put o.dst x,L,h.2,al.step G hN hkn ho (fun hlk=>?_) (fun p hp=>.inl hp)⟩
      ·obtain⟨h1,h2⟩:=looks hb;unfold Env.next;rw[if_pos (h2.trans hw),hks];exact zj5 h1 inv.r (al.facts_at hb (G.refl w)) h.1
      ·obtain⟨h1,h2,h3⟩:=setl hlk;have hs:=inv.settled k o hkn ho hlk;unfold Env.settled at hs;rw[if_pos h2,hks]at hs;exact hs
     |inr V=>
      simp only[hks]at h;by_cases hlk:listed.getD k false=true
      ·obtain⟨h1,h2,h3⟩:=setl hlk;have hs:=inv.settled k o hkn ho hlk;unfold Env.settled at hs;rw[if_pos h2,hks]at hs;obtain⟨v,hv,hV⟩:=hs;refine⟨(fun hf=>by rw[hlk]at hf;cases hf),a.put o.dst v,(k,V v)::L,h.2 v,al.step G hN hkn ho (fun _=>hv) (fun p hp=>?_)⟩;rcases List.mem_cons.1 hp with rfl|hp
       ·exact .inr ⟨rfl,fun _ w' hr=>G.keepV k V hks v w w' hr hV⟩
       ·exact .inl hp
      ·refine⟨fun _ hb=>?_,a.put o.dst undef,(k,V undef)::L,h.2 undef,al.step G hN hkn ho (fun h=>absurd h hlk) (fun p hp=>?_)⟩
       ·obtain⟨h1,h2⟩:=looks hb;unfold Env.next;rw[if_pos (h2.trans hw),hks];exact zj5 h1 inv.r (al.facts_at hb (G.refl w)) h.1
       ·rcases List.mem_cons.1 hp with rfl|hp
        ·exact .inr ⟨rfl,fun h=>absurd h hlk⟩
        ·exact .inl hp
   ·rw[if_neg hw]at h;refine⟨fun _ hb=>?_,a.put o.dst undef,L,h.2,al.step G hN hkn ho (fun hlk=>?_) (fun p hp=>.inl hp)⟩
    ·obtain⟨h1,h2⟩:=looks hb;unfold Env.next;rw[if_neg (by rw[h2];exact hw)];exact h.1
    ·obtain⟨h1,h2⟩:=looks (zf4 G inv.head hkn ho hlk);have hs:=inv.settled k o hkn ho hlk;unfold Env.settled at hs;rw[if_neg (by rw[h2];exact hw)]at hs;exact hs
  obtain⟨m1,a',L',h',al'⟩:=main;obtain⟨r1,r2⟩:=down G hN inv l (k+1) a' L' hl' hk' h' al';refine⟨fun i oi hki hin hoi hun hall=>?_,r2⟩;by_cases hik:i=k
  ·subst hik;have:oi=o:=Option.some.inj (hoi.symm.trans ho);subst this;exact m1 hun (zji G inv.head i oi hkn ho hall)
  ·exact r1 i oi (by omega) hin hoi hun hall
theorem Env.Inv.step (G:E.Laws n N) (hN:a0.tmps.size=N) (inv:E.Inv P n a0 listed A w) {i:Nat} {o:Oper} (hin:i<n) (hi:i∈Region.ready .any E.ops listed) (ho:E.ops[i]?=some o) {v:Value} {w':World} (hr:E.R w w') (hnew:zkt (E.fr i) v w w')
 (hset:val (A.put o.dst v) o v→E.settled P i o (A.put o.dst v) w')
 (hj:∃s,(∀k s',k<n→E.sp k=some s'→((listed.setIfInBounds i true).getD k false=true↔s'<s))∧(s=0∨∃k,k<n∧E.sp k=some (s-1))∧E.J s w'):
 E.Inv P n a0 (listed.setIfInBounds i true) (A.put o.dst v) w':=by
 have hsel:∀(k:Nat) (o:Oper),E.ops[k]?=some o→∀cs b,o.op≠.select cs b:=fun k o hk cs b=>Region.noSelect_spec G.noSel k o cs b hk
 have hsz:i<listed.size:=by rw[inv.head.size];exact(Array.getElem?_eq_some_iff.1 ho).1
 have hun:listed.getD i false=false:=getD_both (mem_ready.1 hi).1
 have hdd:∀k d,k<n→k≠i→zho E.ops k=some d→o.dst≠some d:=fun k d hk hki h1 hd'=>by
  have h0:zho E.ops i=some d:=by rw[zc4 ho];exact hd'
  rcases Nat.lt_or_ge k i with hlt|hge
  ·have h2:=List.all_eq_true.1 G.dst i (List.mem_range.2 hin);rw[h0]at h2;simp only[Bool.and_eq_true,decide_eq_true_eq]at h2;have:=List.all_eq_true.1 h2.2 k (List.mem_range.2 hlt);rw[h1]at this;simp at this
  ·have h2:=List.all_eq_true.1 G.dst k (List.mem_range.2 hk);rw[h1]at h2;simp only[Bool.and_eq_true,decide_eq_true_eq]at h2;have:=List.all_eq_true.1 h2.2 i (List.mem_range.2 (by omega));rw[h0]at this;simp at this
 have hown:∀d,zho E.ops i=some d→(A.put o.dst v).tmps.getD d undef=v:=fun d hd=>by
  have h1:=List.all_eq_true.1 G.dst i (List.mem_range.2 hin);rw[hd]at h1;simp only[Bool.and_eq_true,decide_eq_true_eq]at h1;rw[zc4 ho]at hd;rw[hd];exact zdk (by rw[inv.size,hN];exact h1.1)
 refine⟨inv.head.set hi hin,G.trans _ _ _ inv.r hr,by rw[zs4];exact inv.size,by rw[zfv];exact inv.defers,fun t ht=>?_,fun k ok hk hok hl=>?_,fun k d hk hl hf hd g hg=>?_,hj⟩
 ·rw[zbs (by have:=ht i hin;rwa [zc4 ho]at this)];exact inv.same t ht
 ·by_cases hki:k=i
  ·subst hki;have:ok=o:=Option.some.inj (hok.symm.trans ho);subst this;refine hset fun d hd=>?_
   have h1:=List.all_eq_true.1 G.dst k (List.mem_range.2 hk);rw[zc4 ho,hd]at h1;simp only[Bool.and_eq_true,decide_eq_true_eq]at h1;rw[hd];exact zdk (by rw[inv.size,hN];exact h1.1)
  ·have hlk:listed.getD k false=true:=by rwa [getD_set_ne false (Ne.symm hki)]at hl
   have hs:=inv.settled k ok hk hok hlk
   have hno:∀t∈ok.looksAt E.ops,A.tmps.getD t undef=(A.put o.dst v).tmps.getD t undef:=fun t ht=>by
    refine(zbs fun hd=>?_).symm;obtain⟨hb,_⟩:=zgt G hk hok ht hin (by rw[zc4 ho];exact hd);have:=zf4 G inv.head hk hok hlk i hb;rw[hun]at this
    cases this
   have hval:∀x,val A ok x→val (A.put o.dst v) ok x:=fun x hx d hd=>by
    rw[zbs (hdd k d hk hki (by rw[zc4 hok];exact hd))];exact hx d hd
   have he:=zd9 (hsel k ok hok) hno;have hw:=zfd hno;unfold Env.settled at hs⊢;rw[hw];split
   ·rename_i hww
    rw[if_pos hww]at hs
    cases hks:E.ks k with
    |none=>
     simp only[hks]at hs⊢;obtain⟨x,h1,h2⟩:=hs;exact⟨x,hval x h1,fun w1 hr1=>zdw he (h2 w1 (G.trans _ _ _ hr hr1))⟩
    |some q=>
     cases q with
     |inl x=>simp only[hks]at hs⊢;exact hval x hs
     |inr V=>
      simp only[hks]at hs⊢;obtain⟨x,h1,h2⟩:=hs;exact⟨x,hval x h1,G.keepV k V hks x w w' hr h2⟩
   ·rename_i hww
    rw[if_neg hww]at hs;exact hval _ hs
 ·have hgr:=G.grows _ _ hr
  have old:∀k d,k<n→k≠i→(listed.setIfInBounds i true).getD k false=true→zho E.ops k=some d→listed.getD k false=true∧(A.put o.dst v).tmps.getD d undef=A.tmps.getD d undef:=fun k d hk hki hl hd=>
   ⟨by rwa [getD_set_ne false (Ne.symm hki)]at hl,zbs (hdd k d hk hki hd)⟩
  by_cases hki:k=i
  ·subst hki;rw[hown d hd]at hg;obtain⟨h1,h2⟩:=hnew hf g hg;refine⟨h2,fun k' d' hk' hl' hf' hd' hne he=>?_⟩;obtain⟨o1,o2⟩:=old k' d' hk' (Ne.symm hne) hl' hd';rw[o2]at he;have:=(inv.fresh k' d' hk' o1 hf' hd' g he).1;omega
  ·obtain⟨o1,o2⟩:=old k d hk hki hl hd;rw[o2]at hg;obtain⟨h1,h2⟩:=inv.fresh k d hk o1 hf hd g hg;refine⟨by omega,fun k' d' hk' hl' hf' hd' hne he=>?_⟩;by_cases hk'i:k'=i
   ·subst hk'i;rw[hown d' hd']at he;have:=(hnew hf' g he).1;omega
   ·obtain⟨p1,p2⟩:=old k' d' hk' hk'i hl' hd';rw[p2]at he;exact h2 k' d' hk' p1 hf' hd' hne he
theorem sp_at (G:E.Laws n N) (inv:HeadInv .any E.ops n listed) {i s s':Nat} {o:Oper} (hin:i<n) (ho:E.ops[i]?=some o) (hi:i∈Region.ready .any E.ops listed) (hs':E.sp i=some s')
 (h:∀k s',k<n→E.sp k=some s'→(listed.getD k false=true↔s'<s)):s'=s∧∀k s'',k<n→E.sp k=some s''→((listed.setIfInBounds i true).getD k false=true↔s''<s+1):=by
 have hun:listed.getD i false=false:=getD_both (mem_ready.1 hi).1;have hsz:i<listed.size:=by rw[inv.size];exact(Array.getElem?_eq_some_iff.1 ho).1
 have hge:s≤s':=by
  rcases Nat.lt_or_ge s' s with hlt|hge
  ·rw[(h i s' hin hs').2 hlt]at hun;cases hun
  ·exact hge
 have hsp:=fun k hk=>List.all_eq_true.1 G.sp k (List.mem_range.2 hk)
 have hle:s'≤s:=by
  have h1:=hsp i hin;rw[hs']at h1;simp only[Bool.and_eq_true,Bool.or_eq_true,beq_iff_eq]at h1;rcases h1.1 with h1|h1
  ·omega
  ·obtain⟨j,hj,hj2⟩:=List.any_eq_true.1 h1;simp only[Bool.and_eq_true,beq_iff_eq]at hj2;have hji:j<i:=List.mem_range.1 hj;obtain⟨_,o',ho',hall⟩:=mem_ready.1 hi;have:o'=o:=Option.some.inj (ho'.symm.trans ho);subst this;have hl:=zji G inv i o' hin ho hall j hj2.2;have:=(h j (s'-1) (by omega) hj2.1).1 hl;omega
 refine⟨by omega,fun k s'' hk hs''=>?_⟩;have heq:s'=s:=by omega
 subst heq;by_cases hki:k=i
 ·subst hki;rw[hs']at hs'';have:s'=s'':=Option.some.inj hs'';subst this;simp[hsz]
 ·rw[getD_set_ne false (Ne.symm hki),h k s'' hk hs'']
  have hne:s''≠s':=by
   rintro rfl;rcases Nat.lt_or_ge k i with hlt|hge2
   ·have h1:=hsp i hin;rw[hs']at h1;simp only[Bool.and_eq_true]at h1;have:=List.all_eq_true.1 h1.2 k (List.mem_range.2 hlt);simp[hs'']at this
   ·have h1:=hsp k hk;rw[hs'']at h1;simp only[Bool.and_eq_true]at h1;have:=List.all_eq_true.1 h1.2 i (List.mem_range.2 (by omega));simp[hs']at this
  omega
theorem zio (inv:HeadInv .any E.ops n listed) {i s:Nat} {o:Oper} (ho:E.ops[i]?=some o) (hs':E.sp i=none)
 (h:∀k s',k<n→E.sp k=some s'→(listed.getD k false=true↔s'<s)):∀k s'',k<n→E.sp k=some s''→((listed.setIfInBounds i true).getD k false=true↔s''<s):=fun k s'' hk hs''=>by
 have hsz:i<listed.size:=by rw[inv.size];exact(Array.getElem?_eq_some_iff.1 ho).1
 have:i≠k:=fun e=>by subst e;rw[hs']at hs'';cases hs''
 rw[getD_set_ne false this];exact h k s'' hk hs''
theorem zj6 (G:E.Laws n N) (hN:a0.tmps.size=N) (inv:E.Inv P n a0 listed A w) {i:Nat} {o:Oper} (hin:i<n) (hi:i∈Region.ready .any E.ops listed) (ho:E.ops[i]?=some o) (h:E.next P i o A w)
 {K:Act→World→Prop} {Q:Exit→Act→World→Prop} (hK:∀A' w',E.Inv P n a0 (listed.setIfInBounds i true) A' w'→K A' w'):wpOp P E.ops Q i K A w:=by
 have hsel:∀cs b,o.op≠.select cs b:=fun cs b=>Region.noSelect_spec G.noSel i o cs b ho
 have hun:listed.getD i false=false:=getD_both (mem_ready.1 hi).1;obtain⟨s,hs,hz,hJ⟩:=inv.j
 have hself:∀v,∀t∈o.looksAt E.ops,A.tmps.getD t undef=(A.put o.dst v).tmps.getD t undef:=fun v t ht=>by
  refine(zbs fun hd=>?_).symm;obtain⟨_,hlt⟩:=zgt G hin ho ht hin (by rw[zc4 ho];exact hd);omega
 unfold wpOp;simp only[ho];unfold Env.next at h;by_cases hw:Region.wanted o (yielded E.ops A.tmps)=true
 ·rw[if_pos hw]at h;simp only[hw,if_true];have hw':∀v,Region.wanted o (yielded E.ops (A.put o.dst v).tmps)=true:=fun v=>(zfd (hself v)).trans hw
  have two:∀V:Value→World→Prop,(∀v w',V v w'→val (A.put o.dst v) o v→E.settled P i o (A.put o.dst v) w')→E.goes P i o A w V→o.wp P A w K Q:=fun V hset hg=>by
   unfold Env.goes at hg
   cases hsp:E.sp i with
   |none=>
    simp only[hsp]at hg;refine zgs hg fun v w' ⟨⟨h1,h2⟩,hnw⟩=>hK _ _ (inv.step G hN hin hi ho (G.sub _ _ h2) hnw (hset v w' h1) ⟨s,zio inv.head ho hsp hs,hz,G.keepJ _ _ _ h2 hJ⟩)
   |some s'=>
    simp only[hsp]at hg;obtain⟨rfl,hall⟩:=sp_at G inv.head hin ho hi hsp hs;exact zgs (hg hJ) fun v w' ⟨⟨h1,h2,h3⟩,hnw⟩=>hK _ _ (inv.step G hN hin hi ho h2 hnw (hset v w' h1) ⟨s'+1,hall,.inr ⟨i,hin,by simpa using hsp⟩,h3⟩)
  cases hks:E.ks i with
  |none=>
   simp only[hks]at h;obtain⟨⟨hsp,hfr⟩,x,hx⟩:=h;refine .inl (zgs (zlj (S:=fun v w'=>v=x∧w'=w) (hx w (G.refl w)) ⟨rfl,rfl⟩) fun v w' ⟨hv,hww⟩=>?_);subst hv hww;refine hK _ _ (inv.step G hN hin hi ho (G.refl _) (fun h=>by rw[hfr]at h;cases h) (fun hv=>?_) ⟨s,zio inv.head ho hsp hs,hz,hJ⟩);unfold Env.settled;rw[if_pos (hw' v),hks];exact⟨v,hv,fun w1 hr=>zdw (zd9 hsel (hself v)) (hx w1 hr)⟩
  |some q=>
   cases q with
   |inl x=>
    simp only[hks]at h;refine .inl (two _ (fun v w' hV hv=>?_) h);unfold Env.settled;rw[if_pos (hw' v),hks];subst hV;exact hv
   |inr V=>
    simp only[hks]at h;refine .inl (two _ (fun v w' hV hv=>?_) h);unfold Env.settled;rw[if_pos (hw' v),hks];exact⟨v,hv,hV⟩
 ·rw[if_neg hw]at h;simp only[hw];refine hK _ _ (inv.step G hN hin hi ho (G.refl _) (fun _ g hg=>by simp[zt3,undef]at hg) (fun hv=>?_) ⟨s,zio inv.head ho h hs,hz,hJ⟩);unfold Env.settled;rw[if_neg (by rw[zfd (hself undef)];exact hw)];exact hv
def zb1 (listed:Array Bool) (n:Nat):Nat:=((List.range n).filter fun i=>!listed.getD i false).length
theorem zdh {listed:Array Bool} {i:Nat} (hs:i<listed.size) (hun:listed.getD i false=false):∀n,zb1 (listed.setIfInBounds i true) n+(if i<n then 1 else 0)=zb1 listed n
 |0=>by simp[zb1]
 |n+1=>by
  have ih:=zdh hs hun n;unfold zb1 at *;rw[List.range_succ,List.filter_append,List.filter_append,List.length_append,List.length_append];by_cases hin:i=n
  ·subst hin;have h1:(listed.setIfInBounds i true).getD i false=true:=by simp[hs]
   simp only[Nat.lt_irrefl,if_false,Nat.add_zero]at ih;simp only[ih,List.filter_cons,h1,hun,List.filter_nil];simp
  ·have h1:(listed.setIfInBounds i true).getD n false=listed.getD n false:=getD_set_ne false hin;have h2:(i<n+1)=(i<n):=by apply propext;omega
   simp only[List.filter_cons,h1,List.filter_nil,h2];omega
theorem zip {listed:Array Bool}:∀{n:Nat},zb1 listed n=0→∀i,i<n→listed.getD i false=true:=fun{n} h i hi=>by
 unfold zb1 at h;have h1:=List.eq_nil_of_length_eq_zero h;have:=List.filter_eq_nil_iff.1 h1 i (List.mem_range.2 hi);simpa using this
theorem zj7 {listed:Array Bool} {n f:Nat} (h:zb1 listed n=f+1):∃i,i<n∧listed.getD i false=false:=by
 unfold zb1 at h;match hl:(List.range n).filter (fun i=>!listed.getD i false),h with
 |i::_,_=>
  have:i∈(List.range n).filter (fun i=>!listed.getD i false):=by rw[hl];simp
  rw[List.mem_filter]at this;exact⟨i,List.mem_range.1 this.1,by simpa using this.2⟩
theorem zm7 (G:E.Laws n N) (inv:HeadInv .any E.ops n listed) (hn:n≤E.ops.size):∀i,i<n→listed.getD i false=false→Region.ready .any E.ops listed≠[]:=by
 intro i;induction i using Nat.strongRecOn with
 |_ i ih=>
  intro hi hun hnil;have hlt:i<E.ops.size:=by omega
  have ho:E.ops[i]?=some E.ops[i]:=Array.getElem?_eq_getElem hlt;by_cases hall:∀e∈(E.ops[i]).after,Region.binds .any e=true→listed.getD e.on false=true
  ·have:i∈Region.ready .any E.ops listed:=mem_ready.2 ⟨getD_in (by rw[inv.size];exact hlt) hun,_,ho,hall⟩;rw[hnil]at this
   cases this
  ·simp only[Classical.not_forall]at hall;obtain⟨e,he,hb,hl⟩:=hall;have hek:=zlk G hi ho he hb;exact ih e.on hek (by omega) (by simpa using hl) hnil
def zny (n m:Nat):Array Bool:=((List.range m).map fun i=>decide (i<n)).toArray
theorem zj8 (inv:HeadInv .any E.ops n listed) (h:∀i,i<n→listed.getD i false=true):listed=zny n E.ops.size:=by
 apply Array.ext
 ·simp[zny,inv.size]
 ·intro i h1 h2;have h3:i<E.ops.size:=by rw[←inv.size];exact h1
  simp only[zny,List.getElem_toArray,List.getElem_map,List.getElem_range];rcases Nat.lt_or_ge i n with hlt|hge
  ·have:=h i hlt;simp[h1]at this;simp[this,hlt]
  ·have:=inv.tail i hge h3;simp[h1]at this;simp[this];omega
theorem zwf {a b:Act} (hs:a.tmps.size=b.tmps.size) (hd:a.defers=b.defers) (h:∀t,a.tmps.getD t undef=b.tmps.getD t undef):a=b:=by
 obtain⟨at_,ad⟩:=a;obtain⟨bt,bd⟩:=b;simp only at hs hd h;subst hd;congr 1;apply Array.ext hs
 intro i h1 h2;have:=h i;simpa[h1,h2]using this
def sinkP (pre:List Nat) (ops:Array Oper) (n:Nat):Bool:=
 (List.range n).all fun i=>pre.contains i||(List.range (n+1)).any fun j=>decide (i<j)&&Region.waitsFor .any ops j i
def zpa (pre:List Nat) (ops:Array Oper) (n:Nat):Bool:=
 decide (n=ops.size)||(decide (n<ops.size)&&sinkP pre ops n&&Region.chainB .any ops n&&Region.seqB .any ops (ops.size-n) n (zny n ops.size))
theorem zra {pre:List Nat} {ops:Array Oper} (hs:sinkP pre ops n=true) (hc:Region.chainB .any ops n=true) (hn:n<ops.size) (inv:HeadInv .any ops n listed) (hp:∀i∈pre,listed.getD i false=true):
 ∀(d i:Nat),n-i=d→i<n→listed.getD i true=false→∀t,n≤t→t∉Region.ready .any ops listed:=by
 intro d;induction d using Nat.strongRecOn with
 |_ d ih=>
  intro i hd hi hun t ht hr;obtain⟨_,ot,hot,hall⟩:=mem_ready.1 hr;have htlt:t<ops.size:=(Array.getElem?_eq_some_iff.1 hot).1;by_cases htn:t=n
  ·subst htn;have h1:=List.all_eq_true.1 hs i (List.mem_range.2 hi);simp only[Bool.or_eq_true]at h1;rcases h1 with h1|h1
   ·have:=hp i (by simpa using h1);rw[getD_both hun]at this
    cases this
   obtain⟨j,hj,hj2⟩:=List.any_eq_true.1 h1;simp only[Bool.and_eq_true,decide_eq_true_eq]at hj2;obtain⟨oj,hoj,e,he,hb,hon⟩:=Region.waitsFor_spec hj2.2;have hjle:j≤t:=by have:=List.mem_range.1 hj;omega
   by_cases hjt:j=t
   ·subst hjt;have:oj=ot:=Option.some.inj (hoj.symm.trans hot);subst this;have h2:=hall e he hb;rw[hon,getD_both hun]at h2
    cases h2
   ·cases hl:listed.getD j false with
    |true=>
     have h2:=inv.closed j oj hoj hl e he hb;rw[hon,getD_both hun]at h2
     cases h2
    |false=>
     have hjs:j<listed.size:=by rw[inv.size];omega
     exact ih (t-j) (by omega) j rfl (by omega) (getD_in hjs hl) t (Nat.le_refl _) hr
  ·have h1:=List.all_eq_true.1 hc t (List.mem_range.2 htlt);simp only[Bool.or_eq_true,decide_eq_true_eq]at h1;rcases h1 with h1|h1
   ·omega
   ·obtain⟨o',ho',e,he,hb,hon⟩:=Region.waitsFor_spec h1;have:o'=ot:=Option.some.inj (ho'.symm.trans hot);subst this;have h2:=hall e he hb;rw[hon,getD_both (inv.tail (t-1) (by omega) (by omega))]at h2
    cases h2
def Env.apart (E:Env) (n:Nat) (a':Act):Prop:=
 ∀k k' d d',k<n→k'<n→E.fr k=true→E.fr k'=true→k≠k'→zho E.ops k=some d→zho E.ops k'=some d'→∀g,zt3 (a'.tmps.getD d undef)=some g→zt3 (a'.tmps.getD d' undef)≠some g
theorem zt4 {Q:Exit→Act→World→Prop} {l:List Oper} {m:Nat} (pre:List Nat) (hE:E.ops=l.toArray) (G:E.Laws n N) (hN:a0.tmps.size=N) (hn:n≤l.length) (ht:zpa pre E.ops n=true)
 (hm:(∀k s',k<n→E.sp k=some s'→s'<m)∧(m=0∨∃k,k<n∧E.sp k=some (m-1)))
 (h:E.head P (fun a' L=>∀w',E.R E.w0 w'→E.J m w'→(∀p∈L,p.2 w')→E.apart n a'→wpList P E.ops Q (l.drop n) a' w') (l.take n) 0 a0 []):
 ∀(f:Nat) (listed:Array Bool) (A:Act) (w:World),E.Inv P n a0 listed A w→(∀i∈pre,listed.getD i false=true)→zb1 listed n=f→wpAny P .any E.ops Q (f+(l.length-n)) listed A w:=by
 have hsz:E.ops.size=l.length:=by rw[hE];simp
 have htl:(l.take n).length=n:=by simp;omega
 intro f;induction f with
 |zero=>
  intro listed A w inv _ hf;have hall:=zip hf
  obtain⟨_,h2⟩:=down G hN inv (l.take n) 0 a0 [] (fun j hj=>by
   have hj':j<n:=by rw[htl]at hj;exact hj
   simp[hE,hj']) (by simpa using htl) h ⟨fun t ht=>(inv.same t fun j hj hd=>by have:=(ht j hj hd).1;omega).symm,rfl,rfl,fun p hp=>by cases hp⟩
  obtain⟨a',L',hfin,al⟩:=h2 hall;have hA:a'=A:=zwf (al.size.trans inv.size.symm) (al.defers.trans inv.defers.symm) (fun t=>al.agree t fun j hj _=>⟨hj,hall j hj⟩);subst hA;obtain⟨s,hs,hz,hJ⟩:=inv.j
  have hsm:s=m:=by
   rcases hz with rfl|⟨k,hk,hsk⟩
   ·rcases hm.2 with h0|⟨k,hk,hsk⟩
    ·exact h0.symm
    ·have:=(hs k _ hk hsk).1 (hall k hk);omega
   ·have h1:=hm.1 k _ hk hsk;have h3:=(hs k _ hk hsk).1 (hall k hk)
    rcases hm.2 with h0|⟨k',hk',hsk'⟩
    ·omega
    ·have:=(hs k' _ hk' hsk').1 (hall k' hk');omega
  subst hsm;have hlast:=hfin w inv.r hJ (fun p hp=>(al.facts p hp).2 (hall _ (al.facts p hp).1) w (G.refl w)) (fun k k' d d' hk hk' hf hf' hne hd hd' g hg=>(inv.fresh k d hk (hall k hk) hf hd g hg).2 k' d' hk' (hall k' hk') hf' hd' hne);have hdl:(l.drop n).length=l.length-n:=by simp
  rw[Nat.zero_add,←hdl];refine wpAny_of_seq (l.drop n) n listed a' w (fun j=>by simp[hE,List.getElem?_drop]) ?_ hlast;rw[zj8 inv.head hall,hdl,hsz];simp only[zpa,Bool.or_eq_true,Bool.and_eq_true,decide_eq_true_eq]at ht;rcases ht with ht|ht
  ·rw[show l.length-n=0 by omega];simp only[Region.seqB,List.isEmpty_iff];match hr:Region.ready .any E.ops (zny n l.length)with
   |[]=>rfl
   |i::_=>
    have hi:i∈Region.ready .any E.ops (zny n l.length):=by rw[hr];simp
    obtain⟨h1,o,ho,_⟩:=mem_ready.1 hi;have hlt:=(Array.getElem?_eq_some_iff.1 ho).1
    have:(zny n l.length).getD i true=true:=by
     have:i<l.length:=by omega
     simp[zny,this];omega
    rw[this]at h1
    cases h1
  ·have:=ht.2;rwa [hsz]at this
 |succ f ih=>
  intro listed A w inv hp hf;obtain⟨i0,hi0,hun0⟩:=zj7 hf;have hne:=zm7 G inv.head (by omega) i0 hi0 hun0;rw[show f+1+(l.length-n)=(f+(l.length-n))+1 by omega];refine⟨fun h0=>absurd h0 hne,fun i hi=>?_⟩;obtain⟨hun,o,ho,hall⟩:=mem_ready.1 hi
  have hin:i<n:=by
   rcases Nat.lt_or_ge i n with hlt|hge
   ·exact hlt
   ·simp only[zpa,Bool.or_eq_true,Bool.and_eq_true,decide_eq_true_eq]at ht;rcases ht with ht|ht
    ·have:=(Array.getElem?_eq_some_iff.1 ho).1;omega
    ·exact absurd hi (zra ht.1.1.2 ht.1.2 ht.1.1.1 inv.head hp (n-i0) i0 rfl hi0 (getD_in (by rw[inv.head.size];omega) hun0) i hge)
  have hun':=getD_both hun
  obtain⟨h1,_⟩:=down G hN inv (l.take n) 0 a0 [] (fun j hj=>by
   have hj':j<n:=by rw[htl]at hj;exact hj
   simp[hE,hj']) (by simpa using htl) h ⟨fun t ht=>(inv.same t fun j hj hd=>by have:=(ht j hj hd).1;omega).symm,rfl,rfl,fun p hp=>by cases hp⟩
  have hnext:=h1 i o (Nat.zero_le _) hin ho hun' hall;refine zj6 G hN inv hin hi ho hnext fun A' w' inv'=>ih _ A' w' inv' (fun j hj=>getD_set_true (hp j hj)) ?_
  have:=zdh (i:=i) (by rw[inv.head.size];exact(Array.getElem?_eq_some_iff.1 ho).1) hun' n;rw[if_pos hin]at this;omega
end
theorem zf5 (m n:Nat):zb1 (Array.replicate m false) n=n:=by
 unfold zb1;rw[List.filter_eq_self.2 (fun i _=>by rw[getD_replicate_false];rfl)];simp
def moved:Op→Option Operand
 | .move x| .assign x=>some x
 |_=>none
def zrb (ops:Array Oper) (bef:Array Nat) (sp:Nat→Option Nat) (n:Nat):List Nat→Array Bool→Bool
 |[],_=>true
 |i::r,listed=>decide (i<n)&&(sp i).isNone&&(match ops[i]? with
  |some o=>o.guard.isNone&&(moved o.op).isSome
  |none=>false)&&Region.free .any ops listed i&&(Region.ready .any ops listed).contains i&&zrb ops bef sp n r (listed.setIfInBounds i true)
theorem zs5 {E:Env} {n N:Nat} {a0:Act} {Q:Exit→Act→World→Prop} (G:E.Laws n N) (hN:a0.tmps.size=N) (hQ:∀d v c a w,Q (.panic c) (a.put d v) w→Q (.panic c) a w) (hpf:∀i,E.ks i=none→E.fr i=false):
 ∀(pre:List Nat) (fuel:Nat) (listed:Array Bool) (A:Act) (w:World),zrb E.ops E.bef E.sp n pre listed=true→(∀i∈pre,E.ks i=none)→E.Inv P n a0 listed A w→zb1 listed n=fuel+pre.length→
 (∀listed' A',E.Inv P n a0 listed' A' w→(∀i,(i∈pre∨listed.getD i false=true)→listed'.getD i false=true)→zb1 listed' n=fuel→∀g,g=fuel+(E.ops.size-n)→wpAny P .any E.ops Q g listed' A' w)→
 wpAny P .any E.ops Q (fuel+pre.length+(E.ops.size-n)) listed A w
 |[],fuel,listed,A,w,_,_,inv,hu,h=>h listed A inv (fun i hi=>by rcases hi with hi|hi;cases hi;exact hi) (by simpa using hu) _ (by simp)
 |i::r,fuel,listed,A,w,hp,hk,inv,hu,h=>by
  simp only[zrb,Bool.and_eq_true,decide_eq_true_eq]at hp;obtain⟨⟨⟨⟨⟨hin,hsp⟩,hm⟩,hf⟩,hr⟩,hrest⟩:=hp;have hi:i∈Region.ready .any E.ops listed:=by simpa using hr
  obtain⟨hun,o,ho,hall⟩:=mem_ready.1 hi;simp only[ho,Bool.and_eq_true]at hm;have hsp':E.sp i=none:=by simpa using hsp
  have hgd:o.guard=none:=by simpa using hm.1
  obtain⟨x,hx⟩:=Option.isSome_iff_exists.1 hm.2
  have hrun:∀(a:Act) (w':World),(execOp a.eval o).run P w'=.ok (.value (a.eval x)) w':=fun a w'=>by
   unfold moved at hx;split at hx<;>simp at hx<;>(subst hx;unfold execOp;rename_i hop;rw[hop];rfl)
  have hw:∀a:Act,Region.wanted o (yielded E.ops a.tmps)=true:=fun a=>by simp[Region.wanted,hgd]
  have hsel:∀cs b,o.op≠.select cs b:=fun cs b=>Region.noSelect_spec G.noSel i o cs b ho
  have hself:∀v,∀t∈o.looksAt E.ops,A.tmps.getD t undef=(A.put o.dst v).tmps.getD t undef:=fun v t ht=>by
   refine(zbs fun hd=>?_).symm;obtain⟨_,hlt⟩:=zgt G hin ho ht hin (by rw[zc4 ho];exact hd);omega
  have inv':E.Inv P n a0 (listed.setIfInBounds i true) (A.put o.dst (A.eval x)) w:=by
   obtain⟨s,hs,hz,hJ⟩:=inv.j;refine inv.step G hN hin hi ho (G.refl _) (fun h=>by rw[hpf i (hk i (by simp))]at h;cases h) (fun hv=>?_) ⟨s,zio inv.head ho hsp' hs,hz,hJ⟩;unfold Env.settled;rw[if_pos (hw _),hk i (by simp)];exact⟨_,hv,fun w1 _=>zdw (zd9 hsel (hself _)) (.inl (hrun A w1))⟩
  have hu':zb1 (listed.setIfInBounds i true) n=fuel+r.length:=by
   have:=zdh (i:=i) (by rw[inv.head.size];exact(Array.getElem?_eq_some_iff.1 ho).1) (getD_both hun) n;rw[if_pos hin,hu]at this;simp only[List.length_cons]at this;omega
  have hlt:i<listed.size:=by rw[inv.head.size];exact(Array.getElem?_eq_some_iff.1 ho).1
  have rec_:=zs5 G hN hQ hpf r fuel (listed.setIfInBounds i true) (A.put o.dst (A.eval x)) w hrest (fun j hj=>hk j (by simp[hj])) inv' hu' (fun listed' A' inv'' hl=>h listed' A' inv'' (fun j hj=>by
   rcases hj with hj|hj
   ·rcases List.mem_cons.1 hj with rfl|hj
    ·exact hl j (.inr (by simp[hlt]))
    ·exact hl j (.inl hj)
   ·exact hl j (.inr (getD_set_true hj))))
  rw[show fuel+(i::r).length+(E.ops.size-n)=(fuel+r.length+(E.ops.size-n))+1 by simp only[List.length_cons];omega];exact wpAny_take ho G.noSel hf hr (fun c a w=>hQ _ _ c a w) (.inl ⟨hw _,fun w'=>hrun A w'⟩) rec_
theorem zf6 {E:Env} {id:Nat} {Q:Exit→Act→World→Prop} {a:Act} {w:World} {l:List Oper} {n N m:Nat} (pre:List Nat) (hm:P.follows .mixedOrders=true) (hE:E.ops=l.toArray) (hw:E.w0={w with drawn:=w.drawn+1}) (G:E.Laws n N) (hN:a.tmps.size=N) (hn:n≤l.length) (ht:zpa pre E.ops n=true)
 (hp:zrb E.ops E.bef E.sp n pre (Array.replicate l.length false)=true) (hpk:∀i∈pre,E.ks i=none) (hpf:∀i,E.ks i=none→E.fr i=false) (hQ:∀d v c a w,Q (.panic c) (a.put d v) w→Q (.panic c) a w)
 (hsp:(∀k s',k<n→E.sp k=some s'→s'<m)∧(m=0∨∃k,k<n∧E.sp k=some (m-1))) (hJ:E.J 0 E.w0)
 (h:E.head P (fun a' L=>∀w',E.R E.w0 w'→E.J m w'→(∀p∈L,p.2 w')→E.apart n a'→wpList P E.ops Q (l.drop n) a' w') (l.take n) 0 a []):(Code.region id l.toArray true).wp P Q a w:=by
 have hsz:E.ops.size=l.length:=by rw[hE];simp
 refine wp_region_any hm ?_;rw[←hE,←hw,hsz]
 have inv0:E.Inv P n a (Array.replicate l.length false) a E.w0:=
  ⟨⟨by simp[hsz],fun j oj _ hl=>(by rw[getD_replicate_false]at hl;cases hl),fun t _ ht=>getD_in (by simp;omega) (getD_replicate_false _ _)⟩,G.refl _,rfl,rfl,fun _ _=>rfl,fun k o _ _ hl=>(by rw[getD_replicate_false]at hl;cases hl),fun k d _ hl=>(by rw[getD_replicate_false]at hl;cases hl),⟨0,fun k s' _ _=>(by rw[getD_replicate_false];simp),.inl rfl,hJ⟩⟩
 have hlen:pre.length≤n:=by
  have:∀(pre:List Nat) (listed:Array Bool),listed.size=l.length→zrb E.ops E.bef E.sp n pre listed=true→pre.length≤zb1 listed n:=by
   intro pre;induction pre with
   |nil=>intro _ _ _;simp
   |cons i r ih=>
    intro listed hls hp;simp only[zrb,Bool.and_eq_true,decide_eq_true_eq]at hp;obtain⟨⟨⟨⟨⟨hin,_⟩,_⟩,_⟩,hr⟩,hrest⟩:=hp;have hi:i∈Region.ready .any E.ops listed:=by simpa using hr
    obtain⟨hun,o,ho,_⟩:=mem_ready.1 hi;have h1:=ih (listed.setIfInBounds i true) (by simp[hls]) hrest;have h2:=zdh (i:=i) (by rw[hls,←hsz];exact(Array.getElem?_eq_some_iff.1 ho).1) (getD_both hun) n;rw[if_pos hin]at h2;simp only[List.length_cons];omega
  have:=this pre _ (by simp) hp;rwa [zf5]at this
 have:=zs5 (Q:=Q) G hN hQ hpf pre (n-pre.length) (Array.replicate l.length false) a E.w0 hp hpk inv0 (by rw[zf5];omega) (fun listed' A' inv' hl hu g hg=>by
  have h1:=zt4 pre hE G hN hn ht hsp h (n-pre.length) listed' A' E.w0 inv' (fun i hi=>hl i (.inl hi)) hu;rw[hg,hsz]
  exact h1)
 rw[hsz]at this;rwa [show n-pre.length+pre.length+(l.length-n)=l.length by omega]at this
end
section
variable {P:Program} {E:Env} {fin:Act→List (Nat×(World→Prop))→Prop} {o:Oper} {rest:List Oper} {k:Nat} {a:Act} {L:List (Nat×(World→Prop))}
structure Within (R:World→World→Prop) (w0:World) (b:Nat) (L:List (Nat×(World→Prop))) where
 w:World
 hr:R w0 w
 hf:zfo b L w
def zgu:Op→Bool
 | .call {callee:=.builtin b,..}=>match b with
  | .len| .cap| .append| .copy| .min| .max| .delete=>true
  |_=>false
 | .call _| .go _| .defer _| .send .. | .recv .. | .select .. =>false
 |_=>true
def zbx:Result Next→Prop
 | .ok (.value _) _| .ok .skip _| .halt _ _=>True
 |_=>False
theorem zs6 (s:Sem Value) (w:World):zbx ((do pure (.value (←s)):Sem Next).run P w):=by
 rw[Sem.run_bind]
 cases s.run P w<;>simp[Result.andThen,zbx]
theorem leaves_u (s:Sem Unit) (w:World):zbx ((do s;pure .skip:Sem Next).run P w):=by
 rw[Sem.run_bind]
 cases s.run P w<;>simp[Result.andThen,zbx]
theorem zf7 {α:Type} (s:Sem α) (f:α→Sem Next) (w:World) (h:∀x w',zbx ((f x).run P w')):zbx ((s>>=f).run P w):=by
 rw[Sem.run_bind]
 cases s.run P w with
 |ok x w'=>exact h x w'
 |halt x w'=>trivial
theorem zpb (ρ:Operand→Value) (h:zgu o.op=true) (w:World):zbx ((execOp ρ o).run P w):=by
 obtain⟨dst,op,type,pos,after,guard⟩:=o
 cases op<;>simp only[zgu]at h<;>simp only[execOp]<;>first
  |exact zs6 _ w
  |exact leaves_u _ w
  |trivial
  |skip
 case pick c x y=>exact zf7 _ _ w (fun _ _=>by split<;>trivial)
 case nilCheck x=>
  split
  ·simp[runtimePanic,zbx]
  ·simp[runtimePanic,zbx]
  ·simp[runtimePanic,zbx]
  ·split
   ·simp[runtimePanic,zbx]
   ·refine zf7 _ _ w (fun _ _=>zf7 _ _ _ (fun _ _=>?_));split
    ·exact zf7 _ _ _ (fun _ _=>trivial)
    ·trivial
   ·trivial
  ·trivial
 case call c=>
  obtain⟨callee,args,argTypes⟩:=c
  cases callee with
  |value f=>cases h
  |invoke r m=>cases h
  |builtin b=>cases b<;>first|exact zs6 _ w|cases h
theorem zmk (hp:zgu o.op=true) {C:World→Prop} {w:World} {x:Value} (h:o.quietAt P a C w x):zli P o a w x:=by
 have hl:=zpb (P:=P) (o:=o) a.eval hp w;unfold Oper.quietAt at h;unfold zli;generalize(execOp a.eval o).run P w=r at *
 cases r with
 |ok n w'=>
  cases n<;>simp only[zbx]at hl<;>simp only[Oper.quietUpon]at h
  ·obtain⟨rfl,rfl⟩:=h;exact .inl rfl
  ·obtain⟨rfl,rfl⟩:=h;exact .inr ⟨rfl,rfl⟩
 |halt x w'=>simp only[Oper.quietUpon]at h
theorem znz (hw:Region.wanted o (yielded E.ops a.tmps)=true) (hk:E.ks k=none) (hs:E.sp k=none) (hf:E.fr k=false) (hp:zgu o.op=true)
 (h:∀K:Act→Prop,(∀a',E.head P fin rest (k+1) a' L→K a')→o.quiet P a (fun w'=>∃p:Within E.R E.w0 (E.bef.getD k 0) L,w'=p.w) K):E.head P fin (o::rest) k a L:=by
 obtain⟨x,h1,h2⟩:=h _ (fun _ h=>h);simp only[Env.head];rw[if_pos hw,hk];exact⟨⟨hs,hf⟩,x,fun w hr hf=>zmk hp (h1 w ⟨⟨w,hr,hf⟩,rfl⟩),h2⟩
theorem zwg (hw:Region.wanted o (yielded E.ops a.tmps)=false) (hs:E.sp k=none) (h:E.head P fin rest (k+1) (a.put o.dst undef) L):E.head P fin (o::rest) k a L:=by
 simp only[Env.head];rw[if_neg (by rw[hw];exact Bool.false_ne_true)];exact⟨hs,h⟩
theorem zs7 (x:Value) (hw:Region.wanted o (yielded E.ops a.tmps)=true) (hk:E.ks k=some (.inl x)) (hs:E.sp k=none)
 (h:∀w,E.R E.w0 w→zfo (E.bef.getD k 0) L w→za8 P o a w (fun v w'=>(v=x∧E.R0 w w')∧zkt (E.fr k) v w w')) (h2:E.head P fin rest (k+1) (a.put o.dst x) L):E.head P fin (o::rest) k a L:=by
 simp only[Env.head];rw[if_pos hw,hk];refine⟨?_,h2⟩;unfold Env.asks;rw[hs];exact h
theorem zll (x:Value) (s:Nat) (hw:Region.wanted o (yielded E.ops a.tmps)=true) (hk:E.ks k=some (.inl x)) (hs:E.sp k=some s)
 (h:∀w,E.R E.w0 w→E.J s w→zfo (E.bef.getD k 0) L w→za8 P o a w (fun v w'=>(v=x∧E.R w w'∧E.J (s+1) w')∧zkt (E.fr k) v w w')) (h2:E.head P fin rest (k+1) (a.put o.dst x) L):E.head P fin (o::rest) k a L:=by
 simp only[Env.head];rw[if_pos hw,hk];refine⟨?_,h2⟩;unfold Env.asks;rw[hs];exact h
theorem zjj (V:Value→World→Prop) (hw:Region.wanted o (yielded E.ops a.tmps)=true) (hk:E.ks k=some (.inr V)) (hs:E.sp k=none)
 (h:∀w,E.R E.w0 w→zfo (E.bef.getD k 0) L w→za8 P o a w (fun v w'=>(V v w'∧E.R0 w w')∧zkt (E.fr k) v w w')) (h2:∀v,E.head P fin rest (k+1) (a.put o.dst v) ((k,V v)::L)):E.head P fin (o::rest) k a L:=by
 simp only[Env.head];rw[if_pos hw,hk];refine⟨?_,h2⟩;unfold Env.asks;rw[hs];exact h
theorem zf8 (V:Value→World→Prop) (s:Nat) (hw:Region.wanted o (yielded E.ops a.tmps)=true) (hk:E.ks k=some (.inr V)) (hs:E.sp k=some s)
 (h:∀w,E.R E.w0 w→E.J s w→zfo (E.bef.getD k 0) L w→za8 P o a w (fun v w'=>(V v w'∧E.R w w'∧E.J (s+1) w')∧zkt (E.fr k) v w w')) (h2:∀v,E.head P fin rest (k+1) (a.put o.dst v) ((k,V v)::L)):E.head P fin (o::rest) k a L:=by
 simp only[Env.head];rw[if_pos hw,hk];refine⟨?_,h2⟩;unfold Env.asks;rw[hs];exact h
theorem zaa {w:World} {S:Value→World→Prop} {d:Tmp} (hd:o.dst=some d) (hz:d<a.tmps.size) (h:∀K:Act→World→Prop,(∀v w',S v w'→K (a.put (some d) v) w')→o.wp P a w K (fun _ _ _=>False)):za8 P o a w S:=by
 have h1:=h (fun a' w'=>∃v,a'=a.put (some d) v∧S v w') (fun v w' hs=>⟨v,rfl,hs⟩)
 have hv:∀u w',(∃v,a.put o.dst u=a.put (some d) v∧S v w')→S u w':=fun u w' ⟨v,he,hs⟩=>by
  have e1:(a.put (some d) u).tmps.getD d undef=u:=zdk hz;have e2:(a.put (some d) v).tmps.getD d undef=v:=zdk hz;rw[hd]at he;rw[he,e2]at e1;rw[←e1];exact hs
 unfold za8;unfold Oper.wp at h1;generalize(execOp a.eval o).run P w=r at *
 cases r with
 |ok n w'=>
  cases n<;>simp only[Oper.upon]at h1<;>simp only[zdv]
  case value u=>exact hv u w' h1
  case skip=>exact hv undef w' h1
  case defer dd=>
   obtain⟨v,he,_⟩:=h1;have:(dd::a.defers:List Deferred)=a.defers:=by have:=congrArg Act.defers he;rw[zfv,zfv]at this;exact this
   have:=congrArg List.length this;simp at this
  case enter f args=>exact h1.mono fun e w'' he=>by cases e<;>first|exact⟨_,rfl,hv _ _ he⟩|exact he.elim|(obtain⟨_,_,h0⟩:=he;exact h0.elim)
  case row row args=>exact h1.mono hv
 |halt x w'=>cases x<;>simp only[Oper.upon]at h1
end
structure Tch (F:Nat→Prop) (w w':World):Prop where
 os:w'.os=w.os
 tape:w'.tape=w.tape
 output:w'.output=w.output
 size:w.heap.size≤w'.heap.size
 block:∀k,k<w.heap.size→¬F k→w'.heap[k]?=w.heap[k]?
theorem Tch.refl (F:Nat→Prop) (w:World):Tch F w w:=⟨rfl,rfl,rfl,Nat.le_refl _,fun _ _ _=>rfl⟩
theorem Tch.trans {F:Nat→Prop} {a b c:World} (h:Tch F a b) (k:Tch F b c):Tch F a c:=
 ⟨k.os.trans h.os,k.tape.trans h.tape,k.output.trans h.output,Nat.le_trans h.size k.size,fun i hi hn=>(k.block i (Nat.lt_of_lt_of_le hi h.size) hn).trans (h.block i hi hn)⟩
theorem Tch.trans' {F F':Nat→Prop} {a b c:World} (h:Tch F a b) (k:Tch F' b c) (hs:∀i,F' i→F i∨a.heap.size≤i):Tch F a c:=
 ⟨k.os.trans h.os,k.tape.trans h.tape,k.output.trans h.output,Nat.le_trans h.size k.size,fun i hi hn=>(k.block i (Nat.lt_of_lt_of_le hi h.size) (fun hf=>by rcases hs i hf with h|h;exact hn h;omega)).trans (h.block i hi hn)⟩
theorem Tch.mono {F F':Nat→Prop} {w w':World} (h:Tch F w w') (hs:∀i,i<w.heap.size→F i→F' i):Tch F' w w':=⟨h.os,h.tape,h.output,h.size,fun i hi hn=>h.block i hi fun hf=>hn (hs i hi hf)⟩
theorem Tch.drew (F:Nat→Prop) (w:World):Tch F w w.drew:=⟨rfl,rfl,rfl,Nat.le_refl _,fun _ _ _=>rfl⟩
theorem Tch.drewN (F:Nat→Prop) (w:World) (n:Nat):Tch F w (w.drewN n):=⟨rfl,rfl,rfl,Nat.le_refl _,fun _ _ _=>rfl⟩
theorem Tch.alloc (F:Nat→Prop) (w:World) (o:Obj):Tch F w (w.alloc o):=⟨rfl,rfl,rfl,by simp,fun k hk _=>RowKit.Below.heap_alloc w o k hk⟩
abbrev Tf (w w':World):Prop:=Tch (fun _=>False) w w'
theorem tal (w:World) (o:Obj):Tf w (w.alloc o):=Tch.alloc _ w o
theorem znn (j:Nat):(0:Int)≤(j:Int):=Int.natCast_nonneg _
theorem Tch.setCell {F:Nat→Prop} (w:World) {p:Addr} (hp:F p.block∨w.heap.size≤p.block) (u:Value):Tch F w (w.setCell p u):=
 ⟨rfl,rfl,rfl,by simp[World.setCell],fun k hk hn=>RowKit.Below.heap_setCell w p u k (fun e=>by subst e;rcases hp with h|h;exact hn h;omega)⟩
theorem Tch.grown {F:Nat→Prop} {w w':World} {row:Option Nat} (hg:w.grownBy w' row) (hr:∀k,row=some k→F k∨w.heap.size≤k):Tch F w w':=
 ⟨hg.os,hg.tape,hg.output,hg.size,fun k hk hn=>hg.block k hk (fun e=>by rcases hr k e.symm with h|h;exact hn h;omega)⟩
theorem Tch.cell {F:Nat→Prop} {w w':World} (h:Tch F w w') {p:Addr} (hp:p.block<w.heap.size) (hn:¬F p.block):w'.cell? p=w.cell? p:=World.cell?_of_block (h.block p.block hp hn)
theorem Tch.cell_some {F:Nat→Prop} {w w':World} (h:Tch F w w') {p:Addr} {v:Value} (hc:w.cell? p=some v) (hn:¬F p.block):w'.cell? p=some v:=(h.cell (World.block_lt_of_cell? w p hc) hn).trans hc
theorem Tch.frozen {F:Nat→Prop} {w w':World} (h:Tch F w w') {p:Addr} (hp:p.block<w.heap.size) (hn:¬F p.block):w'.frozen? p=w.frozen? p:=World.frozen?_of_block (h.block p.block hp hn)
abbrev Exn (w w':World):Prop:=Tch (fun _=>False) w w'
theorem Exn.below {w w':World} (h:Exn w w'):RowKit.Below w.heap.size w w':=⟨h.os,h.tape,h.output,h.size,fun k hk=>h.block k hk id⟩
theorem Exn.touch {F:Nat→Prop} {w w':World} (h:Exn w w'):Tch F w w':=h.mono fun _ _ h=>h.elim
def zj9 (pre:List Nat) (ops:Array Oper) (sp:Nat→Option Nat) (n N:Nat):Bool:=
 Region.noSelect ops&&befOK ops (Region.before ops) n&&zwc ops (Region.before ops) n&&dstOK ops n N&&zwd ops n&&spOK (Region.before ops) sp n&&zpa pre ops n&&zrb ops (Region.before ops) sp n pre (Array.replicate ops.size false)
def Stable (R:World→World→Prop):List (Nat×Sum Value (Value→World→Prop))→Prop
 |[]=>True
 |(_,.inl _)::r=>Stable R r
 |(_,.inr V)::r=>(∀v a b,R a b→V v a→V v b)∧Stable R r
theorem Stable.spec {R:World→World→Prop}:∀{Vs:List (Nat×Sum Value (Value→World→Prop))},Stable R Vs→∀k V,Vs.lookup k=some (.inr V)→∀v a b,R a b→V v a→V v b
 |[],_,k,V,h=>by simp at h
 |(j,x)::r,hs,k,V,h=>by
  simp only[List.lookup]at h;split at h
  ·rename_i hk
   have hx:x=.inr V:=Option.some.inj h;subst hx;exact hs.1
  ·cases x with
   |inl y=>exact Stable.spec (Vs:=r) hs k V h
   |inr U=>exact Stable.spec (Vs:=r) hs.2 k V h
theorem zea {P:Program} {fin fin':Act→List (Nat×(World→Prop))→Prop} (hf:∀a L,fin a L→fin' a L) (E:Env):∀(ls:List Oper) (k:Nat) (a:Act) (L:List (Nat×(World→Prop))),E.head P fin ls k a L→E.head P fin' ls k a L
 |[],k,a,L,h=>hf _ _ h
 |o::ls,k,a,L,h=>by
  simp only[Env.head]at h⊢;split
  ·rename_i hw
   rw[if_pos hw]at h
   cases hk:E.ks k with
   |none=>simp only[hk]at h;obtain⟨h0,x,h1,h2⟩:=h;exact⟨h0,x,h1,zea hf E _ _ _ _ h2⟩
   |some q=>cases q<;>simp only[hk]at h<;>simp only[]
            ·exact⟨h.1,zea hf E _ _ _ _ h.2⟩
            ·exact⟨h.1,fun v=>zea hf E _ _ _ _ (h.2 v)⟩
  ·rename_i hw
   rw[if_neg hw]at h;exact⟨h.1,zea hf E _ _ _ _ h.2⟩
@[reducible] def zbc (F:Nat→Prop) (ops:Array Oper) (bef:Array Nat) (Vs:List (Nat×Sum Value (Value→World→Prop))) (fr:List Nat) (w0:World):Env:=
 {ops:=ops,bef:=bef,R:=Tch F,R0:=Tch F,J:=fun _ _=>True,w0:=w0,ks:=fun k=>Vs.lookup k,sp:=fun _=>none,fr:=fun k=>fr.contains k}
section
variable {P:Program} {F:Nat→Prop} {ops:Array Oper} {bef:Array Nat} {Vs:List (Nat×Sum Value (Value→World→Prop))} {fr:List Nat} {w0:World} {fin:Act→List (Nat×(World→Prop))→Prop} {o:Oper} {rest:List Oper} {k:Nat} {a:Act} {L:List (Nat×(World→Prop))}
theorem zgv (hw:Region.wanted o (yielded ops a.tmps)=true) (hk:Vs.lookup k=none) (hf:fr.contains k=false) (hp:zgu o.op=true)
 (h:∀K:Act→Prop,(∀a',(zbc F ops bef Vs fr w0).head P fin rest (k+1) a' L→K a')→o.quiet P a (fun w'=>∃p:Within (Tch F) w0 (bef.getD k 0) L,w'=p.w) K):(zbc F ops bef Vs fr w0).head P fin (o::rest) k a L:=
 znz (E:=zbc F ops bef Vs fr w0) hw hk rfl hf hp h
theorem zm8 (hw:Region.wanted o (yielded ops a.tmps)=false) (h:(zbc F ops bef Vs fr w0).head P fin rest (k+1) (a.put o.dst undef) L):(zbc F ops bef Vs fr w0).head P fin (o::rest) k a L:=
 zwg (E:=zbc F ops bef Vs fr w0) hw rfl h
theorem zb3 (x:Value) (hw:Region.wanted o (yielded ops a.tmps)=true) (hk:Vs.lookup k=some (.inl x))
 (h:∀w,Tch F w0 w→zfo (bef.getD k 0) L w→za8 P o a w (fun v w'=>(v=x∧Tch F w w')∧zkt (fr.contains k) v w w')) (h2:(zbc F ops bef Vs fr w0).head P fin rest (k+1) (a.put o.dst x) L):(zbc F ops bef Vs fr w0).head P fin (o::rest) k a L:=
 zs7 (E:=zbc F ops bef Vs fr w0) x hw hk rfl h h2
theorem zaq {V:Value→World→Prop} (hw:Region.wanted o (yielded ops a.tmps)=true) (hk:Vs.lookup k=some (.inr V))
 (h:∀w,Tch F w0 w→zfo (bef.getD k 0) L w→za8 P o a w (fun v w'=>(V v w'∧Tch F w w')∧zkt (fr.contains k) v w w')) (h2:∀v,(zbc F ops bef Vs fr w0).head P fin rest (k+1) (a.put o.dst v) ((k,V v)::L)):(zbc F ops bef Vs fr w0).head P fin (o::rest) k a L:=
 zjj (E:=zbc F ops bef Vs fr w0) V hw hk rfl h h2
theorem za6 (h:fin a L):(zbc F ops bef Vs fr w0).head P fin [] k a L:=h
theorem zaf {v:Value} {w w':World}:zkt false v w w':=fun h=>by cases h
end
theorem za4 {P:Program} (F:Nat→Prop) {id:Nat} {Q:Exit→Act→World→Prop} {a:Act} {w:World} {l:List Oper} (pre:List Nat) (n:Nat) (Vs:List (Nat×Sum Value (Value→World→Prop))) (fr:List Nat) (hm:P.follows .mixedOrders=true)
 (hn:(decide (n≤l.length))=true) (hc:zj9 pre l.toArray (fun _=>none) n a.tmps.size=true) (hpk:((pre.all fun i=>(Vs.lookup i).isNone)&&fr.all fun i=>(Vs.lookup i).isSome)=true) (hQ:∀d v c a w,Q (.panic c) (a.put d v) w→Q (.panic c) a w) (hV:Stable (Tch F) Vs)
 (h:∀(bef:Array Nat) (ops:Array Oper),bef=Region.before l.toArray→ops=l.toArray→(zbc F ops bef Vs fr w.drew).head P (fun a' L=>∀w',Tch F w.drew w'→(∀p∈L,p.2 w')→(zbc F l.toArray bef Vs fr w.drew).apart n a'→wpList P l.toArray Q (l.drop n) a' w') (l.take n) 0 a []):(Code.region id l.toArray true).wp P Q a w:=by
 simp only[zj9,Bool.and_eq_true]at hc;obtain⟨⟨⟨⟨⟨⟨⟨c1,c2⟩,c3⟩,c4⟩,c5⟩,c6⟩,c7⟩,c8⟩:=hc;simp only[Bool.and_eq_true]at hpk
 refine zf6 (E:=zbc F l.toArray (Region.before l.toArray) Vs fr w.drew) (n:=n) (m:=0) pre hm rfl rfl ⟨fun _ _ h=>h.size,Tch.refl F,fun _ _ _ h k=>h.trans k,fun _ _ h=>h,fun _ _ _ _ h=>h,hV.spec,c1,c2,c3,c4,c5,c6⟩ rfl (of_decide_eq_true hn) c7 (by simpa using c8)
  (fun i hi=>by have:=List.all_eq_true.1 hpk.1 i hi;simpa using this) (fun i hi=>?_) hQ ⟨(fun _ _ _ h=>by cases h),.inl rfl⟩ trivial ?_
 ·cases hf:fr.contains i with
  |false=>exact hf
  |true=>
   have:=List.all_eq_true.1 hpk.2 i (by simpa using hf);rw[show Vs.lookup i=none from hi]at this
   cases this
 ·exact zea (fun a' L' hf w' hr _ hp hap=>hf w' hr hp hap) _ _ _ _ _ (h _ _ rfl rfl)
theorem zaw:(∀(a:Act) (v:Value),a.put none v=a)∧(∀(a:Act) (d:Tmp) (v:Value),a.put (some d) v={a with tmps:=a.tmps.setIfInBounds d v})∧(∀(l:List Value) (i:Nat) (x:Value),l.toArray.setIfInBounds i x=(l.set i x).toArray)∧(∀(x y:Value) (l:List Value) (i:Nat),(x::l).set (i+1) y=x::l.set i y)∧∀(x y:Value) (l:List Value),(x::l).set 0 y=y::l:=
 ⟨fun _ _=>rfl,fun _ _ _=>rfl,fun _ _ _=>by simp,fun _ _ _ _=>rfl,fun _ _ _=>rfl⟩
theorem tkS:(∀(x:Oper) (l:List Oper) (n:Nat),(x::l).take (n+1)=x::l.take n)∧(∀l:List Oper,l.take 0=[])∧(∀(x:Oper) (l:List Oper) (n:Nat),(x::l).drop (n+1)=l.drop n)∧∀l:List Oper,l.drop 0=l:=
 ⟨fun _ _ _=>rfl,fun _=>rfl,fun _ _ _=>rfl,fun _=>rfl⟩
section
variable {P:Program} {F:Nat→Prop} {ops:Array Oper} {bef:Array Nat} {Vs:List (Nat×Sum Value (Value→World→Prop))} {fr:List Nat} {w0:World}
variable {fin:Act→List (Nat×(World→Prop))→Prop} {rest:List Oper} {o:Oper} {k:Nat} {a:Act} {L:List (Nat×(World→Prop))}
theorem zbt {a':Act} (h2:(zbc F ops bef Vs fr w0).head P fin rest (k+1) a' L) (hw:Region.wanted o (yielded ops a.tmps)=true:=by rfl) (hk:Vs.lookup k=none:=by rfl) (hf:fr.contains k=false:=by rfl) (hp:zgu o.op=true:=by rfl)
 (h:∀K:Act→Prop,K a'→o.quiet P a (fun w'=>∃p:Within (Tch F) w0 (bef.getD k 0) L,w'=p.w) K:=by(intro K hK;go_big_quiet_op;first|exact hK|exact⟨_,fun _=>rfl,hK⟩)):(zbc F ops bef Vs fr w0).head P fin (o::rest) k a L:=
 zgv hw hk hf hp fun K hK=>h K (hK a' h2)
end
theorem zai {P:Program} (F:Nat→Prop) {id:Nat} {Q:Exit→Act→World→Prop} {a:Act} {w:World} {l:List Oper} (pre:List Nat) (n:Nat) (Vs:List (Nat×Sum Value (Value→World→Prop))) (fr:List Nat) (hV:Stable (Tch F) Vs)
 {l1 l2:List Oper} (h:∀(bef:Array Nat),bef=Region.before l.toArray→(zbc F l.toArray bef Vs fr w.drew).head P (fun a' L=>∀w',Tch F w.drew w'→(∀p∈L,p.2 w')→(zbc F l.toArray bef Vs fr w.drew).apart n a'→wpList P l.toArray Q l2 a' w') l1 0 a [])
 (h1:l.take n=l1:=by simp only[List.append,tkS];first|done|rfl) (h2:l.drop n=l2:=by simp only[List.append,tkS];first|done|rfl) (hm:P.follows .mixedOrders=true:=by kernel_rfl)
 (hn:(decide (n≤l.length))=true:=by rfl) (hc:zj9 pre l.toArray (fun _=>none) n a.tmps.size=true:=by kernel_rfl) (hpk:((pre.all fun i=>(Vs.lookup i).isNone)&&fr.all fun i=>(Vs.lookup i).isSome)=true:=by rfl)
 (hQ:∀d v c a w,Q (.panic c) (a.put d v) w→Q (.panic c) a w:=by(intro d _ _ _ _ h;cases d<;>exact h)):(Code.region id l.toArray true).wp P Q a w:=
 za4 F pre n Vs fr hm hn hc hpk hQ hV fun bef ops hb ho=>by subst ho;rw[h1,h2];exact h bef hb
abbrev iV (x:Int):Value:=.int .i64 x
open Go Go.RowKit
section
variable {F:Nat→Prop} {w w':World} {base:Nat} {e:TypeId} {size:Nat} {v:Value} {n:Nat} {xs:List Value}
theorem own_lt (h:w.ownsRow base e size v n xs) {g:Nat} (hg:v.ownBlock=some g):g<w.heap.size:=(h.lt g hg).2
theorem Tch.own (t:Tch F w w') (h:w.ownsRow base e size v n xs) (hn:∀g,v.ownBlock=some g→¬F g):w'.ownsRow base e size v n xs:=by
 refine⟨h.1,?_⟩
 rcases h.2 with hn'|⟨g,cap,cur,rfl,hb,hgg,rest⟩
 ·exact .inl hn'
 ·exact .inr ⟨g,cap,cur,rfl,hb,(t.block g (Array.getElem?_eq_some_iff.1 hgg).1 (hn g rfl)).trans hgg,rest⟩
theorem zb8 (h:w.ownsRow base e size v n xs):w.ownsRow 0 e size v n xs:=by
 refine⟨h.1,?_⟩
 rcases h.2 with hn'|⟨g,cap,cur,hv,hb,r⟩
 ·exact .inl hn'
 ·exact .inr ⟨g,cap,cur,hv,Nat.zero_le _,r⟩
theorem zac (h:w.ownsRow base e size v n xs):∃A c,v=.slice A n c∧n≤c∧c≤maxLen∧(A=none∨∃g,A=some ⟨g,0,none⟩):=by
 rcases h.2 with⟨hv,hn⟩|⟨g,cap,cur,hv,_,_,h1,h2,_⟩
 ·subst hn;exact⟨none,0,hv,Nat.le_refl _,Nat.zero_le _,.inl rfl⟩
 ·exact⟨_,cap,hv,h1,h2,.inr ⟨g,rfl⟩⟩
theorem zk0 (h:w.ownsRow base e size v n xs) {g:Nat} (hg:v.ownBlock=some g) {j:Nat} {u:Value} (hu:xs[j]?=some u):w.cell? ⟨g,j,none⟩=some u:=by
 have:=h.cells hg j u hu;rwa [Addr.add_lit,Nat.zero_add]at this
theorem zwh (h:w.ownsRow base e size v n xs) (hn:0<n):∃g c,v=.slice (some ⟨g,0,none⟩) n c:=by
 rcases h.2 with⟨_,h0⟩|⟨g,cap,cur,hv,_⟩
 ·omega
 ·exact⟨g,cap,hv⟩
theorem ziq {A:Option Addr} {c:Nat} (h:w.ownsRow base e size (.slice A n c) n xs) (hn:0<n):∃g,A=some ⟨g,0,none⟩:=by
 obtain⟨g,cc,hv⟩:=zwh h hn;injection hv with e1;exact⟨g,e1⟩
theorem zad {W:World} {a:Addr} {u:Value} (h:W.cell? a=some u) (hn:¬F a.block):∀b L (p:Within (Tch F) W.drew b L),p.w.cell? a=some u:=fun _ _ p=>p.hr.cell_some (by exact h) hn
theorem own_take {A:Option Addr} {c:Nat} (h:w.ownsRow base e size (.slice A n c) n xs) {k:Nat} (hk:k≤n):w.ownsRow base e size (.slice A k c) k (xs.take (k*size)):=by
 obtain⟨h1,h2⟩:=h;have hle:k*size≤n*size:=Nat.mul_le_mul_right _ hk;refine⟨by rw[List.length_take,h1];omega,?_⟩
 rcases h2 with⟨hv,hn⟩|⟨g,cap,cur,hv,hb,hg,hnc,hcm,hcs,ht⟩
 ·injection hv with e1 e2 e3;subst e1 e3 hn;have:k=0:=by omega
  subst this;exact .inl ⟨rfl,rfl⟩
 ·injection hv with e1 e2 e3;subst e1 e3;exact .inr ⟨g,c,cur,rfl,hb,hg,by omega,hcm,hcs,by rw[←ht,List.take_take];congr 1;omega⟩
def Blk (w:World) (g:Nat) (t:TypeId) (cs:Array Value):Prop:=w.heap[g]?=some (.cells cs t (0,0))
theorem Blk.lt {g:Nat} {t:TypeId} {cs:Array Value} (h:Blk w g t cs):g<w.heap.size:=(Array.getElem?_eq_some_iff.1 h).1
theorem Blk.cell {g:Nat} {t:TypeId} {cs:Array Value} (h:Blk w g t cs) (i:Nat):w.cell? ⟨g,i,none⟩=cs[i]?:=cell_of_row w g i cs t (0,0) h
theorem Blk.at0 {g:Nat} {t:TypeId} {x0:Value} {r:List Value} (h:Blk w g t (x0::r).toArray):w.cell? ⟨g,0,none⟩=some x0:=h.cell 0
theorem Blk.at1 {g:Nat} {t:TypeId} {x0 x1:Value} {r:List Value} (h:Blk w g t (x0::x1::r).toArray):w.cell? ⟨g,1,none⟩=some x1:=h.cell 1
theorem Blk.at2 {g:Nat} {t:TypeId} {x0 x1 x2:Value} {r:List Value} (h:Blk w g t (x0::x1::x2::r).toArray):w.cell? ⟨g,2,none⟩=some x2:=h.cell 2
theorem Blk.at3 {g:Nat} {t:TypeId} {x0 x1 x2 x3:Value} {r:List Value} (h:Blk w g t (x0::x1::x2::x3::r).toArray):w.cell? ⟨g,3,none⟩=some x3:=h.cell 3
theorem Blk.at4 {g:Nat} {t:TypeId} {x0 x1 x2 x3 x4:Value} {r:List Value} (h:Blk w g t (x0::x1::x2::x3::x4::r).toArray):w.cell? ⟨g,4,none⟩=some x4:=h.cell 4
theorem Blk.at5 {g:Nat} {t:TypeId} {x0 x1 x2 x3 x4 x5:Value} {r:List Value} (h:Blk w g t (x0::x1::x2::x3::x4::x5::r).toArray):w.cell? ⟨g,5,none⟩=some x5:=h.cell 5
theorem Blk.at6 {g:Nat} {t:TypeId} {x0 x1 x2 x3 x4 x5 x6:Value} {r:List Value} (h:Blk w g t (x0::x1::x2::x3::x4::x5::x6::r).toArray):w.cell? ⟨g,6,none⟩=some x6:=h.cell 6
theorem Blk.at7 {g:Nat} {t:TypeId} {x0 x1 x2 x3 x4 x5 x6 x7:Value} {r:List Value} (h:Blk w g t (x0::x1::x2::x3::x4::x5::x6::x7::r).toArray):w.cell? ⟨g,7,none⟩=some x7:=h.cell 7
theorem Blk.at8 {g:Nat} {t:TypeId} {x0 x1 x2 x3 x4 x5 x6 x7 x8:Value} {r:List Value} (h:Blk w g t (x0::x1::x2::x3::x4::x5::x6::x7::x8::r).toArray):w.cell? ⟨g,8,none⟩=some x8:=h.cell 8
theorem Blk.at9 {g:Nat} {t:TypeId} {x0 x1 x2 x3 x4 x5 x6 x7 x8 x9:Value} {r:List Value} (h:Blk w g t (x0::x1::x2::x3::x4::x5::x6::x7::x8::x9::r).toArray):w.cell? ⟨g,9,none⟩=some x9:=h.cell 9
theorem Blk.at10 {g:Nat} {t:TypeId} {x0 x1 x2 x3 x4 x5 x6 x7 x8 x9 x10:Value} {r:List Value} (h:Blk w g t (x0::x1::x2::x3::x4::x5::x6::x7::x8::x9::x10::r).toArray):w.cell? ⟨g,10,none⟩=some x10:=h.cell 10
theorem Blk.at11 {g:Nat} {t:TypeId} {x0 x1 x2 x3 x4 x5 x6 x7 x8 x9 x10 x11:Value} {r:List Value} (h:Blk w g t (x0::x1::x2::x3::x4::x5::x6::x7::x8::x9::x10::x11::r).toArray):w.cell? ⟨g,11,none⟩=some x11:=h.cell 11
theorem Blk.at12 {g:Nat} {t:TypeId} {x0 x1 x2 x3 x4 x5 x6 x7 x8 x9 x10 x11 x12:Value} {r:List Value} (h:Blk w g t (x0::x1::x2::x3::x4::x5::x6::x7::x8::x9::x10::x11::x12::r).toArray):w.cell? ⟨g,12,none⟩=some x12:=h.cell 12
theorem Blk.at13 {g:Nat} {t:TypeId} {x0 x1 x2 x3 x4 x5 x6 x7 x8 x9 x10 x11 x12 x13:Value} {r:List Value} (h:Blk w g t (x0::x1::x2::x3::x4::x5::x6::x7::x8::x9::x10::x11::x12::x13::r).toArray):w.cell? ⟨g,13,none⟩=some x13:=h.cell 13
theorem Blk.f2 {g:Nat} {t:TypeId} {x0 x1:Value} {r:List Value} (h:Blk w g t (x0::x1::r).toArray):w.cell? ⟨g,0,none⟩=some x0∧w.cell? ⟨g,1,none⟩=some x1:=⟨h.cell 0,h.cell 1⟩
theorem Blk.f3 {g:Nat} {t:TypeId} {x0 x1 x2:Value} {r:List Value} (h:Blk w g t (x0::x1::x2::r).toArray):w.cell? ⟨g,0,none⟩=some x0∧w.cell? ⟨g,1,none⟩=some x1∧w.cell? ⟨g,2,none⟩=some x2:=⟨h.cell 0,h.cell 1,h.cell 2⟩
theorem Blk.f4 {g:Nat} {t:TypeId} {x0 x1 x2 x3:Value} {r:List Value} (h:Blk w g t (x0::x1::x2::x3::r).toArray):w.cell? ⟨g,0,none⟩=some x0∧w.cell? ⟨g,1,none⟩=some x1∧w.cell? ⟨g,2,none⟩=some x2∧w.cell? ⟨g,3,none⟩=some x3:=⟨h.cell 0,h.cell 1,h.cell 2,h.cell 3⟩
theorem Blk.f5 {g:Nat} {t:TypeId} {x0 x1 x2 x3 x4:Value} {r:List Value} (h:Blk w g t (x0::x1::x2::x3::x4::r).toArray):w.cell? ⟨g,0,none⟩=some x0∧w.cell? ⟨g,1,none⟩=some x1∧w.cell? ⟨g,2,none⟩=some x2∧w.cell? ⟨g,3,none⟩=some x3∧w.cell? ⟨g,4,none⟩=some x4:=⟨h.cell 0,h.cell 1,h.cell 2,h.cell 3,h.cell 4⟩
theorem Blk.f6 {g:Nat} {t:TypeId} {x0 x1 x2 x3 x4 x5:Value} {r:List Value} (h:Blk w g t (x0::x1::x2::x3::x4::x5::r).toArray):w.cell? ⟨g,0,none⟩=some x0∧w.cell? ⟨g,1,none⟩=some x1∧w.cell? ⟨g,2,none⟩=some x2∧w.cell? ⟨g,3,none⟩=some x3∧w.cell? ⟨g,4,none⟩=some x4∧w.cell? ⟨g,5,none⟩=some x5:=⟨h.cell 0,h.cell 1,h.cell 2,h.cell 3,h.cell 4,h.cell 5⟩
theorem Blk.f7 {g:Nat} {t:TypeId} {x0 x1 x2 x3 x4 x5 x6:Value} {r:List Value} (h:Blk w g t (x0::x1::x2::x3::x4::x5::x6::r).toArray):w.cell? ⟨g,0,none⟩=some x0∧w.cell? ⟨g,1,none⟩=some x1∧w.cell? ⟨g,2,none⟩=some x2∧w.cell? ⟨g,3,none⟩=some x3∧w.cell? ⟨g,4,none⟩=some x4∧w.cell? ⟨g,5,none⟩=some x5∧w.cell? ⟨g,6,none⟩=some x6:=⟨h.cell 0,h.cell 1,h.cell 2,h.cell 3,h.cell 4,h.cell 5,h.cell 6⟩
theorem Blk.f8 {g:Nat} {t:TypeId} {x0 x1 x2 x3 x4 x5 x6 x7:Value} {r:List Value} (h:Blk w g t (x0::x1::x2::x3::x4::x5::x6::x7::r).toArray):w.cell? ⟨g,0,none⟩=some x0∧w.cell? ⟨g,1,none⟩=some x1∧w.cell? ⟨g,2,none⟩=some x2∧w.cell? ⟨g,3,none⟩=some x3∧w.cell? ⟨g,4,none⟩=some x4∧w.cell? ⟨g,5,none⟩=some x5∧w.cell? ⟨g,6,none⟩=some x6∧w.cell? ⟨g,7,none⟩=some x7:=⟨h.cell 0,h.cell 1,h.cell 2,h.cell 3,h.cell 4,h.cell 5,h.cell 6,h.cell 7⟩
theorem Blk.f9 {g:Nat} {t:TypeId} {x0 x1 x2 x3 x4 x5 x6 x7 x8:Value} {r:List Value} (h:Blk w g t (x0::x1::x2::x3::x4::x5::x6::x7::x8::r).toArray):w.cell? ⟨g,0,none⟩=some x0∧w.cell? ⟨g,1,none⟩=some x1∧w.cell? ⟨g,2,none⟩=some x2∧w.cell? ⟨g,3,none⟩=some x3∧w.cell? ⟨g,4,none⟩=some x4∧w.cell? ⟨g,5,none⟩=some x5∧w.cell? ⟨g,6,none⟩=some x6∧w.cell? ⟨g,7,none⟩=some x7∧w.cell? ⟨g,8,none⟩=some x8:=⟨h.cell 0,h.cell 1,h.cell 2,h.cell 3,h.cell 4,h.cell 5,h.cell 6,h.cell 7,h.cell 8⟩
theorem Blk.f10 {g:Nat} {t:TypeId} {x0 x1 x2 x3 x4 x5 x6 x7 x8 x9:Value} {r:List Value} (h:Blk w g t (x0::x1::x2::x3::x4::x5::x6::x7::x8::x9::r).toArray):w.cell? ⟨g,0,none⟩=some x0∧w.cell? ⟨g,1,none⟩=some x1∧w.cell? ⟨g,2,none⟩=some x2∧w.cell? ⟨g,3,none⟩=some x3∧w.cell? ⟨g,4,none⟩=some x4∧w.cell? ⟨g,5,none⟩=some x5∧w.cell? ⟨g,6,none⟩=some x6∧w.cell? ⟨g,7,none⟩=some x7∧w.cell? ⟨g,8,none⟩=some x8∧w.cell? ⟨g,9,none⟩=some x9:=⟨h.cell 0,h.cell 1,h.cell 2,h.cell 3,h.cell 4,h.cell 5,h.cell 6,h.cell 7,h.cell 8,h.cell 9⟩
theorem Blk.f11 {g:Nat} {t:TypeId} {x0 x1 x2 x3 x4 x5 x6 x7 x8 x9 x10:Value} {r:List Value} (h:Blk w g t (x0::x1::x2::x3::x4::x5::x6::x7::x8::x9::x10::r).toArray):w.cell? ⟨g,0,none⟩=some x0∧w.cell? ⟨g,1,none⟩=some x1∧w.cell? ⟨g,2,none⟩=some x2∧w.cell? ⟨g,3,none⟩=some x3∧w.cell? ⟨g,4,none⟩=some x4∧w.cell? ⟨g,5,none⟩=some x5∧w.cell? ⟨g,6,none⟩=some x6∧w.cell? ⟨g,7,none⟩=some x7∧w.cell? ⟨g,8,none⟩=some x8∧w.cell? ⟨g,9,none⟩=some x9∧w.cell? ⟨g,10,none⟩=some x10:=⟨h.cell 0,h.cell 1,h.cell 2,h.cell 3,h.cell 4,h.cell 5,h.cell 6,h.cell 7,h.cell 8,h.cell 9,h.cell 10⟩
theorem Blk.f12 {g:Nat} {t:TypeId} {x0 x1 x2 x3 x4 x5 x6 x7 x8 x9 x10 x11:Value} {r:List Value} (h:Blk w g t (x0::x1::x2::x3::x4::x5::x6::x7::x8::x9::x10::x11::r).toArray):w.cell? ⟨g,0,none⟩=some x0∧w.cell? ⟨g,1,none⟩=some x1∧w.cell? ⟨g,2,none⟩=some x2∧w.cell? ⟨g,3,none⟩=some x3∧w.cell? ⟨g,4,none⟩=some x4∧w.cell? ⟨g,5,none⟩=some x5∧w.cell? ⟨g,6,none⟩=some x6∧w.cell? ⟨g,7,none⟩=some x7∧w.cell? ⟨g,8,none⟩=some x8∧w.cell? ⟨g,9,none⟩=some x9∧w.cell? ⟨g,10,none⟩=some x10∧w.cell? ⟨g,11,none⟩=some x11:=⟨h.cell 0,h.cell 1,h.cell 2,h.cell 3,h.cell 4,h.cell 5,h.cell 6,h.cell 7,h.cell 8,h.cell 9,h.cell 10,h.cell 11⟩
theorem Blk.f13 {g:Nat} {t:TypeId} {x0 x1 x2 x3 x4 x5 x6 x7 x8 x9 x10 x11 x12:Value} {r:List Value} (h:Blk w g t (x0::x1::x2::x3::x4::x5::x6::x7::x8::x9::x10::x11::x12::r).toArray):w.cell? ⟨g,0,none⟩=some x0∧w.cell? ⟨g,1,none⟩=some x1∧w.cell? ⟨g,2,none⟩=some x2∧w.cell? ⟨g,3,none⟩=some x3∧w.cell? ⟨g,4,none⟩=some x4∧w.cell? ⟨g,5,none⟩=some x5∧w.cell? ⟨g,6,none⟩=some x6∧w.cell? ⟨g,7,none⟩=some x7∧w.cell? ⟨g,8,none⟩=some x8∧w.cell? ⟨g,9,none⟩=some x9∧w.cell? ⟨g,10,none⟩=some x10∧w.cell? ⟨g,11,none⟩=some x11∧w.cell? ⟨g,12,none⟩=some x12:=⟨h.cell 0,h.cell 1,h.cell 2,h.cell 3,h.cell 4,h.cell 5,h.cell 6,h.cell 7,h.cell 8,h.cell 9,h.cell 10,h.cell 11,h.cell 12⟩
theorem Blk.f14 {g:Nat} {t:TypeId} {x0 x1 x2 x3 x4 x5 x6 x7 x8 x9 x10 x11 x12 x13:Value} {r:List Value} (h:Blk w g t (x0::x1::x2::x3::x4::x5::x6::x7::x8::x9::x10::x11::x12::x13::r).toArray):w.cell? ⟨g,0,none⟩=some x0∧w.cell? ⟨g,1,none⟩=some x1∧w.cell? ⟨g,2,none⟩=some x2∧w.cell? ⟨g,3,none⟩=some x3∧w.cell? ⟨g,4,none⟩=some x4∧w.cell? ⟨g,5,none⟩=some x5∧w.cell? ⟨g,6,none⟩=some x6∧w.cell? ⟨g,7,none⟩=some x7∧w.cell? ⟨g,8,none⟩=some x8∧w.cell? ⟨g,9,none⟩=some x9∧w.cell? ⟨g,10,none⟩=some x10∧w.cell? ⟨g,11,none⟩=some x11∧w.cell? ⟨g,12,none⟩=some x12∧w.cell? ⟨g,13,none⟩=some x13:=⟨h.cell 0,h.cell 1,h.cell 2,h.cell 3,h.cell 4,h.cell 5,h.cell 6,h.cell 7,h.cell 8,h.cell 9,h.cell 10,h.cell 11,h.cell 12,h.cell 13⟩
theorem Blk.f15 {g:Nat} {t:TypeId} {x0 x1 x2 x3 x4 x5 x6 x7 x8 x9 x10 x11 x12 x13 x14:Value} {r:List Value} (h:Blk w g t (x0::x1::x2::x3::x4::x5::x6::x7::x8::x9::x10::x11::x12::x13::x14::r).toArray):w.cell? ⟨g,0,none⟩=some x0∧w.cell? ⟨g,1,none⟩=some x1∧w.cell? ⟨g,2,none⟩=some x2∧w.cell? ⟨g,3,none⟩=some x3∧w.cell? ⟨g,4,none⟩=some x4∧w.cell? ⟨g,5,none⟩=some x5∧w.cell? ⟨g,6,none⟩=some x6∧w.cell? ⟨g,7,none⟩=some x7∧w.cell? ⟨g,8,none⟩=some x8∧w.cell? ⟨g,9,none⟩=some x9∧w.cell? ⟨g,10,none⟩=some x10∧w.cell? ⟨g,11,none⟩=some x11∧w.cell? ⟨g,12,none⟩=some x12∧w.cell? ⟨g,13,none⟩=some x13∧w.cell? ⟨g,14,none⟩=some x14:=⟨h.cell 0,h.cell 1,h.cell 2,h.cell 3,h.cell 4,h.cell 5,h.cell 6,h.cell 7,h.cell 8,h.cell 9,h.cell 10,h.cell 11,h.cell 12,h.cell 13,h.cell 14⟩
theorem Blk.frozen {g:Nat} {t:TypeId} {cs:Array Value} (h:Blk w g t cs) (i:Nat):w.frozen? ⟨g,i,none⟩=false:=by unfold Blk at h;simp[World.frozen?,h]
theorem Blk.new (w:World) (t:TypeId) (cs:Array Value):Blk (w.alloc (.cells cs t)) w.heap.size t cs:=heap_alloc_new w _
theorem Blk.keep {g:Nat} {t:TypeId} {cs:Array Value} (h:Blk w g t cs) (k:Tch F w w') (hn:¬F g):Blk w' g t cs:=(k.block g h.lt hn).trans h
theorem Blk.alloc {g:Nat} {t:TypeId} {cs:Array Value} (h:Blk w g t cs) (o:Obj):Blk (w.alloc o) g t cs:=(Below.heap_alloc w o g h.lt).trans h
theorem Blk.set_ {g:Nat} {t:TypeId} {cs:Array Value} (h:Blk w g t cs) (i:Nat) (u:Value):Blk (w.setCell ⟨g,i,none⟩ u) g t (cs.setIfInBounds i u):=by
 unfold Blk at h⊢;simp[World.setCell,Array.getElem?_modify,h]
theorem Blk.far {g:Nat} {t:TypeId} {cs:Array Value} (h:Blk w g t cs) {p:Addr} (hp:g≠p.block) (u:Value):Blk (w.setCell p u) g t cs:=(Below.heap_setCell w p u g hp).trans h
end
structure RowTy (P:Program) (t e:TypeId) (z:Value) (size bytes:Nat):Prop where
 und:P.underlying t=some (.slice e)
 info:(P.info? e).map (fun i=>(i.zero,i.size,i.bytes))=some (some z,size,bytes)
 cells:z.cells.size=size
 pos:0<size
structure Src (w:World) (ao:Option Addr) (m c size:Nat) (news:List Value):Prop where
 len:news.length=m*size
 nil:ao=none→m=0∧c=0
 cell:∀a,ao=some a→∀j u,news[j]?=some u→w.cell? (a.add j)=some u
theorem Src.keep {w w':World} {F:Nat→Prop} {ao:Option Addr} {m c size:Nat} {news:List Value} (h:Src w ao m c size news) (t:Tch F w w') (hn:∀a,ao=some a→¬F a.block):Src w' ao m c size news:=
 ⟨h.len,h.nil,fun a ha j u hu=>by
  have:=h.cell a ha j u hu;refine t.cell_some this ?_;have hb:(a.add j).block=a.block:=by unfold Addr.add;split<;>rfl
  rw[hb];exact hn a ha⟩
theorem Src.own {w:World} {base:Nat} {e:TypeId} {size n c:Nat} {A:Option Addr} {xs:List Value} (h:w.ownsRow base e size (.slice A n c) n xs):Src w A n c size xs:=by
 refine⟨h.1,fun ha=>?_,fun a ha j u hu=>?_⟩
 ·rcases h.2 with⟨hv,hn⟩|⟨g,cap,cur,hv,_⟩
  ·injection hv with e1 e2 e3;exact⟨hn,e3⟩
  ·injection hv with e1;rw[ha]at e1;cases e1
 ·subst ha
  rcases h.2 with⟨hv,hn⟩|⟨g,cap,cur,hv,_⟩
  ·injection hv with e1;cases e1
  ·have hh:=hv;injection hv with e1;injection e1 with e1;subst e1;exact h.cells (g:=g) rfl j u hu
theorem Src.one {w:World} {g:Nat} {size:Nat} {news:List Value} (hl:news.length=size) (h:∀j u,news[j]?=some u→w.cell? ⟨g,j,none⟩=some u):Src w (some ⟨g,0,none⟩) 1 1 size news:=
 ⟨by omega,(fun h=>by cases h),fun a ha j u hu=>by
  obtain rfl:=Option.some.inj ha;rw[Addr.add_lit,Nat.zero_add]
  exact h j u hu⟩
section
variable {P:Program} (w:World)
theorem zhh {t e:TypeId} {z:Value} {size bytes:Nat} (T:RowTy P t e z size bytes) (ty:TypeId) {v:Value} {n:Nat} {xs:List Value} (hown:w.ownsRow 0 e size v n xs)
 {ao:Option Addr} {m c:Nat} {news:List Value} (hs:Src w ao m c size news) (h1:∀u∈news,u.oneCell'=true)
 (h63:n+m≤maxLen) (hbytes:(n+m)*bytes≤140737488355328):
 ∃v' w',(Builtin.append_ #[t,t] ty #[v,.slice ao m c]).run P w=.ok v' w'∧w'.ownsRow 0 e size v' (n+m) (xs++news)∧w.grownBy w' v.ownBlock∧(∀g,v'.ownBlock=some g→v.ownBlock=some g∨w.heap.size≤g):=by
 obtain⟨i,hi,hz,hsize,hby⟩:=info_parts T.info
 cases ao with
 |none=>
  obtain⟨rfl,rfl⟩:=hs.nil rfl;have hn:news=[]:=List.eq_nil_of_length_eq_zero (by simpa using hs.len);subst hn;exact⟨v,w,run_append_owned_none (P:=P) w 0 t ty e i size T.und hi v n xs hown,by simpa using hown,World.grownBy.refl _ _,fun g hg=>.inl hg⟩
 |some a=>
  obtain⟨v',w',hr,h2,h3,_,h5⟩:=run_append_own_at (P:=P) w 0 t ty e i z size bytes T.und hi hz hsize hby T.cells T.pos v n xs hown a m c news hs.len (hs.cell a rfl) h1 h63 hbytes (Nat.zero_le _);refine⟨v',w',hr,h2,h3,fun g hg=>?_⟩;rcases h5 with h5|h5
  ·exact .inl (h5▸hg)
  ·rw[h5]at hg;cases hg;exact .inr (Nat.le_refl _)
theorem zat {ops:Array Oper} {rest:List Oper} {o:Oper} {a:Act} {Q:Exit→Act→World→Prop} (hgd:o.guard=none) (s x:Operand) (t:TypeId)
 (ho:o.op=.call {callee:=.builtin .append,args:= #[s,x],argTypes:= #[t,t]})
 {e:TypeId} {z:Value} {size bytes:Nat} (T:RowTy P t e z size bytes) {v:Value} {n:Nat} {xs:List Value} (hown:w.ownsRow 0 e size v n xs) (hv:a.eval s=v)
 {ao:Option Addr} {m c:Nat} {news:List Value} (hs:Src w ao m c size news) (hx:a.eval x=.slice ao m c) (h1:∀u∈news,u.oneCell'=true)
 (h63:n+m≤maxLen) (hbytes:(n+m)*bytes≤140737488355328)
 (h:∀v' w',w'.ownsRow 0 e size v' (n+m) (xs++news)→w.grownBy w' v.ownBlock→(∀g,v'.ownBlock=some g→v.ownBlock=some g∨w.heap.size≤g)→wpList P ops Q rest (a.put o.dst v') w'):wpList P ops Q (o::rest) a w:=
 wpList_plain hgd fun K hK=>by
  obtain⟨v',w',hr,h2,h3,h4⟩:=zhh w T o.type hown hs h1 h63 hbytes;unfold Oper.wp execOp;simp only[ho,resolve,invoke,builtin,Sem.run_bind,Sem.run_pure,Result.andThen_ok,List.map_toArray,List.map_cons,List.map_nil,hv,hx,hr];exact hK _ _ (h v' w' h2 h3 h4)
end
section
variable {P:Program} {ops:Array Oper} {rest:List Oper} {o:Oper} {a:Act} {w:World} {Q:Exit→Act→World→Prop}
theorem apd {e t:TypeId} {z:Value} {size bytes base:Nat} (T:RowTy P t e z size bytes) {v:Value} {n:Nat} {xs:List Value} (hown:w.ownsRow base e size v n xs) {ao:Option Addr} {m c:Nat} {news:List Value} (hs:Src w ao m c size news) (h1:∀u∈news,u.oneCell'=true)
 (h:∀v' w',w'.ownsRow 0 e size v' (n+m) (xs++news)→w.grownBy w' v.ownBlock→(∀g,v'.ownBlock=some g→v.ownBlock=some g∨w.heap.size≤g)→wpList P ops Q rest (a.put o.dst v') w') {s x:Operand} (ho:o.op=.call {callee:=.builtin .append,args:= #[s,x],argTypes:= #[t,t]}:=by rfl) (hgd:o.guard=none:=by rfl)
 (hv:a.eval s=v:=by rfl) (hx:a.eval x=.slice ao m c:=by rfl) (h63:n+m≤maxLen:=by unfold maxLen;omega) (hbytes:(n+m)*bytes≤140737488355328:=by omega):wpList P ops Q (o::rest) a w:=
 zat _ hgd s x t ho T (zb8 hown) hv hs hx h1 h63 hbytes h
end
theorem exS:(∀(n:Nat) (Q:Exit→Act→World→Prop) (a:Act) (w:World),Exit.inBlock n Q .ret a w=Q .ret a w)∧(∀(f:Act→World→Prop) (Q:Exit→Act→World→Prop) (a:Act) (w:World),Exit.then f Q .ret a w=Q .ret a w)∧∀(Q:Exit→Act→World→Prop) (a:Act) (w:World),Exit.noGoto Q .ret a w=Q .ret a w:=
 ⟨fun _ _ _ _=>rfl,fun _ _ _ _=>rfl,fun _ _ _=>rfl⟩
def isRow (P:Program) (ty:TypeId):Bool:=match P.underlying ty with |some (.struct _)=>true|some (.array _ _)=>true|_=>false
theorem zm9 {P:Program} {ty:TypeId} (h:isRow P ty=true):∃d,P.underlying ty=some d∧(match d with | .struct _| .array _ _=>true|_=>false)=true:=by
 unfold isRow at h;split at h
 ·next e=>exact⟨_,e,rfl⟩
 ·next e=>exact⟨_,e,rfl⟩
 ·cases h
theorem zfe {P:Program} {fn:Func} {R:Ending→World→Prop} {a:Act} {w:World} {p:Tmp} {ty:TypeId} {g:Nat} {t:TypeId} {cs:Array Value} (hg:Blk w g t cs) (hR:R (.returned (.agg cs)) w) (h:fn.results= #[.cell p ty]:=by rfl) (hp:a.tmps.getD p undef=.pointer (some ⟨g,0,none⟩):=by rfl)
 (hu:isRow P ty=true:=by kernel_rfl) (hi:(P.info? ty).map (·.size)=some cs.size:=by kernel_rfl) (hd:a.defers=[]:=by rfl):bodyPost P fn R .ret a w:=by
 obtain⟨d,h1,h2⟩:=zm9 hu;exact bodyPost_ret (results_cell_row h _ _ g t cs (0,0) d hp hg h1 (by cases d<;>first|rfl|cases h2) hi) hd hR
theorem wc0 {w:World} {a:Addr} {u:Value} (h:w.cell? a=some u):∀b L (p:Within (Tch fun _=>False) w.drew b L),p.w.cell? a=some u:=zad h id
section
variable {w:World} {g:Nat} {t:TypeId}
theorem Blk.w1 {x0:Value} {r:List Value} (h:Blk w g t (x0::r).toArray):(∀b L (p:Within (Tch fun _=>False) w.drew b L),p.w.cell? ⟨g,0,none⟩=some x0):=zad h.at0 id
theorem Blk.w2 {x0 x1:Value} {r:List Value} (h:Blk w g t (x0::x1::r).toArray):(∀b L (p:Within (Tch fun _=>False) w.drew b L),p.w.cell? ⟨g,0,none⟩=some x0)∧(∀b L (p:Within (Tch fun _=>False) w.drew b L),p.w.cell? ⟨g,1,none⟩=some x1):=⟨zad h.at0 id,zad h.at1 id⟩
theorem Blk.w3 {x0 x1 x2:Value} {r:List Value} (h:Blk w g t (x0::x1::x2::r).toArray):(∀b L (p:Within (Tch fun _=>False) w.drew b L),p.w.cell? ⟨g,0,none⟩=some x0)∧(∀b L (p:Within (Tch fun _=>False) w.drew b L),p.w.cell? ⟨g,1,none⟩=some x1)∧(∀b L (p:Within (Tch fun _=>False) w.drew b L),p.w.cell? ⟨g,2,none⟩=some x2):=⟨zad h.at0 id,zad h.at1 id,zad h.at2 id⟩
theorem Blk.w4 {x0 x1 x2 x3:Value} {r:List Value} (h:Blk w g t (x0::x1::x2::x3::r).toArray):(∀b L (p:Within (Tch fun _=>False) w.drew b L),p.w.cell? ⟨g,0,none⟩=some x0)∧(∀b L (p:Within (Tch fun _=>False) w.drew b L),p.w.cell? ⟨g,1,none⟩=some x1)∧(∀b L (p:Within (Tch fun _=>False) w.drew b L),p.w.cell? ⟨g,2,none⟩=some x2)∧(∀b L (p:Within (Tch fun _=>False) w.drew b L),p.w.cell? ⟨g,3,none⟩=some x3):=⟨zad h.at0 id,zad h.at1 id,zad h.at2 id,zad h.at3 id⟩
theorem Blk.w6 {x0 x1 x2 x3 x4 x5:Value} {r:List Value} (h:Blk w g t (x0::x1::x2::x3::x4::x5::r).toArray):(∀b L (p:Within (Tch fun _=>False) w.drew b L),p.w.cell? ⟨g,0,none⟩=some x0)∧(∀b L (p:Within (Tch fun _=>False) w.drew b L),p.w.cell? ⟨g,1,none⟩=some x1)∧(∀b L (p:Within (Tch fun _=>False) w.drew b L),p.w.cell? ⟨g,2,none⟩=some x2)∧(∀b L (p:Within (Tch fun _=>False) w.drew b L),p.w.cell? ⟨g,3,none⟩=some x3)∧(∀b L (p:Within (Tch fun _=>False) w.drew b L),p.w.cell? ⟨g,4,none⟩=some x4)∧(∀b L (p:Within (Tch fun _=>False) w.drew b L),p.w.cell? ⟨g,5,none⟩=some x5):=⟨zad h.at0 id,zad h.at1 id,zad h.at2 id,zad h.at3 id,zad h.at4 id,zad h.at5 id⟩
theorem Blk.w14 {x0 x1 x2 x3 x4 x5 x6 x7 x8 x9 x10 x11 x12 x13:Value} {r:List Value} (h:Blk w g t (x0::x1::x2::x3::x4::x5::x6::x7::x8::x9::x10::x11::x12::x13::r).toArray):(∀b L (p:Within (Tch fun _=>False) w.drew b L),p.w.cell? ⟨g,0,none⟩=some x0)∧(∀b L (p:Within (Tch fun _=>False) w.drew b L),p.w.cell? ⟨g,1,none⟩=some x1)∧(∀b L (p:Within (Tch fun _=>False) w.drew b L),p.w.cell? ⟨g,2,none⟩=some x2)∧(∀b L (p:Within (Tch fun _=>False) w.drew b L),p.w.cell? ⟨g,3,none⟩=some x3)∧(∀b L (p:Within (Tch fun _=>False) w.drew b L),p.w.cell? ⟨g,4,none⟩=some x4)∧(∀b L (p:Within (Tch fun _=>False) w.drew b L),p.w.cell? ⟨g,5,none⟩=some x5)∧(∀b L (p:Within (Tch fun _=>False) w.drew b L),p.w.cell? ⟨g,6,none⟩=some x6)∧(∀b L (p:Within (Tch fun _=>False) w.drew b L),p.w.cell? ⟨g,7,none⟩=some x7)∧(∀b L (p:Within (Tch fun _=>False) w.drew b L),p.w.cell? ⟨g,8,none⟩=some x8)∧(∀b L (p:Within (Tch fun _=>False) w.drew b L),p.w.cell? ⟨g,9,none⟩=some x9)∧(∀b L (p:Within (Tch fun _=>False) w.drew b L),p.w.cell? ⟨g,10,none⟩=some x10)∧(∀b L (p:Within (Tch fun _=>False) w.drew b L),p.w.cell? ⟨g,11,none⟩=some x11)∧(∀b L (p:Within (Tch fun _=>False) w.drew b L),p.w.cell? ⟨g,12,none⟩=some x12)∧(∀b L (p:Within (Tch fun _=>False) w.drew b L),p.w.cell? ⟨g,13,none⟩=some x13):=⟨zad h.at0 id,zad h.at1 id,zad h.at2 id,zad h.at3 id,zad h.at4 id,zad h.at5 id,zad h.at6 id,zad h.at7 id,zad h.at8 id,zad h.at9 id,zad h.at10 id,zad h.at11 id,zad h.at12 id,zad h.at13 id⟩
end
open Go.RowKit
def Row (P:Nat→Prop) (w:World) (v:Value) (n size:Nat) (cs:List Value):Prop:=
 ∃A c,v=.slice A n c∧n≤c∧c≤maxLen∧cs.length=n*size∧(A=none→n=0∧c=0)∧(0<n→∃g o,A=some ⟨g,o,none⟩∧(P g∧g<w.heap.size)∧∀(j:Nat) (u:Value),cs[j]?=some u→w.cell? ⟨g,o+j,none⟩=some u)
section
variable {P P':Nat→Prop} {F:Nat→Prop} {w w':World} {v:Value} {n size:Nat} {cs:List Value}
theorem Row.nil (P:Nat→Prop) (w:World) (size:Nat):Row P w (.slice none 0 0) 0 size []:=⟨none,0,rfl,Nat.le_refl _,Nat.zero_le _,by simp,fun _=>⟨rfl,rfl⟩,fun h=>absurd h (by omega)⟩
theorem Row.keepTo (h:Row P w v n size cs) (t:Tch F w w') (hP:∀g,g<w.heap.size→P g→¬F g∧P' g):Row P' w' v n size cs:=by
 obtain⟨A,c,rfl,h1,h2,h3,h4,h5⟩:=h;refine⟨A,c,rfl,h1,h2,h3,h4,fun hn=>?_⟩;obtain⟨g,o,ha,h7,h6⟩:=h5 hn;have hg:=hP g h7.2 h7.1;exact⟨g,o,ha,⟨hg.2,Nat.lt_of_lt_of_le h7.2 t.size⟩,fun j u hu=>t.cell_some (h6 j u hu) hg.1⟩
theorem Row.keep (h:Row P w v n size cs) (t:Tf w w'):Row P w' v n size cs:=h.keepTo t fun _ _ h=>⟨id,h⟩
theorem Row.weak (h:Row P w v n size cs) (hP:∀g,P g→P' g):Row P' w v n size cs:=h.keepTo (Tch.refl (fun _=>False) w) fun g _ h=>⟨id,hP g h⟩
theorem Row.own {base:Nat} {e:TypeId} {xs:List Value} (h:w.ownsRow base e size v n xs) (hP:∀g,v.ownBlock=some g→P g):Row P w v n size xs:=by
 obtain⟨A,c,rfl,h1,h2,h3⟩:=zac h;have hs:=Src.own h;refine⟨A,c,rfl,h1,h2,h.1,hs.nil,fun hn=>?_⟩;obtain⟨g,rfl⟩:=ziq h hn;exact⟨g,0,rfl,⟨hP g rfl,own_lt h rfl⟩,fun j u hu=>by rw[Nat.zero_add];exact zk0 h (g:=g) rfl hu⟩
theorem Row.form (h:Row P w v n size cs):∃A c,v=.slice A n c∧n≤c∧c≤9223372036854775807:=let⟨A,c,e,h1,h2,_⟩:=h;⟨A,c,e,h1,by unfold maxLen at h2;exact h2⟩
theorem Row.len (h:Row P w v n size cs):cs.length=n*size:=let⟨_,_,_,_,_,h,_⟩:=h;h
theorem Row.src {A:Option Addr} {c:Nat} (h:Row P w (.slice A n c) n size cs):Src w A n c size cs:=by
 obtain⟨A',c',e,h1,h2,h3,h4,h5⟩:=h;injection e with e1 e2 e3;subst e1 e3;refine⟨h3,h4,fun a ha j u hu=>?_⟩
 have hn:0<n:=by
  have:=(List.getElem?_eq_some_iff.1 hu).1;rcases Nat.eq_zero_or_pos n with h0|h0
  ·rw[h0,Nat.zero_mul]at h3;omega
  ·exact h0
 obtain⟨g,o,ha',_,h6⟩:=h5 hn;rw[ha]at ha';obtain rfl:=Option.some.inj ha';rw[Addr.add_mid];exact h6 j u hu
theorem Row.head {A:Option Addr} {c:Nat} (h:Row P w (.slice A n c) n size cs) (hn:0<n):∃g o,A=some ⟨g,o,none⟩:=by
 obtain⟨A',c',e,h1,h2,h3,h4,h5⟩:=h;injection e with e1 e2 e3;subst e1 e3;obtain⟨g,o,ha,_⟩:=h5 hn;exact⟨g,o,ha⟩
theorem Row.at {g o c:Nat} (h:Row P w (.slice (some ⟨g,o,none⟩) n c) n size cs) {j:Nat} {u:Value} (hu:cs[j]?=some u):w.cell? ⟨g,o+j,none⟩=some u:=by
 have:=h.src.cell _ rfl j u hu;rwa [Addr.add_mid]at this
theorem Row.block {g o c:Nat} (h:Row P w (.slice (some ⟨g,o,none⟩) n c) n size cs) (hn:0<n):P g∧g<w.heap.size:=by
 obtain⟨A',c',e,h1,h2,h3,h4,h5⟩:=h;injection e with e1 e2 e3;subst e1 e3;obtain⟨g',o',ha,h7,_⟩:=h5 hn
 cases ha;exact h7
end
theorem zaz {g n c k:Nat} (h:(Value.slice (some ⟨g,0,none⟩) n c).ownBlock=some k):g=k:=Option.some.inj h
theorem Blk.new2 (w:World) (o:Obj) (t:TypeId) (cs:Array Value):Blk ((w.alloc o).alloc (.cells cs t)) (w.heap.size+1) t cs:=by
 simpa using Blk.new (w.alloc o) t cs
theorem zel (w:World) (e:TypeId) (size c:Nat) (cells:Array Value) (hc:c≤maxLen) (hs:cells.size=c*size):(w.alloc (.cells cells e)).ownsRow w.heap.size e size (.slice (some ⟨w.heap.size,0,none⟩) 0 c) 0 []:=
 ⟨by simp,.inr ⟨w.heap.size,c,cells,rfl,Nat.le_refl _,Blk.new w e cells,Nat.zero_le _,hc,hs,by simp⟩⟩
theorem Row.blk {B:Nat→Prop} {w:World} {g:Nat} {t:TypeId} {cs:Array Value} (h:Blk w g t cs) (hB:B g) {n size:Nat} (hl:cs.size=n*size) (hn:n≤maxLen):Row B w (.slice (some ⟨g,0,none⟩) n n) n size cs.toList:=
 ⟨_,n,rfl,Nat.le_refl _,hn,by simpa using hl,(fun h=>by cases h),fun _=>⟨g,0,rfl,⟨hB,h.lt⟩,fun j u hu=>by rw[Nat.zero_add,h.cell j,←hu];simp⟩⟩
theorem Row.take {P:Nat→Prop} {w:World} {n size:Nat} {cs:List Value} {A:Option Addr} {c:Nat} (h:Row P w (.slice A n c) n size cs) {k:Nat} (hk:k≤n):Row P w (.slice A k c) k size (cs.take (k*size)):=by
 obtain⟨A',c',e,h1,h2,h3,h4,h5⟩:=h;injection e with e1 e2 e3;subst e1 e3;have hm:k*size≤n*size:=Nat.mul_le_mul_right _ hk;refine⟨A,c,rfl,by omega,h2,by rw[List.length_take];omega,fun ha=>⟨by have:=(h4 ha).1;omega,(h4 ha).2⟩,fun hn=>?_⟩;obtain⟨g,o,ha,h7,h6⟩:=h5 (by omega);refine⟨g,o,ha,h7,fun j u hu=>h6 j u ?_⟩;rw[List.getElem?_take]at hu;split at hu
 ·exact hu
 ·cases hu
theorem zc5 {α:Type} {f:α→List Value} {size:Nat} (hf:∀a,(f a).length=size) (l:List α):(l.flatMap f).length=l.length*size:=by
 induction l with
 |nil=>simp
 |cons a r ih=>simp[ih,hf,Nat.add_mul];omega
theorem zfp {α:Type} {f:α→List Value} {size:Nat} (hf:∀a,(f a).length=size):∀(l:List α) (i:Nat) (h:i<l.length) (j:Nat),j<size→(l.flatMap f)[i*size+j]?=(f l[i])[j]?
 |a::r,0,_,j,hj=>by simp[List.getElem?_append_left,hf,hj]
 |a::r,i+1,h,j,hj=>by
  have:=zfp hf r i (by simpa using h) j hj;simp only[List.flatMap_cons,List.getElem_cons_succ];rw[List.getElem?_append_right (by rw[hf,Nat.add_mul];omega),hf,←this];congr 1;rw[Nat.add_mul];omega
theorem zs8 {α:Type} {f:α→List Value} {size:Nat} (hf:∀a,(f a).length=size) (l:List α) (lo k:Nat):((l.flatMap f).drop (lo*size)).take (k*size)=((l.drop lo).take k).flatMap f:=by
 have ht:∀(l:List α) (k:Nat),(l.flatMap f).take (k*size)=(l.take k).flatMap f:=fun l=>by
  induction l with
  |nil=>simp
  |cons a r ih=>
   intro k
   cases k with
   |zero=>simp
   |succ k=>
    rw[List.flatMap_cons,List.take_succ_cons,List.flatMap_cons,List.take_append,hf,List.take_of_length_le (by rw[hf,Nat.add_mul];omega)];rw[show(k+1)*size-size=k*size by rw[Nat.add_mul];omega,ih]
 have hd:∀(l:List α) (k:Nat),(l.flatMap f).drop (k*size)=(l.drop k).flatMap f:=fun l=>by
  induction l with
  |nil=>simp
  |cons a r ih=>
   intro k
   cases k with
   |zero=>simp
   |succ k=>
    rw[List.flatMap_cons,List.drop_succ_cons,List.drop_append,hf,List.drop_eq_nil_of_le (by rw[hf,Nat.add_mul];omega)];rw[show(k+1)*size-size=k*size by rw[Nat.add_mul];omega,ih,List.nil_append]
 rw[hd,ht]
section
variable {P:Program} {w:World} {B:Nat→Prop}
theorem Row.takes {α:Type} {f:α→List Value} {size:Nat} (hf:∀a,(f a).length=size) {A:Option Addr} {n c:Nat} {l:List α} (h:Row B w (.slice A n c) n size (l.flatMap f)) {k:Nat} (hk:k≤n):Row B w (.slice A k c) k size ((l.take k).flatMap f):=by
 have:=h.take hk;have e:=zs8 hf l 0 k;rw[Nat.zero_mul,List.drop_zero,List.drop_zero]at e;rwa [e]at this
theorem zt5 {e:TypeId} {size:Nat} (hi:(P.info? e).map (·.size)=some size) (w:World):(sizeOf e).run P w=.ok size w:=by
 cases hq:P.info? e with
 |none=>simp[hq]at hi
 |some i=>
  have hs:i.size=size:=by simpa[hq]using hi
  simp[sizeOf,typeInfo,hq,hs]
end
abbrev Acc:=Int×Int×Bool×Bool
abbrev zbv:=Int×Int×Int×Int
abbrev Rt6:=Int×Int×Int×Int×Int×Int
abbrev Lk2:=Int×Int
abbrev Ln4:=Int×Int×Int×Int
structure Ent where
 period:Int
 reverses:Int
 lines:List Ln4
structure Bks where
 ents:List Int
 accs:List Acc
 stakes:List zbv
 rates:List Rt6
 locks:List Lk2
 entries:List Ent
def zby (a:Int):List Value:=[.int .i64 a]
def zfq (a:Acc):List Value:=[.int .i64 a.1,.int .i64 a.2.1,.bool a.2.2.1,.bool a.2.2.2]
def zdr (a:Int×Int×Int×Int):List Value:=[.int .i64 a.1,.int .i64 a.2.1,.int .i64 a.2.2.1,.int .i64 a.2.2.2]
def za2 (a:Rt6):List Value:=[.int .i64 a.1,.int .i64 a.2.1,.int .i64 a.2.2.1,.int .i64 a.2.2.2.1,.int .i64 a.2.2.2.2.1,.int .i64 a.2.2.2.2.2]
def zn0 (a:Int×Int):List Value:=[.int .i64 a.1,.int .i64 a.2]
theorem zap:∀a,(zby a).length=1:=fun _=>rfl
theorem zcm:∀a,(zfq a).length=4:=fun _=>rfl
theorem zbg:∀a,(zdr a).length=4:=fun _=>rfl
theorem zd3:∀a,(za2 a).length=6:=fun _=>rfl
theorem zk1:∀a,(zn0 a).length=2:=fun _=>rfl
abbrev zae {α:Type} (f:α→List Value) (size:Nat) (B:Nat→Prop) (w:World) (v:Value) (l:List α):Prop:=Row B w v l.length size (l.flatMap f)
theorem zbk {w:World} {base:Nat} {e:TypeId} {size n:Nat} {v:Value} {xs:List Value} (h:w.ownsRow 0 e size v n xs) (hb:∀g,v.ownBlock=some g→base≤g):w.ownsRow base e size v n xs:=by
 refine⟨h.1,?_⟩
 rcases h.2 with h|⟨g,cap,cur,rfl,_,h3⟩
 ·exact .inl h
 ·exact .inr ⟨g,cap,cur,rfl,hb g rfl,h3⟩
theorem Row.elem {α:Type} {f:α→List Value} {size:Nat} (hf:∀a,(f a).length=size) {B:Nat→Prop} {w:World} {g o c:Nat} {l:List α} (h:Row B w (.slice (some ⟨g,o,none⟩) l.length c) l.length size (l.flatMap f)) {i:Nat} (hi:i<l.length) {j:Nat} (hj:j<size) {u:Value} (hu:(f l[i])[j]?=some u):
 w.cell? ⟨g,o+i*size+j,none⟩=some u:=by
 have:=zfp hf l i hi j hj;rw[Nat.add_assoc];exact h.at (this.trans hu)
def zvp (p:Ent×Value):List Value:=[.int .i64 p.1.period,.int .i64 p.1.reverses,p.2]
theorem zc6:∀a,(zvp a).length=3:=fun _=>rfl
def Entries (B:Nat→Prop) (w:World) (v:Value) (l:List Ent):Prop:=
 ∃us:List (Ent×Value),us.map (·.1)=l∧Row B w v us.length 3 (us.flatMap zvp)∧∀p∈us,zae zdr 4 B w p.2 p.1.lines
structure BooksIs (B:Nat→Prop) (w:World) (v:Value) (b:Bks):Prop where
 ex:∃e a s r l n,v=.agg #[e,a,s,r,l,n]∧zae zby 1 B w e b.ents∧zae zfq 4 B w a b.accs∧zae zdr 4 B w s b.stakes∧zae za2 6 B w r b.rates∧zae zn0 2 B w l b.locks∧Entries B w n b.entries
section
variable {B B':Nat→Prop} {F:Nat→Prop} {w w':World} {v:Value}
theorem Entries.keepTo {l:List Ent} (h:Entries B w v l) (t:Tch F w w') (hP:∀g,g<w.heap.size→B g→¬F g∧B' g):Entries B' w' v l:=
 let⟨us,h1,h2,h3⟩:=h;⟨us,h1,h2.keepTo t hP,fun p hp=>(h3 p hp).keepTo t hP⟩
theorem Entries.keep {l:List Ent} (h:Entries B w v l) (t:Tf w w'):Entries B w' v l:=h.keepTo t fun _ _ h=>⟨id,h⟩
theorem BooksIs.keepTo {b:Bks} (h:BooksIs B w v b) (t:Tch F w w') (hP:∀g,g<w.heap.size→B g→¬F g∧B' g):BooksIs B' w' v b:=
 let⟨e,a,s,r,l,n,h0,h1,h2,h3,h4,h5,h6⟩:=h.ex
 ⟨e,a,s,r,l,n,h0,h1.keepTo t hP,h2.keepTo t hP,h3.keepTo t hP,h4.keepTo t hP,h5.keepTo t hP,h6.keepTo t hP⟩
theorem BooksIs.keep {b:Bks} (h:BooksIs B w v b) (t:Tf w w'):BooksIs B w' v b:=h.keepTo t fun _ _ h=>⟨id,h⟩
theorem Entries.len {l:List Ent} (h:Entries B w v l):∃A c,v=.slice A l.length c∧l.length≤c∧c≤9223372036854775807:=by
 obtain⟨us,h1,h2,_⟩:=h;have:=h2.form;rw[←h1,List.length_map];exact this
end
def zbe:List Nat→Nat
 |[]=>0
 |d::r=>d+10*zbe r
def Digs (l:List Nat):Prop:=∀d∈l,d<10
def Norm (l:List Nat):Prop:=Digs l∧∀h:l≠[],l.getLast h≠0
def dg (n:Nat):List Nat:=if h:n=0 then[]else(n%10)::dg (n/10)
termination_by n
theorem zcj:dg 0=[]:=by rw[dg];simp
theorem zht {n:Nat} (h:0<n):dg n=(n%10)::dg (n/10):=by rw[dg];simp[Nat.ne_of_gt h]
theorem Digs.tail {d:Nat} {r:List Nat} (h:Digs (d::r)):d<10∧Digs r:=⟨h d (by simp),fun e he=>h e (by simp[he])⟩
theorem Norm.tail {d:Nat} {r:List Nat} (h:Norm (d::r)):Norm r:=by
 refine⟨(Digs.tail h.1).2,fun hr=>?_⟩;have:=h.2 (by simp);rwa [List.getLast_cons hr]at this
theorem Norm.pos {d:Nat} {r:List Nat} (h:Norm (d::r)):0<zbe (d::r):=by
 induction r generalizing d with
 |nil=>
  have:=h.2 (by simp);simp at this;simp[zbe];omega
 |cons e r ih=>
  have:=ih h.tail;simp only[zbe]at this⊢;omega
theorem Norm.eq {l:List Nat} (h:Norm l):l=dg (zbe l):=by
 induction l with
 |nil=>exact zcj.symm
 |cons d r ih=>
  have hp:=h.pos;have hd:=(Digs.tail h.1).1;rw[zht hp];have e1:zbe (d::r)%10=d:=by simp only[zbe];omega
  have e2:zbe (d::r)/10=zbe r:=by simp only[zbe];omega
  rw[e1,e2,←ih h.tail]
theorem zdd (a b:List Nat):zbe (a++b)=zbe a+10^a.length*zbe b:=by
 induction a with
 |nil=>simp[zbe]
 |cons d r ih=>simp only[List.cons_append,zbe,ih,List.length_cons,Nat.pow_succ];rw[Nat.mul_add];simp only[←Nat.mul_assoc,Nat.mul_comm];omega
theorem zir (a:List Nat) (d:Nat):zbe (a++[d])=zbe a+10^a.length*d:=by
 rw[zdd];simp[zbe]
theorem zlm {l:List Nat} (h:Digs l):zbe l<10^l.length:=by
 induction l with
 |nil=>simp[zbe]
 |cons d r ih=>
  have:=ih h.tail.2;have h1:=h.tail.1;simp only[zbe,List.length_cons,Nat.pow_succ];omega
theorem zfw {l:List Nat} {i:Nat} (h:i<l.length):zbe (l.take (i+1))=zbe (l.take i)+10^i*l.getD i 0:=by
 rw[List.take_succ_eq_append_getElem h,zir,List.length_take,Nat.min_eq_left (by omega)];simp[h]
theorem zdl {l:List Nat} {i:Nat} (h:l.length≤i):zbe (l.take i)=zbe l:=by rw[List.take_of_length_le h]
structure More (a b out:List Nat) (i carry:Nat):Prop where
 len:out.length=i
 digs:Digs out
 small:carry≤1
 val:zbe out+10^i*carry=zbe (a.take i)+zbe (b.take i)
theorem More.start (a b:List Nat):More a b [] 0 0:=⟨rfl,(fun d h=>by cases h),Nat.zero_le _,by simp[zbe]⟩
theorem More.step {a b out:List Nat} {i carry:Nat} (h:More a b out i carry) (ha:Digs a) (hb:Digs b) {d:Nat} (hd:d=carry+a.getD i 0+b.getD i 0):More a b (out++[d%10]) (i+1) (d/10):=by
 have h1:=h.small
 have ga:a.getD i 0<10:=by
  simp only[List.getD_eq_getElem?_getD]
  cases e:a[i]? with
  |none=>simp
  |some x=>exact ha x (List.mem_of_getElem? e)
 have gb:b.getD i 0<10:=by
  simp only[List.getD_eq_getElem?_getD]
  cases e:b[i]? with
  |none=>simp
  |some x=>exact hb x (List.mem_of_getElem? e)
 have ta:∀l:List Nat,zbe (l.take (i+1))=zbe (l.take i)+10^i*l.getD i 0:=fun l=>by
  by_cases hi:i<l.length
  ·exact zfw hi
  ·rw[List.take_of_length_le (by omega),List.take_of_length_le (by omega)];simp[List.getElem?_eq_none (show l.length≤i by omega)]
 refine⟨by simp[h.len],fun e he=>?_,by omega,?_⟩
 ·rcases List.mem_append.1 he with he|he
  ·exact h.digs e he
  ·obtain rfl:e=d%10:=by simpa using he
   omega
 ·rw[zir,h.len,ta a,ta b];have hv:=h.val
  have:10^(i+1)*(d/10)+10^i*(d%10)=10^i*d:=by
   rw[Nat.pow_succ,Nat.mul_assoc,←Nat.mul_add];congr 1;omega
  have e2:10^i*d=10^i*carry+10^i*a.getD i 0+10^i*b.getD i 0:=by rw[hd,Nat.mul_add,Nat.mul_add]
  omega
theorem More.stop {a b out:List Nat} {i:Nat} (h:More a b out i 0) (ha:a.length≤i) (hb:b.length≤i):zbe out=zbe a+zbe b:=by
 have:=h.val;rwa [Nat.mul_zero,Nat.add_zero,zdl ha,zdl hb]at this
structure Fewer (a b out:List Nat) (i borrow:Nat):Prop where
 len:out.length=i
 digs:Digs out
 small:borrow≤1
 val:zbe out+zbe (b.take i)=zbe (a.take i)+10^i*borrow
theorem Fewer.start (a b:List Nat):Fewer a b [] 0 0:=⟨rfl,(fun d h=>by cases h),Nat.zero_le _,by simp[zbe]⟩
theorem Fewer.step {a b out:List Nat} {i borrow:Nat} (h:Fewer a b out i borrow) {d borrow':Nat} (hd:d+borrow+b.getD i 0=a.getD i 0+10*borrow') (h10:d<10) (hb':borrow'≤1):Fewer a b (out++[d]) (i+1) borrow':=by
 have ta:∀l:List Nat,zbe (l.take (i+1))=zbe (l.take i)+10^i*l.getD i 0:=fun l=>by
  by_cases hi:i<l.length
  ·exact zfw hi
  ·rw[List.take_of_length_le (by omega),List.take_of_length_le (by omega)];simp[List.getElem?_eq_none (show l.length≤i by omega)]
 refine⟨by simp[h.len],fun e he=>?_,hb',?_⟩
 ·rcases List.mem_append.1 he with he|he
  ·exact h.digs e he
  ·obtain rfl:e=d:=by simpa using he
   exact h10
 ·rw[zir,h.len,ta a,ta b,Nat.pow_succ];have hv:=h.val;have e1:10^i*(d+borrow+b.getD i 0)=10^i*(a.getD i 0+10*borrow'):=by rw[hd]
  rw[Nat.mul_add,Nat.mul_add,Nat.mul_add,←Nat.mul_assoc]at e1;omega
theorem Fewer.stop {a b out:List Nat} {borrow:Nat} (h:Fewer a b out a.length borrow) (hle:zbe b≤zbe a) (hlen:b.length≤a.length):zbe out=zbe a-zbe b:=by
 have hv:=h.val;rw[zdl (Nat.le_refl _),zdl hlen]at hv;have hl:=zlm h.digs;rw[h.len]at hl;have hb:=h.small;rcases Nat.eq_zero_or_pos borrow with e|e
 ·subst e;omega
 ·obtain rfl:borrow=1:=by omega
  omega
