/-
  Plain theorems over whatever program: a region that draws its order, some of whose operations make memory (values that are not unique), or write in a forced order; a forced tail behind. No program in sight.
-/
import Derived.Deep.Quiet
import Derived.BigQuiet
import Derived.WalkKit
import Derived.StillTail
import Derived.Below
import Derived.Laws.World
namespace Go.Gk
open Go
section
variable {P:Program}
def yieldsUpon (P:Program) (S:Value→World→Prop):Result Next→Prop
 | .ok (.value v) w'=>S v w'
 | .ok .skip w'=>S undef w'
 | .ok (.enter f args) w'=>Calls P f args w' (fun e w''=>∃v,e=.returned v∧S v w'')
 | .ok (.row row args) w'=>Rows P row args w' S
 |_=>False
def yields (P:Program) (o:Oper) (a:Act) (w:World) (S:Value→World→Prop):Prop:=yieldsUpon P S ((execOp a.eval o).run P w)
theorem yields_mono {o:Oper} {a:Act} {w:World} {S S':Value→World→Prop} (h:∀v w,S v w→S' v w) (hh:yields P o a w S):yields P o a w S':=by
 unfold yields at *;generalize(execOp a.eval o).run P w=r at *
 cases r with
 |ok n w'=>
  cases n<;>simp only[yieldsUpon]at hh⊢ <;>
   first
    |exact h _ _ hh
    |exact Calls.mono hh (fun e w'' ⟨v,hv,hs⟩=>⟨v,hv,h _ _ hs⟩)
    |exact Rows.mono hh h
 |halt x w'=>simp only[yieldsUpon]at hh
theorem yields_congr {o:Oper} {a a':Act} {w:World} {S:Value→World→Prop} (he:execOp a'.eval o=execOp a.eval o)
 (h:yields P o a w S):yields P o a' w S:=by
 unfold yields at *;rw[he];exact h
theorem wp_of_yields {o:Oper} {a:Act} {w:World} {S:Value→World→Prop} {K:Act→World→Prop} {Q:Exit→Act→World→Prop} (h:yields P o a w S)
 (hk:∀v w',S v w'→K (a.put o.dst v) w'):o.wp P a w K Q:=by
 unfold yields at h;unfold Oper.wp;generalize(execOp a.eval o).run P w=r at *
 cases r with
 |ok n w'=>
  cases n<;>simp only[yieldsUpon]at h<;>simp only[Oper.upon]<;>
   first
    |exact hk _ _ h
    |exact Calls.mono h (fun e w'' ⟨v,hv,hs⟩=>by subst hv;exact hk _ _ hs)
    |exact Rows.mono h hk
 |halt x w'=>simp only[yieldsUpon]at h
def isVal (P:Program) (o:Oper) (a:Act) (w:World) (x:Value):Prop:=(execOp a.eval o).run P w=.ok (.value x) w∨((execOp a.eval o).run P w=.ok .skip w∧x=undef)
theorem isVal_congr {o:Oper} {a a':Act} {w:World} {x:Value} (he:execOp a'.eval o=execOp a.eval o) (h:isVal P o a w x):isVal P o a' w x:=by
 unfold isVal at *;rw[he];exact h
theorem isVal_unique {o:Oper} {a:Act} {w:World} {x y:Value} (h:isVal P o a w x) (h':isVal P o a w y):x=y:=by
 rcases h with h|⟨h,rfl⟩<;>rcases h' with h'|⟨h',rfl⟩<;>rw[h]at h'<;>simp at h'<;>first|exact h'|rfl
theorem yields_of_isVal {o:Oper} {a:Act} {w:World} {x:Value} {S:Value→World→Prop} (h:isVal P o a w x) (hs:S x w):yields P o a w S:=by
 unfold yields;rcases h with h|⟨h,rfl⟩<;>rw[h]<;>exact hs
def Facts (b:Nat) (L:List (Nat×(World→Prop))) (w:World):Prop:=∀p∈L,b.testBit p.1=true→p.2 w
structure Env where
 ops:Array Oper
 bef:Array Nat
 R:World→World→Prop
 R0:World→World→Prop
 J:Nat→World→Prop
 w0:World
 ks:Nat→Option (Sum Value (Value→World→Prop))
 sp:Nat→Option Nat
 fr:Nat→Bool
def blkOf:Value→Option Nat
 | .pointer (some a)=>some a.block
 | .slice (some a) _ _=>some a.block
 | .map (some r)=>some r
 |_=>none
def newAt (b:Bool) (v:Value) (w w':World):Prop:=b=true→∀g,blkOf v=some g→w.heap.size≤g∧g<w'.heap.size
def Env.asks (E:Env) (P:Program) (k:Nat) (F:World→Prop) (o:Oper) (a:Act) (V:Value→World→Prop):Prop:=
 match E.sp k with
 |none=>∀w,E.R E.w0 w→F w→yields P o a w (fun v w'=>(V v w'∧E.R0 w w')∧newAt (E.fr k) v w w')
 |some s=>∀w,E.R E.w0 w→E.J s w→F w→yields P o a w (fun v w'=>(V v w'∧E.R w w'∧E.J (s+1) w')∧newAt (E.fr k) v w w')
def Env.head (E:Env) (P:Program) (fin:Act→List (Nat×(World→Prop))→Prop):List Oper→Nat→Act→List (Nat×(World→Prop))→Prop
 |[],_,a,L=>fin a L
 |o::rest,k,a,L=>
  if Region.wanted o (yielded E.ops a.tmps)=true then
   match E.ks k with
   |none=>(E.sp k=none∧E.fr k=false)∧∃x,(∀w,E.R E.w0 w→Facts (E.bef.getD k 0) L w→isVal P o a w x)∧E.head P fin rest (k+1) (a.put o.dst x) L
   |some (.inl x)=>E.asks P k (Facts (E.bef.getD k 0) L) o a (fun v _=>v=x)∧E.head P fin rest (k+1) (a.put o.dst x) L
   |some (.inr V)=>E.asks P k (Facts (E.bef.getD k 0) L) o a V∧∀v,E.head P fin rest (k+1) (a.put o.dst v) ((k,V v)::L)
  else E.sp k=none∧E.head P fin rest (k+1) (a.put o.dst undef) L
def dstOf (ops:Array Oper) (k:Nat):Option Tmp:=(ops[k]?).bind (·.dst)
def befOK (ops:Array Oper) (bef:Array Nat) (n:Nat):Bool:=
 (List.range n).all fun k=>match ops[k]? with
  |none=>false
  |some o=>bef.getD k 0==o.after.toList.foldl (fun s e=>if Region.binds .any e then s|||2^e.on|||bef.getD e.on 0 else s) 0
def lookOK (ops:Array Oper) (bef:Array Nat) (n:Nat):Bool:=
 (List.range n).all fun k=>match ops[k]? with
  |none=>false
  |some o=>(o.looksAt ops).all fun t=>(List.range n).all fun j=>(dstOf ops j !=some t)||((bef.getD k 0).testBit j&&decide (j<k))
def dstOK (ops:Array Oper) (n N:Nat):Bool:=
 (List.range n).all fun k=>match dstOf ops k with
  |none=>true
  |some d=>decide (d<N)&&(List.range k).all fun j=>dstOf ops j !=some d
def edgeOK (ops:Array Oper) (n:Nat):Bool:=
 (List.range n).all fun k=>match ops[k]? with
  |none=>false
  |some o=>o.after.toList.all fun e=>!Region.binds .any e||decide (e.on<k)
def spOK (bef:Array Nat) (sp:Nat→Option Nat) (n:Nat):Bool:=
 (List.range n).all fun k=>match sp k with
  |none=>true
  |some s=>(s==0||(List.range k).any fun j=>sp j==some (s-1)&&(bef.getD k 0).testBit j)&&(List.range k).all fun j=>sp j !=some s
theorem testBit_foldl (bef:Array Nat) (j:Nat):∀(l:List Edge) (s:Nat),(l.foldl (fun s e=>if Region.binds .any e then s|||2^e.on|||bef.getD e.on 0 else s) s).testBit j=true→
 s.testBit j=true∨∃e∈l,Region.binds .any e=true∧(e.on=j∨(bef.getD e.on 0).testBit j=true)
 |[],s,h=>.inl h
 |e::l,s,h=>by
  simp only[List.foldl_cons]at h
  rcases testBit_foldl bef j l _ h with h|⟨e',he,hb⟩
  ·split at h
   ·rename_i hb
    rw[Nat.testBit_or,Nat.testBit_or,Nat.testBit_two_pow]at h;simp only[Bool.or_eq_true,decide_eq_true_eq]at h;rcases h with(h|h)|h
    ·exact .inl h
    ·exact .inr ⟨e,by simp,hb,.inl h⟩
    ·exact .inr ⟨e,by simp,hb,.inr h⟩
   ·exact .inl h
  ·exact .inr ⟨e',by simp[he],hb⟩
def val (a:Act) (o:Oper) (x:Value):Prop:=∀d,o.dst=some d→a.tmps.getD d undef=x
def Env.settled (E:Env) (P:Program) (k:Nat) (o:Oper) (A:Act) (w:World):Prop:=
 if Region.wanted o (yielded E.ops A.tmps)=true then
  match E.ks k with
  |none=>∃x,val A o x∧∀w',E.R w w'→isVal P o A w' x
  |some (.inl x)=>val A o x
  |some (.inr V)=>∃v,val A o v∧V v w
 else val A o undef
structure Env.Laws (E:Env) (n N:Nat):Prop where
 grows:∀a b,E.R a b→a.heap.size≤b.heap.size
 refl:∀w,E.R w w
 trans:∀a b c,E.R a b→E.R b c→E.R a c
 sub:∀a b,E.R0 a b→E.R a b
 keepJ:∀s a b,E.R0 a b→E.J s a→E.J s b
 keepV:∀k V,E.ks k=some (.inr V)→∀v a b,E.R a b→V v a→V v b
 noSel:Region.noSelect E.ops=true
 bef:befOK E.ops E.bef n=true
 look:lookOK E.ops E.bef n=true
 dst:dstOK E.ops n N=true
 edge:edgeOK E.ops n=true
 sp:spOK E.bef E.sp n=true
structure Env.Inv (E:Env) (P:Program) (n:Nat) (a0:Act) (listed:Array Bool) (A:Act) (w:World):Prop where
 head:HeadInv .any E.ops n listed
 r:E.R E.w0 w
 size:A.tmps.size=a0.tmps.size
 defers:A.defers=a0.defers
 same:∀t,(∀j,j<n→dstOf E.ops j≠some t)→A.tmps.getD t undef=a0.tmps.getD t undef
 settled:∀k o,k<n→E.ops[k]?=some o→listed.getD k false=true→E.settled P k o A w
 fresh:∀k d,k<n→listed.getD k false=true→E.fr k=true→dstOf E.ops k=some d→∀g,blkOf (A.tmps.getD d undef)=some g→g<w.heap.size∧
  ∀k' d',k'<n→listed.getD k' false=true→E.fr k'=true→dstOf E.ops k'=some d'→k≠k'→blkOf (A.tmps.getD d' undef)≠some g
 j:∃s,(∀k s',k<n→E.sp k=some s'→(listed.getD k false=true↔s'<s))∧(s=0∨∃k,k<n∧E.sp k=some (s-1))∧E.J s w
section
variable {E:Env} {n N:Nat} {a0:Act} {listed:Array Bool} {A:Act} {w:World}
theorem dstOf_of {ops:Array Oper} {k:Nat} {o:Oper} (h:ops[k]?=some o):dstOf ops k=o.dst:=by simp[dstOf,h]
theorem look_spec (G:E.Laws n N) {k:Nat} {o:Oper} (hk:k<n) (ho:E.ops[k]?=some o) {t:Tmp} (ht:t∈o.looksAt E.ops) {j:Nat} (hj:j<n) (hd:dstOf E.ops j=some t):
 (E.bef.getD k 0).testBit j=true∧j<k:=by
 have h:=List.all_eq_true.1 G.look k (List.mem_range.2 hk);simp only[ho]at h;have h2:=List.all_eq_true.1 (List.all_eq_true.1 h t ht) j (List.mem_range.2 hj);simp only[hd,bne_self_eq_false,Bool.false_or,Bool.and_eq_true,decide_eq_true_eq]at h2;exact h2
theorem bef_spec (G:E.Laws n N) {k:Nat} {o:Oper} (hk:k<n) (ho:E.ops[k]?=some o) {j:Nat} (h:(E.bef.getD k 0).testBit j=true):
 ∃e∈o.after,Region.binds .any e=true∧(e.on=j∨(E.bef.getD e.on 0).testBit j=true):=by
 have h1:=List.all_eq_true.1 G.bef k (List.mem_range.2 hk);simp only[ho,beq_iff_eq]at h1;rw[h1]at h
 rcases testBit_foldl E.bef j _ _ h with h|⟨e,he,hb⟩
 ·simp at h
 ·exact⟨e,by simpa using he,hb⟩
theorem edge_spec (G:E.Laws n N) {k:Nat} {o:Oper} (hk:k<n) (ho:E.ops[k]?=some o) {e:Edge} (he:e∈o.after) (hb:Region.binds .any e=true):e.on<k:=by
 have h1:=List.all_eq_true.1 G.edge k (List.mem_range.2 hk);simp only[ho]at h1;have h2:=List.all_eq_true.1 h1 e (by simpa using he);simpa[hb]using h2
theorem bef_listed (G:E.Laws n N) (inv:HeadInv .any E.ops n listed):∀(k:Nat) (o:Oper),k<n→E.ops[k]?=some o→(∀e∈o.after,Region.binds .any e=true→listed.getD e.on false=true)→
 ∀j,(E.bef.getD k 0).testBit j=true→listed.getD j false=true:=by
 intro k;induction k using Nat.strongRecOn with
 |_ k ih=>
  intro o hk ho hall j hj;obtain⟨e,he,hb,h⟩:=bef_spec G hk ho hj;have hl:=hall e he hb;rcases h with rfl|h
  ·exact hl
  ·have hek:=edge_spec G hk ho he hb
   have hlt:e.on<E.ops.size:=by
    have:=(Array.getElem?_eq_some_iff.1 ho).1;omega
   have hoe:E.ops[e.on]?=some (E.ops[e.on]):=Array.getElem?_eq_getElem hlt;exact ih e.on hek _ (by omega) hoe (fun e' he' hb'=>inv.closed e.on _ hoe hl e' he' hb') j h
theorem bef_of_listed (G:E.Laws n N) (inv:HeadInv .any E.ops n listed) {k:Nat} {o:Oper} (hk:k<n) (ho:E.ops[k]?=some o) (hl:listed.getD k false=true):
 ∀j,(E.bef.getD k 0).testBit j=true→listed.getD j false=true:=
 bef_listed G inv k o hk ho (fun e he hb=>inv.closed k o ho hl e he hb)
theorem execOp_agree {ops:Array Oper} {o:Oper} (hs:∀cs b,o.op≠.select cs b) {a A:Act} (h:∀t∈o.looksAt ops,a.tmps.getD t undef=A.tmps.getD t undef):execOp A.eval o=execOp a.eval o:=
 execOp_congr o hs fun x hx=>by
  cases x with
  |tmp t=>exact(h t (List.mem_append_left _ (List.mem_filterMap.2 ⟨.tmp t,by simpa using hx,rfl⟩))).symm
  |_=>rfl
theorem bool_getD (tmps:Array Value) (t:Nat) (u:Option Bool) (h:(match tmps[t]? with |some (.bool b)=>some b|_=>none)=u):(match tmps.getD t undef with | .bool b=>some b|_=>none)=u:=by
 subst h;rcases Nat.lt_or_ge t tmps.size with h|h
 ·simp[h];split<;>simp_all
 ·simp[Array.getElem?_eq_none h,undef]
theorem yielded_getD (ops:Array Oper) (tmps:Array Value) (g:Nat) (t:Tmp) (ht:(ops[g]?).bind (·.dst)=some t):yielded ops tmps g=(match tmps.getD t undef with | .bool b=>some b|_=>none):=by
 unfold yielded;rw[ht];exact(bool_getD tmps t _ rfl).symm
theorem wanted_agree {ops:Array Oper} {o:Oper} {a A:Act} (h:∀t∈o.looksAt ops,a.tmps.getD t undef=A.tmps.getD t undef):Region.wanted o (yielded ops A.tmps)=Region.wanted o (yielded ops a.tmps):=by
 unfold Region.wanted
 cases hg:o.guard with
 |none=>rfl
 |some gw=>
  obtain⟨g,want⟩:=gw
  have hy:yielded ops A.tmps g=yielded ops a.tmps g:=by
   cases ht:(ops[g]?).bind (·.dst)with
   |none=>simp[yielded,ht]
   |some t=>
    have:=h t (by simp[Oper.looksAt,hg,ht]);rw[yielded_getD _ _ _ _ ht,yielded_getD _ _ _ _ ht,this]
  simp only[hy]
theorem getD_put_same {a:Act} {d:Tmp} {v:Value} (h:d<a.tmps.size):(a.put (some d) v).tmps.getD d undef=v:=by
 simp[Act.put,h]
theorem getD_put_other {a:Act} {x:Option Tmp} {t:Tmp} {v:Value} (h:x≠some t):(a.put x v).tmps.getD t undef=a.tmps.getD t undef:=by
 cases x with
 |none=>rfl
 |some d=>
  have:d≠t:=fun e=>h (by rw[e])
  simp[Act.put,Array.getElem?_setIfInBounds_ne this]
theorem put_size (a:Act) (x:Option Tmp) (v:Value):(a.put x v).tmps.size=a.tmps.size:=by cases x<;>simp[Act.put]
theorem put_defers (a:Act) (x:Option Tmp) (v:Value):(a.put x v).defers=a.defers:=by cases x<;>rfl
def Env.goes (E:Env) (P:Program) (k:Nat) (o:Oper) (A:Act) (w:World) (V:Value→World→Prop):Prop:=
 match E.sp k with
 |none=>yields P o A w (fun v w'=>(V v w'∧E.R0 w w')∧newAt (E.fr k) v w w')
 |some s=>E.J s w→yields P o A w (fun v w'=>(V v w'∧E.R w w'∧E.J (s+1) w')∧newAt (E.fr k) v w w')
def Env.next (E:Env) (P:Program) (k:Nat) (o:Oper) (A:Act) (w:World):Prop:=
 if Region.wanted o (yielded E.ops A.tmps)=true then
  match E.ks k with
  |none=>(E.sp k=none∧E.fr k=false)∧∃x,∀w',E.R w w'→isVal P o A w' x
  |some (.inl x)=>E.goes P k o A w (fun v _=>v=x)
  |some (.inr V)=>E.goes P k o A w V
 else E.sp k=none
structure Env.Along (E:Env) (n k:Nat) (a0:Act) (listed:Array Bool) (A a:Act) (w:World) (L:List (Nat×(World→Prop))):Prop where
 agree:∀t,(∀j,j<n→dstOf E.ops j=some t→j<k∧listed.getD j false=true)→a.tmps.getD t undef=A.tmps.getD t undef
 size:a.tmps.size=a0.tmps.size
 defers:a.defers=a0.defers
 facts:∀p∈L,p.1<k∧(listed.getD p.1 false=true→∀w',E.R w w'→p.2 w')
theorem Env.Along.looks {k:Nat} {a:Act} {L:List (Nat×(World→Prop))} (G:E.Laws n N) (al:E.Along n k a0 listed A a w L) {o:Oper} (hk:k<n) (ho:E.ops[k]?=some o)
 (hb:∀j,(E.bef.getD k 0).testBit j=true→listed.getD j false=true):∀t∈o.looksAt E.ops,a.tmps.getD t undef=A.tmps.getD t undef:=fun t ht=>
 al.agree t fun j hj hd=>by
  obtain⟨h1,h2⟩:=look_spec G hk ho ht hj hd;exact⟨h2,hb j h1⟩
theorem Env.Along.facts_at {k:Nat} {a:Act} {L:List (Nat×(World→Prop))} (al:E.Along n k a0 listed A a w L) {b:Nat} (hb:∀j,b.testBit j=true→listed.getD j false=true)
 {w':World} (hr:E.R w w'):Facts b L w':=fun p hp ht=>(al.facts p hp).2 (hb _ ht) w' hr
theorem Env.Along.step {k:Nat} {a:Act} {L:List (Nat×(World→Prop))} (G:E.Laws n N) (hN:a0.tmps.size=N) (al:E.Along n k a0 listed A a w L) {o:Oper} (hk:k<n) (ho:E.ops[k]?=some o) {x:Value}
 (hx:listed.getD k false=true→val A o x) {L':List (Nat×(World→Prop))} (hL:∀p∈L',p∈L∨(p.1=k∧(listed.getD k false=true→∀w',E.R w w'→p.2 w'))):
 E.Along n (k+1) a0 listed A (a.put o.dst x) w L':=by
 refine⟨fun t ht=>?_,by rw[put_size];exact al.size,by rw[put_defers];exact al.defers,fun p hp=>?_⟩
 ·by_cases hd:o.dst=some t
  ·obtain⟨_,hl⟩:=ht k hk (by rw[dstOf_of ho];exact hd);have h1:=List.all_eq_true.1 G.dst k (List.mem_range.2 hk);rw[dstOf_of ho,hd]at h1;simp only[Bool.and_eq_true,decide_eq_true_eq]at h1;rw[hd,getD_put_same (by rw[al.size,hN];exact h1.1)];exact(hx hl t hd).symm
  ·rw[getD_put_other hd];refine al.agree t fun j hj hdj=>?_
   obtain⟨h1,h2⟩:=ht j hj hdj;refine⟨?_,h2⟩;have:j≠k:=fun e=>hd (by subst e;rw[←dstOf_of ho];exact hdj)
   omega
 ·rcases hL p hp with h|⟨h1,h2⟩
  ·have:=al.facts p h;exact⟨by omega,this.2⟩
  ·exact⟨by omega,fun hl=>h2 (by rw[←h1];exact hl)⟩
theorem goes_of_asks {k:Nat} {a:Act} {o:Oper} {b:Nat} {L:List (Nat×(World→Prop))} {V:Value→World→Prop} (he:execOp A.eval o=execOp a.eval o) (hr:E.R E.w0 w) (hF:Facts b L w)
 (h:E.asks P k (Facts b L) o a V):E.goes P k o A w V:=by
 unfold Env.asks at h;unfold Env.goes;split<;>rename_i hs<;>simp only[hs]at h
 ·exact yields_congr he (h w hr hF)
 ·exact fun hj=>yields_congr he (h w hr hj hF)
theorem down {fin:Act→List (Nat×(World→Prop))→Prop} (G:E.Laws n N) (hN:a0.tmps.size=N) (inv:E.Inv P n a0 listed A w):∀(l:List Oper) (k:Nat) (a:Act) (L:List (Nat×(World→Prop))),
 (∀j,j<l.length→l[j]?=E.ops[k+j]?)→k+l.length=n→E.head P fin l k a L→E.Along n k a0 listed A a w L→
 (∀i o,k≤i→i<n→E.ops[i]?=some o→listed.getD i false=false→(∀e∈o.after,Region.binds .any e=true→listed.getD e.on false=true)→E.next P i o A w)∧
 ((∀i,i<n→listed.getD i false=true)→∃a' L',fin a' L'∧E.Along n n a0 listed A a' w L')
 |[],k,a,L,_,hk,h,al=>by
  have:k=n:=by simpa using hk
  subst this;exact⟨fun i o h1 h2=>by omega,fun _=>⟨a,L,h,al⟩⟩
 |o::l,k,a,L,hl,hk,h,al=>by
  have hkn:k<n:=by simp only[List.length_cons]at hk;omega
  have ho:E.ops[k]?=some o:=by simpa using(hl 0 (by simp)).symm
  have hsel:∀cs b,o.op≠.select cs b:=fun cs b=>Region.noSelect_spec G.noSel k o cs b ho
  have hl':∀j,j<l.length→l[j]?=E.ops[k+1+j]?:=fun j hj=>by
   have:=hl (j+1) (by simp;omega);simpa[Nat.add_assoc,Nat.add_comm 1 j]using this
  have hk':k+1+l.length=n:=by simp only[List.length_cons]at hk;omega
  have looks:(∀j,(E.bef.getD k 0).testBit j=true→listed.getD j false=true)→execOp A.eval o=execOp a.eval o∧Region.wanted o (yielded E.ops A.tmps)=Region.wanted o (yielded E.ops a.tmps):=fun hb=>
   ⟨execOp_agree hsel (al.looks G hkn ho hb),wanted_agree (al.looks G hkn ho hb)⟩
  have main:(listed.getD k false=false→(∀j,(E.bef.getD k 0).testBit j=true→listed.getD j false=true)→E.next P k o A w)∧
   ∃a' L',E.head P fin l (k+1) a' L'∧E.Along n (k+1) a0 listed A a' w L':=by
   simp only[Env.head]at h;by_cases hw:Region.wanted o (yielded E.ops a.tmps)=true
   ·rw[if_pos hw]at h
    have setl:listed.getD k false=true→execOp A.eval o=execOp a.eval o∧Region.wanted o (yielded E.ops A.tmps)=true∧(∀w',E.R w w'→Facts (E.bef.getD k 0) L w'):=fun hlk=>by
     have hb:=bef_of_listed G inv.head hkn ho hlk;obtain⟨h1,h2⟩:=looks hb;exact⟨h1,h2.trans hw,fun w' hr=>al.facts_at hb hr⟩
    cases hks:E.ks k with
    |none=>
     simp only[hks]at h;obtain⟨hsp,x,hx,h⟩:=h;refine⟨fun _ hb=>?_,a.put o.dst x,L,h,al.step G hN hkn ho (fun hlk=>?_) (fun p hp=>.inl hp)⟩
     ·obtain⟨h1,h2⟩:=looks hb;unfold Env.next;rw[if_pos (h2.trans hw),hks];exact⟨hsp,x,fun w' hr=>isVal_congr h1 (hx w' (G.trans _ _ _ inv.r hr) (al.facts_at hb hr))⟩
     ·obtain⟨h1,h2,h3⟩:=setl hlk;have hs:=inv.settled k o hkn ho hlk;unfold Env.settled at hs;rw[if_pos h2,hks]at hs;obtain⟨x',hv,hi⟩:=hs;have:x=x':=isVal_unique (isVal_congr h1 (hx w inv.r (h3 w (G.refl w)))) (hi w (G.refl w));rw[this];exact hv
    |some q=>
     cases q with
     |inl x=>
      simp only[hks]at h;refine⟨fun _ hb=>?_,a.put o.dst x,L,h.2,al.step G hN hkn ho (fun hlk=>?_) (fun p hp=>.inl hp)⟩
      ·obtain⟨h1,h2⟩:=looks hb;unfold Env.next;rw[if_pos (h2.trans hw),hks];exact goes_of_asks h1 inv.r (al.facts_at hb (G.refl w)) h.1
      ·obtain⟨h1,h2,h3⟩:=setl hlk;have hs:=inv.settled k o hkn ho hlk;unfold Env.settled at hs;rw[if_pos h2,hks]at hs;exact hs
     |inr V=>
      simp only[hks]at h;by_cases hlk:listed.getD k false=true
      ·obtain⟨h1,h2,h3⟩:=setl hlk;have hs:=inv.settled k o hkn ho hlk;unfold Env.settled at hs;rw[if_pos h2,hks]at hs;obtain⟨v,hv,hV⟩:=hs;refine⟨(fun hf=>by rw[hlk]at hf;cases hf),a.put o.dst v,(k,V v)::L,h.2 v,al.step G hN hkn ho (fun _=>hv) (fun p hp=>?_)⟩;rcases List.mem_cons.1 hp with rfl|hp
       ·exact .inr ⟨rfl,fun _ w' hr=>G.keepV k V hks v w w' hr hV⟩
       ·exact .inl hp
      ·refine⟨fun _ hb=>?_,a.put o.dst undef,(k,V undef)::L,h.2 undef,al.step G hN hkn ho (fun h=>absurd h hlk) (fun p hp=>?_)⟩
       ·obtain⟨h1,h2⟩:=looks hb;unfold Env.next;rw[if_pos (h2.trans hw),hks];exact goes_of_asks h1 inv.r (al.facts_at hb (G.refl w)) h.1
       ·rcases List.mem_cons.1 hp with rfl|hp
        ·exact .inr ⟨rfl,fun h=>absurd h hlk⟩
        ·exact .inl hp
   ·rw[if_neg hw]at h;refine⟨fun _ hb=>?_,a.put o.dst undef,L,h.2,al.step G hN hkn ho (fun hlk=>?_) (fun p hp=>.inl hp)⟩
    ·obtain⟨h1,h2⟩:=looks hb;unfold Env.next;rw[if_neg (by rw[h2];exact hw)];exact h.1
    ·obtain⟨h1,h2⟩:=looks (bef_of_listed G inv.head hkn ho hlk);have hs:=inv.settled k o hkn ho hlk;unfold Env.settled at hs;rw[if_neg (by rw[h2];exact hw)]at hs;exact hs
  obtain⟨m1,a',L',h',al'⟩:=main;obtain⟨r1,r2⟩:=down G hN inv l (k+1) a' L' hl' hk' h' al';refine⟨fun i oi hki hin hoi hun hall=>?_,r2⟩;by_cases hik:i=k
  ·subst hik;have:oi=o:=Option.some.inj (hoi.symm.trans ho);subst this;exact m1 hun (bef_listed G inv.head i oi hkn ho hall)
  ·exact r1 i oi (by omega) hin hoi hun hall
theorem Env.Inv.step (G:E.Laws n N) (hN:a0.tmps.size=N) (inv:E.Inv P n a0 listed A w) {i:Nat} {o:Oper} (hin:i<n) (hi:i∈Region.ready .any E.ops listed) (ho:E.ops[i]?=some o) {v:Value} {w':World} (hr:E.R w w') (hnew:newAt (E.fr i) v w w')
 (hset:val (A.put o.dst v) o v→E.settled P i o (A.put o.dst v) w')
 (hj:∃s,(∀k s',k<n→E.sp k=some s'→((listed.setIfInBounds i true).getD k false=true↔s'<s))∧(s=0∨∃k,k<n∧E.sp k=some (s-1))∧E.J s w'):
 E.Inv P n a0 (listed.setIfInBounds i true) (A.put o.dst v) w':=by
 have hsel:∀(k:Nat) (o:Oper),E.ops[k]?=some o→∀cs b,o.op≠.select cs b:=fun k o hk cs b=>Region.noSelect_spec G.noSel k o cs b hk
 have hsz:i<listed.size:=by rw[inv.head.size];exact(Array.getElem?_eq_some_iff.1 ho).1
 have hun:listed.getD i false=false:=getD_both (mem_ready.1 hi).1
 have hdd:∀k d,k<n→k≠i→dstOf E.ops k=some d→o.dst≠some d:=fun k d hk hki h1 hd'=>by
  have h0:dstOf E.ops i=some d:=by rw[dstOf_of ho];exact hd'
  rcases Nat.lt_or_ge k i with hlt|hge
  ·have h2:=List.all_eq_true.1 G.dst i (List.mem_range.2 hin);rw[h0]at h2;simp only[Bool.and_eq_true,decide_eq_true_eq]at h2;have:=List.all_eq_true.1 h2.2 k (List.mem_range.2 hlt);rw[h1]at this;simp at this
  ·have h2:=List.all_eq_true.1 G.dst k (List.mem_range.2 hk);rw[h1]at h2;simp only[Bool.and_eq_true,decide_eq_true_eq]at h2;have:=List.all_eq_true.1 h2.2 i (List.mem_range.2 (by omega));rw[h0]at this;simp at this
 have hown:∀d,dstOf E.ops i=some d→(A.put o.dst v).tmps.getD d undef=v:=fun d hd=>by
  have h1:=List.all_eq_true.1 G.dst i (List.mem_range.2 hin);rw[hd]at h1;simp only[Bool.and_eq_true,decide_eq_true_eq]at h1;rw[dstOf_of ho]at hd;rw[hd];exact getD_put_same (by rw[inv.size,hN];exact h1.1)
 refine⟨inv.head.set hi hin,G.trans _ _ _ inv.r hr,by rw[put_size];exact inv.size,by rw[put_defers];exact inv.defers,fun t ht=>?_,fun k ok hk hok hl=>?_,fun k d hk hl hf hd g hg=>?_,hj⟩
 ·rw[getD_put_other (by have:=ht i hin;rwa [dstOf_of ho]at this)];exact inv.same t ht
 ·by_cases hki:k=i
  ·subst hki;have:ok=o:=Option.some.inj (hok.symm.trans ho);subst this;refine hset fun d hd=>?_
   have h1:=List.all_eq_true.1 G.dst k (List.mem_range.2 hk);rw[dstOf_of ho,hd]at h1;simp only[Bool.and_eq_true,decide_eq_true_eq]at h1;rw[hd];exact getD_put_same (by rw[inv.size,hN];exact h1.1)
  ·have hlk:listed.getD k false=true:=by rwa [getD_set_ne false (Ne.symm hki)]at hl
   have hs:=inv.settled k ok hk hok hlk
   have hno:∀t∈ok.looksAt E.ops,A.tmps.getD t undef=(A.put o.dst v).tmps.getD t undef:=fun t ht=>by
    refine(getD_put_other fun hd=>?_).symm;obtain⟨hb,_⟩:=look_spec G hk hok ht hin (by rw[dstOf_of ho];exact hd);have:=bef_of_listed G inv.head hk hok hlk i hb;rw[hun]at this
    cases this
   have hval:∀x,val A ok x→val (A.put o.dst v) ok x:=fun x hx d hd=>by
    rw[getD_put_other (hdd k d hk hki (by rw[dstOf_of hok];exact hd))];exact hx d hd
   have he:=execOp_agree (hsel k ok hok) hno;have hw:=wanted_agree hno;unfold Env.settled at hs⊢;rw[hw];split
   ·rename_i hww
    rw[if_pos hww]at hs
    cases hks:E.ks k with
    |none=>
     simp only[hks]at hs⊢;obtain⟨x,h1,h2⟩:=hs;exact⟨x,hval x h1,fun w1 hr1=>isVal_congr he (h2 w1 (G.trans _ _ _ hr hr1))⟩
    |some q=>
     cases q with
     |inl x=>simp only[hks]at hs⊢;exact hval x hs
     |inr V=>
      simp only[hks]at hs⊢;obtain⟨x,h1,h2⟩:=hs;exact⟨x,hval x h1,G.keepV k V hks x w w' hr h2⟩
   ·rename_i hww
    rw[if_neg hww]at hs;exact hval _ hs
 ·have hgr:=G.grows _ _ hr
  have old:∀k d,k<n→k≠i→(listed.setIfInBounds i true).getD k false=true→dstOf E.ops k=some d→listed.getD k false=true∧(A.put o.dst v).tmps.getD d undef=A.tmps.getD d undef:=fun k d hk hki hl hd=>
   ⟨by rwa [getD_set_ne false (Ne.symm hki)]at hl,getD_put_other (hdd k d hk hki hd)⟩
  by_cases hki:k=i
  ·subst hki;rw[hown d hd]at hg;obtain⟨h1,h2⟩:=hnew hf g hg;refine⟨h2,fun k' d' hk' hl' hf' hd' hne he=>?_⟩;obtain⟨o1,o2⟩:=old k' d' hk' (Ne.symm hne) hl' hd';rw[o2]at he;have:=(inv.fresh k' d' hk' o1 hf' hd' g he).1;omega
  ·obtain⟨o1,o2⟩:=old k d hk hki hl hd;rw[o2]at hg;obtain⟨h1,h2⟩:=inv.fresh k d hk o1 hf hd g hg;refine⟨by omega,fun k' d' hk' hl' hf' hd' hne he=>?_⟩;by_cases hk'i:k'=i
   ·subst hk'i;rw[hown d' hd']at he;have:=(hnew hf' g he).1;omega
   ·obtain⟨p1,p2⟩:=old k' d' hk' hk'i hl' hd';rw[p2]at he;exact h2 k' d' hk' p1 hf' hd' hne he
theorem sp_at (G:E.Laws n N) (inv:HeadInv .any E.ops n listed) {i s s':Nat} {o:Oper} (hin:i<n) (ho:E.ops[i]?=some o) (hi:i∈Region.ready .any E.ops listed) (hs':E.sp i=some s')
 (h:∀k s',k<n→E.sp k=some s'→(listed.getD k false=true↔s'<s)):s'=s∧∀k s'',k<n→E.sp k=some s''→((listed.setIfInBounds i true).getD k false=true↔s''<s+1):=by
 have hun:listed.getD i false=false:=getD_both (mem_ready.1 hi).1;have hsz:i<listed.size:=by rw[inv.size];exact(Array.getElem?_eq_some_iff.1 ho).1
 have hge:s≤s':=by
  rcases Nat.lt_or_ge s' s with hlt|hge
  ·rw[(h i s' hin hs').2 hlt]at hun;cases hun
  ·exact hge
 have hsp:=fun k hk=>List.all_eq_true.1 G.sp k (List.mem_range.2 hk)
 have hle:s'≤s:=by
  have h1:=hsp i hin;rw[hs']at h1;simp only[Bool.and_eq_true,Bool.or_eq_true,beq_iff_eq]at h1;rcases h1.1 with h1|h1
  ·omega
  ·obtain⟨j,hj,hj2⟩:=List.any_eq_true.1 h1;simp only[Bool.and_eq_true,beq_iff_eq]at hj2;have hji:j<i:=List.mem_range.1 hj;obtain⟨_,o',ho',hall⟩:=mem_ready.1 hi;have:o'=o:=Option.some.inj (ho'.symm.trans ho);subst this;have hl:=bef_listed G inv i o' hin ho hall j hj2.2;have:=(h j (s'-1) (by omega) hj2.1).1 hl;omega
 refine⟨by omega,fun k s'' hk hs''=>?_⟩;have heq:s'=s:=by omega
 subst heq;by_cases hki:k=i
 ·subst hki;rw[hs']at hs'';have:s'=s'':=Option.some.inj hs'';subst this;simp[hsz]
 ·rw[getD_set_ne false (Ne.symm hki),h k s'' hk hs'']
  have hne:s''≠s':=by
   rintro rfl;rcases Nat.lt_or_ge k i with hlt|hge2
   ·have h1:=hsp i hin;rw[hs']at h1;simp only[Bool.and_eq_true]at h1;have:=List.all_eq_true.1 h1.2 k (List.mem_range.2 hlt);simp[hs'']at this
   ·have h1:=hsp k hk;rw[hs'']at h1;simp only[Bool.and_eq_true]at h1;have:=List.all_eq_true.1 h1.2 i (List.mem_range.2 (by omega));simp[hs']at this
  omega
theorem sp_other (inv:HeadInv .any E.ops n listed) {i s:Nat} {o:Oper} (ho:E.ops[i]?=some o) (hs':E.sp i=none)
 (h:∀k s',k<n→E.sp k=some s'→(listed.getD k false=true↔s'<s)):∀k s'',k<n→E.sp k=some s''→((listed.setIfInBounds i true).getD k false=true↔s''<s):=fun k s'' hk hs''=>by
 have hsz:i<listed.size:=by rw[inv.size];exact(Array.getElem?_eq_some_iff.1 ho).1
 have:i≠k:=fun e=>by subst e;rw[hs']at hs'';cases hs''
 rw[getD_set_ne false this];exact h k s'' hk hs''
theorem wpOp_of_next (G:E.Laws n N) (hN:a0.tmps.size=N) (inv:E.Inv P n a0 listed A w) {i:Nat} {o:Oper} (hin:i<n) (hi:i∈Region.ready .any E.ops listed) (ho:E.ops[i]?=some o) (h:E.next P i o A w)
 {K:Act→World→Prop} {Q:Exit→Act→World→Prop} (hK:∀A' w',E.Inv P n a0 (listed.setIfInBounds i true) A' w'→K A' w'):wpOp P E.ops Q i K A w:=by
 have hsel:∀cs b,o.op≠.select cs b:=fun cs b=>Region.noSelect_spec G.noSel i o cs b ho
 have hun:listed.getD i false=false:=getD_both (mem_ready.1 hi).1;obtain⟨s,hs,hz,hJ⟩:=inv.j
 have hself:∀v,∀t∈o.looksAt E.ops,A.tmps.getD t undef=(A.put o.dst v).tmps.getD t undef:=fun v t ht=>by
  refine(getD_put_other fun hd=>?_).symm;obtain⟨_,hlt⟩:=look_spec G hin ho ht hin (by rw[dstOf_of ho];exact hd);omega
 unfold wpOp;simp only[ho];unfold Env.next at h;by_cases hw:Region.wanted o (yielded E.ops A.tmps)=true
 ·rw[if_pos hw]at h;simp only[hw,if_true];have hw':∀v,Region.wanted o (yielded E.ops (A.put o.dst v).tmps)=true:=fun v=>(wanted_agree (hself v)).trans hw
  have two:∀V:Value→World→Prop,(∀v w',V v w'→val (A.put o.dst v) o v→E.settled P i o (A.put o.dst v) w')→E.goes P i o A w V→o.wp P A w K Q:=fun V hset hg=>by
   unfold Env.goes at hg
   cases hsp:E.sp i with
   |none=>
    simp only[hsp]at hg;refine wp_of_yields hg fun v w' ⟨⟨h1,h2⟩,hnw⟩=>hK _ _ (inv.step G hN hin hi ho (G.sub _ _ h2) hnw (hset v w' h1) ⟨s,sp_other inv.head ho hsp hs,hz,G.keepJ _ _ _ h2 hJ⟩)
   |some s'=>
    simp only[hsp]at hg;obtain⟨rfl,hall⟩:=sp_at G inv.head hin ho hi hsp hs;exact wp_of_yields (hg hJ) fun v w' ⟨⟨h1,h2,h3⟩,hnw⟩=>hK _ _ (inv.step G hN hin hi ho h2 hnw (hset v w' h1) ⟨s'+1,hall,.inr ⟨i,hin,by simpa using hsp⟩,h3⟩)
  cases hks:E.ks i with
  |none=>
   simp only[hks]at h;obtain⟨⟨hsp,hfr⟩,x,hx⟩:=h;refine .inl (wp_of_yields (yields_of_isVal (S:=fun v w'=>v=x∧w'=w) (hx w (G.refl w)) ⟨rfl,rfl⟩) fun v w' ⟨hv,hww⟩=>?_);subst hv hww;refine hK _ _ (inv.step G hN hin hi ho (G.refl _) (fun h=>by rw[hfr]at h;cases h) (fun hv=>?_) ⟨s,sp_other inv.head ho hsp hs,hz,hJ⟩);unfold Env.settled;rw[if_pos (hw' v),hks];exact⟨v,hv,fun w1 hr=>isVal_congr (execOp_agree hsel (hself v)) (hx w1 hr)⟩
  |some q=>
   cases q with
   |inl x=>
    simp only[hks]at h;refine .inl (two _ (fun v w' hV hv=>?_) h);unfold Env.settled;rw[if_pos (hw' v),hks];subst hV;exact hv
   |inr V=>
    simp only[hks]at h;refine .inl (two _ (fun v w' hV hv=>?_) h);unfold Env.settled;rw[if_pos (hw' v),hks];exact⟨v,hv,hV⟩
 ·rw[if_neg hw]at h;simp only[hw];refine hK _ _ (inv.step G hN hin hi ho (G.refl _) (fun _ g hg=>by simp[blkOf,undef]at hg) (fun hv=>?_) ⟨s,sp_other inv.head ho h hs,hz,hJ⟩);unfold Env.settled;rw[if_neg (by rw[wanted_agree (hself undef)];exact hw)];exact hv
def unlisted (listed:Array Bool) (n:Nat):Nat:=((List.range n).filter fun i=>!listed.getD i false).length
theorem unlisted_set {listed:Array Bool} {i:Nat} (hs:i<listed.size) (hun:listed.getD i false=false):∀n,unlisted (listed.setIfInBounds i true) n+(if i<n then 1 else 0)=unlisted listed n
 |0=>by simp[unlisted]
 |n+1=>by
  have ih:=unlisted_set hs hun n;unfold unlisted at *;rw[List.range_succ,List.filter_append,List.filter_append,List.length_append,List.length_append];by_cases hin:i=n
  ·subst hin;have h1:(listed.setIfInBounds i true).getD i false=true:=by simp[hs]
   simp only[Nat.lt_irrefl,if_false,Nat.add_zero]at ih;simp only[ih,List.filter_cons,h1,hun,List.filter_nil];simp
  ·have h1:(listed.setIfInBounds i true).getD n false=listed.getD n false:=getD_set_ne false hin;have h2:(i<n+1)=(i<n):=by apply propext;omega
   simp only[List.filter_cons,h1,List.filter_nil,h2];omega
theorem unlisted_zero {listed:Array Bool}:∀{n:Nat},unlisted listed n=0→∀i,i<n→listed.getD i false=true:=fun{n} h i hi=>by
 unfold unlisted at h;have h1:=List.eq_nil_of_length_eq_zero h;have:=List.filter_eq_nil_iff.1 h1 i (List.mem_range.2 hi);simpa using this
theorem unlisted_pos {listed:Array Bool} {n f:Nat} (h:unlisted listed n=f+1):∃i,i<n∧listed.getD i false=false:=by
 unfold unlisted at h;match hl:(List.range n).filter (fun i=>!listed.getD i false),h with
 |i::_,_=>
  have:i∈(List.range n).filter (fun i=>!listed.getD i false):=by rw[hl];simp
  rw[List.mem_filter]at this;exact⟨i,List.mem_range.1 this.1,by simpa using this.2⟩
theorem some_ready (G:E.Laws n N) (inv:HeadInv .any E.ops n listed) (hn:n≤E.ops.size):∀i,i<n→listed.getD i false=false→Region.ready .any E.ops listed≠[]:=by
 intro i;induction i using Nat.strongRecOn with
 |_ i ih=>
  intro hi hun hnil;have hlt:i<E.ops.size:=by omega
  have ho:E.ops[i]?=some E.ops[i]:=Array.getElem?_eq_getElem hlt;by_cases hall:∀e∈(E.ops[i]).after,Region.binds .any e=true→listed.getD e.on false=true
  ·have:i∈Region.ready .any E.ops listed:=mem_ready.2 ⟨getD_in (by rw[inv.size];exact hlt) hun,_,ho,hall⟩;rw[hnil]at this
   cases this
  ·simp only[Classical.not_forall]at hall;obtain⟨e,he,hb,hl⟩:=hall;have hek:=edge_spec G hi ho he hb;exact ih e.on hek (by omega) (by simpa using hl) hnil
def canon (n m:Nat):Array Bool:=((List.range m).map fun i=>decide (i<n)).toArray
theorem listed_canon (inv:HeadInv .any E.ops n listed) (h:∀i,i<n→listed.getD i false=true):listed=canon n E.ops.size:=by
 apply Array.ext
 ·simp[canon,inv.size]
 ·intro i h1 h2;have h3:i<E.ops.size:=by rw[←inv.size];exact h1
  simp only[canon,List.getElem_toArray,List.getElem_map,List.getElem_range];rcases Nat.lt_or_ge i n with hlt|hge
  ·have:=h i hlt;simp[h1]at this;simp[this,hlt]
  ·have:=inv.tail i hge h3;simp[h1]at this;simp[this];omega
theorem act_ext {a b:Act} (hs:a.tmps.size=b.tmps.size) (hd:a.defers=b.defers) (h:∀t,a.tmps.getD t undef=b.tmps.getD t undef):a=b:=by
 obtain⟨at_,ad⟩:=a;obtain⟨bt,bd⟩:=b;simp only at hs hd h;subst hd;congr 1;apply Array.ext hs
 intro i h1 h2;have:=h i;simpa[h1,h2]using this
def sinkP (pre:List Nat) (ops:Array Oper) (n:Nat):Bool:=
 (List.range n).all fun i=>pre.contains i||(List.range (n+1)).any fun j=>decide (i<j)&&Region.waitsFor .any ops j i
def tailOK (pre:List Nat) (ops:Array Oper) (n:Nat):Bool:=
 decide (n=ops.size)||(decide (n<ops.size)&&sinkP pre ops n&&Region.chainB .any ops n&&Region.seqB .any ops (ops.size-n) n (canon n ops.size))
theorem tail_waitsP {pre:List Nat} {ops:Array Oper} (hs:sinkP pre ops n=true) (hc:Region.chainB .any ops n=true) (hn:n<ops.size) (inv:HeadInv .any ops n listed) (hp:∀i∈pre,listed.getD i false=true):
 ∀(d i:Nat),n-i=d→i<n→listed.getD i true=false→∀t,n≤t→t∉Region.ready .any ops listed:=by
 intro d;induction d using Nat.strongRecOn with
 |_ d ih=>
  intro i hd hi hun t ht hr;obtain⟨_,ot,hot,hall⟩:=mem_ready.1 hr;have htlt:t<ops.size:=(Array.getElem?_eq_some_iff.1 hot).1;by_cases htn:t=n
  ·subst htn;have h1:=List.all_eq_true.1 hs i (List.mem_range.2 hi);simp only[Bool.or_eq_true]at h1;rcases h1 with h1|h1
   ·have:=hp i (by simpa using h1);rw[getD_both hun]at this
    cases this
   obtain⟨j,hj,hj2⟩:=List.any_eq_true.1 h1;simp only[Bool.and_eq_true,decide_eq_true_eq]at hj2;obtain⟨oj,hoj,e,he,hb,hon⟩:=Region.waitsFor_spec hj2.2;have hjle:j≤t:=by have:=List.mem_range.1 hj;omega
   by_cases hjt:j=t
   ·subst hjt;have:oj=ot:=Option.some.inj (hoj.symm.trans hot);subst this;have h2:=hall e he hb;rw[hon,getD_both hun]at h2
    cases h2
   ·cases hl:listed.getD j false with
    |true=>
     have h2:=inv.closed j oj hoj hl e he hb;rw[hon,getD_both hun]at h2
     cases h2
    |false=>
     have hjs:j<listed.size:=by rw[inv.size];omega
     exact ih (t-j) (by omega) j rfl (by omega) (getD_in hjs hl) t (Nat.le_refl _) hr
  ·have h1:=List.all_eq_true.1 hc t (List.mem_range.2 htlt);simp only[Bool.or_eq_true,decide_eq_true_eq]at h1;rcases h1 with h1|h1
   ·omega
   ·obtain⟨o',ho',e,he,hb,hon⟩:=Region.waitsFor_spec h1;have:o'=ot:=Option.some.inj (ho'.symm.trans hot);subst this;have h2:=hall e he hb;rw[hon,getD_both (inv.tail (t-1) (by omega) (by omega))]at h2
    cases h2
def Env.apart (E:Env) (n:Nat) (a':Act):Prop:=
 ∀k k' d d',k<n→k'<n→E.fr k=true→E.fr k'=true→k≠k'→dstOf E.ops k=some d→dstOf E.ops k'=some d'→∀g,blkOf (a'.tmps.getD d undef)=some g→blkOf (a'.tmps.getD d' undef)≠some g
theorem head_sound {Q:Exit→Act→World→Prop} {l:List Oper} {m:Nat} (pre:List Nat) (hE:E.ops=l.toArray) (G:E.Laws n N) (hN:a0.tmps.size=N) (hn:n≤l.length) (ht:tailOK pre E.ops n=true)
 (hm:(∀k s',k<n→E.sp k=some s'→s'<m)∧(m=0∨∃k,k<n∧E.sp k=some (m-1)))
 (h:E.head P (fun a' L=>∀w',E.R E.w0 w'→E.J m w'→(∀p∈L,p.2 w')→E.apart n a'→wpList P E.ops Q (l.drop n) a' w') (l.take n) 0 a0 []):
 ∀(f:Nat) (listed:Array Bool) (A:Act) (w:World),E.Inv P n a0 listed A w→(∀i∈pre,listed.getD i false=true)→unlisted listed n=f→wpAny P .any E.ops Q (f+(l.length-n)) listed A w:=by
 have hsz:E.ops.size=l.length:=by rw[hE];simp
 have htl:(l.take n).length=n:=by simp;omega
 intro f;induction f with
 |zero=>
  intro listed A w inv _ hf;have hall:=unlisted_zero hf
  obtain⟨_,h2⟩:=down G hN inv (l.take n) 0 a0 [] (fun j hj=>by
   have hj':j<n:=by rw[htl]at hj;exact hj
   simp[hE,hj']) (by simpa using htl) h ⟨fun t ht=>(inv.same t fun j hj hd=>by have:=(ht j hj hd).1;omega).symm,rfl,rfl,fun p hp=>by cases hp⟩
  obtain⟨a',L',hfin,al⟩:=h2 hall;have hA:a'=A:=act_ext (al.size.trans inv.size.symm) (al.defers.trans inv.defers.symm) (fun t=>al.agree t fun j hj _=>⟨hj,hall j hj⟩);subst hA;obtain⟨s,hs,hz,hJ⟩:=inv.j
  have hsm:s=m:=by
   rcases hz with rfl|⟨k,hk,hsk⟩
   ·rcases hm.2 with h0|⟨k,hk,hsk⟩
    ·exact h0.symm
    ·have:=(hs k _ hk hsk).1 (hall k hk);omega
   ·have h1:=hm.1 k _ hk hsk;have h3:=(hs k _ hk hsk).1 (hall k hk)
    rcases hm.2 with h0|⟨k',hk',hsk'⟩
    ·omega
    ·have:=(hs k' _ hk' hsk').1 (hall k' hk');omega
  subst hsm;have hlast:=hfin w inv.r hJ (fun p hp=>(al.facts p hp).2 (hall _ (al.facts p hp).1) w (G.refl w)) (fun k k' d d' hk hk' hf hf' hne hd hd' g hg=>(inv.fresh k d hk (hall k hk) hf hd g hg).2 k' d' hk' (hall k' hk') hf' hd' hne);have hdl:(l.drop n).length=l.length-n:=by simp
  rw[Nat.zero_add,←hdl];refine wpAny_of_seq (l.drop n) n listed a' w (fun j=>by simp[hE,List.getElem?_drop]) ?_ hlast;rw[listed_canon inv.head hall,hdl,hsz];simp only[tailOK,Bool.or_eq_true,Bool.and_eq_true,decide_eq_true_eq]at ht;rcases ht with ht|ht
  ·rw[show l.length-n=0 by omega];simp only[Region.seqB,List.isEmpty_iff];match hr:Region.ready .any E.ops (canon n l.length)with
   |[]=>rfl
   |i::_=>
    have hi:i∈Region.ready .any E.ops (canon n l.length):=by rw[hr];simp
    obtain⟨h1,o,ho,_⟩:=mem_ready.1 hi;have hlt:=(Array.getElem?_eq_some_iff.1 ho).1
    have:(canon n l.length).getD i true=true:=by
     have:i<l.length:=by omega
     simp[canon,this];omega
    rw[this]at h1
    cases h1
  ·have:=ht.2;rwa [hsz]at this
 |succ f ih=>
  intro listed A w inv hp hf;obtain⟨i0,hi0,hun0⟩:=unlisted_pos hf;have hne:=some_ready G inv.head (by omega) i0 hi0 hun0;rw[show f+1+(l.length-n)=(f+(l.length-n))+1 by omega];refine⟨fun h0=>absurd h0 hne,fun i hi=>?_⟩;obtain⟨hun,o,ho,hall⟩:=mem_ready.1 hi
  have hin:i<n:=by
   rcases Nat.lt_or_ge i n with hlt|hge
   ·exact hlt
   ·simp only[tailOK,Bool.or_eq_true,Bool.and_eq_true,decide_eq_true_eq]at ht;rcases ht with ht|ht
    ·have:=(Array.getElem?_eq_some_iff.1 ho).1;omega
    ·exact absurd hi (tail_waitsP ht.1.1.2 ht.1.2 ht.1.1.1 inv.head hp (n-i0) i0 rfl hi0 (getD_in (by rw[inv.head.size];omega) hun0) i hge)
  have hun':=getD_both hun
  obtain⟨h1,_⟩:=down G hN inv (l.take n) 0 a0 [] (fun j hj=>by
   have hj':j<n:=by rw[htl]at hj;exact hj
   simp[hE,hj']) (by simpa using htl) h ⟨fun t ht=>(inv.same t fun j hj hd=>by have:=(ht j hj hd).1;omega).symm,rfl,rfl,fun p hp=>by cases hp⟩
  have hnext:=h1 i o (Nat.zero_le _) hin ho hun' hall;refine wpOp_of_next G hN inv hin hi ho hnext fun A' w' inv'=>ih _ A' w' inv' (fun j hj=>getD_set_true (hp j hj)) ?_
  have:=unlisted_set (i:=i) (by rw[inv.head.size];exact(Array.getElem?_eq_some_iff.1 ho).1) hun' n;rw[if_pos hin]at this;omega
end
theorem unlisted_none (m n:Nat):unlisted (Array.replicate m false) n=n:=by
 unfold unlisted;rw[List.filter_eq_self.2 (fun i _=>by rw[getD_replicate_false];rfl)];simp
def moved:Op→Option Operand
 | .move x| .assign x=>some x
 |_=>none
def preOK (ops:Array Oper) (bef:Array Nat) (sp:Nat→Option Nat) (n:Nat):List Nat→Array Bool→Bool
 |[],_=>true
 |i::r,listed=>decide (i<n)&&(sp i).isNone&&(match ops[i]? with
  |some o=>o.guard.isNone&&(moved o.op).isSome
  |none=>false)&&Region.free .any ops listed i&&(Region.ready .any ops listed).contains i&&preOK ops bef sp n r (listed.setIfInBounds i true)
theorem take_pre {E:Env} {n N:Nat} {a0:Act} {Q:Exit→Act→World→Prop} (G:E.Laws n N) (hN:a0.tmps.size=N) (hQ:∀d v c a w,Q (.panic c) (a.put d v) w→Q (.panic c) a w) (hpf:∀i,E.ks i=none→E.fr i=false):
 ∀(pre:List Nat) (fuel:Nat) (listed:Array Bool) (A:Act) (w:World),preOK E.ops E.bef E.sp n pre listed=true→(∀i∈pre,E.ks i=none)→E.Inv P n a0 listed A w→unlisted listed n=fuel+pre.length→
 (∀listed' A',E.Inv P n a0 listed' A' w→(∀i,(i∈pre∨listed.getD i false=true)→listed'.getD i false=true)→unlisted listed' n=fuel→∀g,g=fuel+(E.ops.size-n)→wpAny P .any E.ops Q g listed' A' w)→
 wpAny P .any E.ops Q (fuel+pre.length+(E.ops.size-n)) listed A w
 |[],fuel,listed,A,w,_,_,inv,hu,h=>h listed A inv (fun i hi=>by rcases hi with hi|hi;cases hi;exact hi) (by simpa using hu) _ (by simp)
 |i::r,fuel,listed,A,w,hp,hk,inv,hu,h=>by
  simp only[preOK,Bool.and_eq_true,decide_eq_true_eq]at hp;obtain⟨⟨⟨⟨⟨hin,hsp⟩,hm⟩,hf⟩,hr⟩,hrest⟩:=hp;have hi:i∈Region.ready .any E.ops listed:=by simpa using hr
  obtain⟨hun,o,ho,hall⟩:=mem_ready.1 hi;simp only[ho,Bool.and_eq_true]at hm;have hsp':E.sp i=none:=by simpa using hsp
  have hgd:o.guard=none:=by simpa using hm.1
  obtain⟨x,hx⟩:=Option.isSome_iff_exists.1 hm.2
  have hrun:∀(a:Act) (w':World),(execOp a.eval o).run P w'=.ok (.value (a.eval x)) w':=fun a w'=>by
   unfold moved at hx;split at hx<;>simp at hx<;>(subst hx;unfold execOp;rename_i hop;rw[hop];rfl)
  have hw:∀a:Act,Region.wanted o (yielded E.ops a.tmps)=true:=fun a=>by simp[Region.wanted,hgd]
  have hsel:∀cs b,o.op≠.select cs b:=fun cs b=>Region.noSelect_spec G.noSel i o cs b ho
  have hself:∀v,∀t∈o.looksAt E.ops,A.tmps.getD t undef=(A.put o.dst v).tmps.getD t undef:=fun v t ht=>by
   refine(getD_put_other fun hd=>?_).symm;obtain⟨_,hlt⟩:=look_spec G hin ho ht hin (by rw[dstOf_of ho];exact hd);omega
  have inv':E.Inv P n a0 (listed.setIfInBounds i true) (A.put o.dst (A.eval x)) w:=by
   obtain⟨s,hs,hz,hJ⟩:=inv.j;refine inv.step G hN hin hi ho (G.refl _) (fun h=>by rw[hpf i (hk i (by simp))]at h;cases h) (fun hv=>?_) ⟨s,sp_other inv.head ho hsp' hs,hz,hJ⟩;unfold Env.settled;rw[if_pos (hw _),hk i (by simp)];exact⟨_,hv,fun w1 _=>isVal_congr (execOp_agree hsel (hself _)) (.inl (hrun A w1))⟩
  have hu':unlisted (listed.setIfInBounds i true) n=fuel+r.length:=by
   have:=unlisted_set (i:=i) (by rw[inv.head.size];exact(Array.getElem?_eq_some_iff.1 ho).1) (getD_both hun) n;rw[if_pos hin,hu]at this;simp only[List.length_cons]at this;omega
  have hlt:i<listed.size:=by rw[inv.head.size];exact(Array.getElem?_eq_some_iff.1 ho).1
  have rec_:=take_pre G hN hQ hpf r fuel (listed.setIfInBounds i true) (A.put o.dst (A.eval x)) w hrest (fun j hj=>hk j (by simp[hj])) inv' hu' (fun listed' A' inv'' hl=>h listed' A' inv'' (fun j hj=>by
   rcases hj with hj|hj
   ·rcases List.mem_cons.1 hj with rfl|hj
    ·exact hl j (.inr (by simp[hlt]))
    ·exact hl j (.inl hj)
   ·exact hl j (.inr (getD_set_true hj))))
  rw[show fuel+(i::r).length+(E.ops.size-n)=(fuel+r.length+(E.ops.size-n))+1 by simp only[List.length_cons];omega];exact wpAny_take ho G.noSel hf hr (fun c a w=>hQ _ _ c a w) (.inl ⟨hw _,fun w'=>hrun A w'⟩) rec_
theorem wp_region_rel {E:Env} {id:Nat} {Q:Exit→Act→World→Prop} {a:Act} {w:World} {l:List Oper} {n N m:Nat} (pre:List Nat) (hm:P.follows .mixedOrders=true) (hE:E.ops=l.toArray) (hw:E.w0={w with drawn:=w.drawn+1}) (G:E.Laws n N) (hN:a.tmps.size=N) (hn:n≤l.length) (ht:tailOK pre E.ops n=true)
 (hp:preOK E.ops E.bef E.sp n pre (Array.replicate l.length false)=true) (hpk:∀i∈pre,E.ks i=none) (hpf:∀i,E.ks i=none→E.fr i=false) (hQ:∀d v c a w,Q (.panic c) (a.put d v) w→Q (.panic c) a w)
 (hsp:(∀k s',k<n→E.sp k=some s'→s'<m)∧(m=0∨∃k,k<n∧E.sp k=some (m-1))) (hJ:E.J 0 E.w0)
 (h:E.head P (fun a' L=>∀w',E.R E.w0 w'→E.J m w'→(∀p∈L,p.2 w')→E.apart n a'→wpList P E.ops Q (l.drop n) a' w') (l.take n) 0 a []):(Code.region id l.toArray true).wp P Q a w:=by
 have hsz:E.ops.size=l.length:=by rw[hE];simp
 refine wp_region_any hm ?_;rw[←hE,←hw,hsz]
 have inv0:E.Inv P n a (Array.replicate l.length false) a E.w0:=
  ⟨⟨by simp[hsz],fun j oj _ hl=>(by rw[getD_replicate_false]at hl;cases hl),fun t _ ht=>getD_in (by simp;omega) (getD_replicate_false _ _)⟩,G.refl _,rfl,rfl,fun _ _=>rfl,fun k o _ _ hl=>(by rw[getD_replicate_false]at hl;cases hl),fun k d _ hl=>(by rw[getD_replicate_false]at hl;cases hl),⟨0,fun k s' _ _=>(by rw[getD_replicate_false];simp),.inl rfl,hJ⟩⟩
 have hlen:pre.length≤n:=by
  have:∀(pre:List Nat) (listed:Array Bool),listed.size=l.length→preOK E.ops E.bef E.sp n pre listed=true→pre.length≤unlisted listed n:=by
   intro pre;induction pre with
   |nil=>intro _ _ _;simp
   |cons i r ih=>
    intro listed hls hp;simp only[preOK,Bool.and_eq_true,decide_eq_true_eq]at hp;obtain⟨⟨⟨⟨⟨hin,_⟩,_⟩,_⟩,hr⟩,hrest⟩:=hp;have hi:i∈Region.ready .any E.ops listed:=by simpa using hr
    obtain⟨hun,o,ho,_⟩:=mem_ready.1 hi;have h1:=ih (listed.setIfInBounds i true) (by simp[hls]) hrest;have h2:=unlisted_set (i:=i) (by rw[hls,←hsz];exact(Array.getElem?_eq_some_iff.1 ho).1) (getD_both hun) n;rw[if_pos hin]at h2;simp only[List.length_cons];omega
  have:=this pre _ (by simp) hp;rwa [unlisted_none]at this
 have:=take_pre (Q:=Q) G hN hQ hpf pre (n-pre.length) (Array.replicate l.length false) a E.w0 hp hpk inv0 (by rw[unlisted_none];omega) (fun listed' A' inv' hl hu g hg=>by
  have h1:=head_sound pre hE G hN hn ht hsp h (n-pre.length) listed' A' E.w0 inv' (fun i hi=>hl i (.inl hi)) hu;rw[hg,hsz]
  exact h1)
 rw[hsz]at this;rwa [show n-pre.length+pre.length+(l.length-n)=l.length by omega]at this
end
section
variable {P:Program} {E:Env} {fin:Act→List (Nat×(World→Prop))→Prop} {o:Oper} {rest:List Oper} {k:Nat} {a:Act} {L:List (Nat×(World→Prop))}
structure Within (R:World→World→Prop) (w0:World) (b:Nat) (L:List (Nat×(World→Prop))) where
 w:World
 hr:R w0 w
 hf:Facts b L w
def plainOp:Op→Bool
 | .call {callee:=.builtin b,..}=>match b with
  | .len| .cap| .append| .copy| .min| .max| .delete=>true
  |_=>false
 | .call _| .go _| .defer _| .send .. | .recv .. | .select .. =>false
 |_=>true
def leavesNext:Result Next→Prop
 | .ok (.value _) _| .ok .skip _| .halt _ _=>True
 |_=>False
theorem leaves_v (s:Sem Value) (w:World):leavesNext ((do pure (.value (←s)):Sem Next).run P w):=by
 rw[Sem.run_bind]
 cases s.run P w<;>simp[Result.andThen,leavesNext]
theorem leaves_u (s:Sem Unit) (w:World):leavesNext ((do s;pure .skip:Sem Next).run P w):=by
 rw[Sem.run_bind]
 cases s.run P w<;>simp[Result.andThen,leavesNext]
theorem leaves_bind {α:Type} (s:Sem α) (f:α→Sem Next) (w:World) (h:∀x w',leavesNext ((f x).run P w')):leavesNext ((s>>=f).run P w):=by
 rw[Sem.run_bind]
 cases s.run P w with
 |ok x w'=>exact h x w'
 |halt x w'=>trivial
theorem leaves_plain (ρ:Operand→Value) (h:plainOp o.op=true) (w:World):leavesNext ((execOp ρ o).run P w):=by
 obtain⟨dst,op,type,pos,after,guard⟩:=o
 cases op<;>simp only[plainOp]at h<;>simp only[execOp]<;>first
  |exact leaves_v _ w
  |exact leaves_u _ w
  |trivial
  |skip
 case pick c x y=>exact leaves_bind _ _ w (fun _ _=>by split<;>trivial)
 case nilCheck x=>
  split
  ·simp[runtimePanic,leavesNext]
  ·simp[runtimePanic,leavesNext]
  ·simp[runtimePanic,leavesNext]
  ·split
   ·simp[runtimePanic,leavesNext]
   ·refine leaves_bind _ _ w (fun _ _=>leaves_bind _ _ _ (fun _ _=>?_));split
    ·exact leaves_bind _ _ _ (fun _ _=>trivial)
    ·trivial
   ·trivial
  ·trivial
 case call c=>
  obtain⟨callee,args,argTypes⟩:=c
  cases callee with
  |value f=>cases h
  |invoke r m=>cases h
  |builtin b=>cases b<;>first|exact leaves_v _ w|cases h
theorem isVal_of_quiet (hp:plainOp o.op=true) {C:World→Prop} {w:World} {x:Value} (h:o.quietAt P a C w x):isVal P o a w x:=by
 have hl:=leaves_plain (P:=P) (o:=o) a.eval hp w;unfold Oper.quietAt at h;unfold isVal;generalize(execOp a.eval o).run P w=r at *
 cases r with
 |ok n w'=>
  cases n<;>simp only[leavesNext]at hl<;>simp only[Oper.quietUpon]at h
  ·obtain⟨rfl,rfl⟩:=h;exact .inl rfl
  ·obtain⟨rfl,rfl⟩:=h;exact .inr ⟨rfl,rfl⟩
 |halt x w'=>simp only[Oper.quietUpon]at h
theorem head_det (hw:Region.wanted o (yielded E.ops a.tmps)=true) (hk:E.ks k=none) (hs:E.sp k=none) (hf:E.fr k=false) (hp:plainOp o.op=true)
 (h:∀K:Act→Prop,(∀a',E.head P fin rest (k+1) a' L→K a')→o.quiet P a (fun w'=>∃p:Within E.R E.w0 (E.bef.getD k 0) L,w'=p.w) K):E.head P fin (o::rest) k a L:=by
 obtain⟨x,h1,h2⟩:=h _ (fun _ h=>h);simp only[Env.head];rw[if_pos hw,hk];exact⟨⟨hs,hf⟩,x,fun w hr hf=>isVal_of_quiet hp (h1 w ⟨⟨w,hr,hf⟩,rfl⟩),h2⟩
theorem head_skip (hw:Region.wanted o (yielded E.ops a.tmps)=false) (hs:E.sp k=none) (h:E.head P fin rest (k+1) (a.put o.dst undef) L):E.head P fin (o::rest) k a L:=by
 simp only[Env.head];rw[if_neg (by rw[hw];exact Bool.false_ne_true)];exact⟨hs,h⟩
theorem head_fix (x:Value) (hw:Region.wanted o (yielded E.ops a.tmps)=true) (hk:E.ks k=some (.inl x)) (hs:E.sp k=none)
 (h:∀w,E.R E.w0 w→Facts (E.bef.getD k 0) L w→yields P o a w (fun v w'=>(v=x∧E.R0 w w')∧newAt (E.fr k) v w w')) (h2:E.head P fin rest (k+1) (a.put o.dst x) L):E.head P fin (o::rest) k a L:=by
 simp only[Env.head];rw[if_pos hw,hk];refine⟨?_,h2⟩;unfold Env.asks;rw[hs];exact h
theorem head_fix_sp (x:Value) (s:Nat) (hw:Region.wanted o (yielded E.ops a.tmps)=true) (hk:E.ks k=some (.inl x)) (hs:E.sp k=some s)
 (h:∀w,E.R E.w0 w→E.J s w→Facts (E.bef.getD k 0) L w→yields P o a w (fun v w'=>(v=x∧E.R w w'∧E.J (s+1) w')∧newAt (E.fr k) v w w')) (h2:E.head P fin rest (k+1) (a.put o.dst x) L):E.head P fin (o::rest) k a L:=by
 simp only[Env.head];rw[if_pos hw,hk];refine⟨?_,h2⟩;unfold Env.asks;rw[hs];exact h
theorem head_loose (V:Value→World→Prop) (hw:Region.wanted o (yielded E.ops a.tmps)=true) (hk:E.ks k=some (.inr V)) (hs:E.sp k=none)
 (h:∀w,E.R E.w0 w→Facts (E.bef.getD k 0) L w→yields P o a w (fun v w'=>(V v w'∧E.R0 w w')∧newAt (E.fr k) v w w')) (h2:∀v,E.head P fin rest (k+1) (a.put o.dst v) ((k,V v)::L)):E.head P fin (o::rest) k a L:=by
 simp only[Env.head];rw[if_pos hw,hk];refine⟨?_,h2⟩;unfold Env.asks;rw[hs];exact h
theorem head_loose_sp (V:Value→World→Prop) (s:Nat) (hw:Region.wanted o (yielded E.ops a.tmps)=true) (hk:E.ks k=some (.inr V)) (hs:E.sp k=some s)
 (h:∀w,E.R E.w0 w→E.J s w→Facts (E.bef.getD k 0) L w→yields P o a w (fun v w'=>(V v w'∧E.R w w'∧E.J (s+1) w')∧newAt (E.fr k) v w w')) (h2:∀v,E.head P fin rest (k+1) (a.put o.dst v) ((k,V v)::L)):E.head P fin (o::rest) k a L:=by
 simp only[Env.head];rw[if_pos hw,hk];refine⟨?_,h2⟩;unfold Env.asks;rw[hs];exact h
theorem yields_of_wp {w:World} {S:Value→World→Prop} {d:Tmp} (hd:o.dst=some d) (hz:d<a.tmps.size) (h:∀K:Act→World→Prop,(∀v w',S v w'→K (a.put (some d) v) w')→o.wp P a w K (fun _ _ _=>False)):yields P o a w S:=by
 have h1:=h (fun a' w'=>∃v,a'=a.put (some d) v∧S v w') (fun v w' hs=>⟨v,rfl,hs⟩)
 have hv:∀u w',(∃v,a.put o.dst u=a.put (some d) v∧S v w')→S u w':=fun u w' ⟨v,he,hs⟩=>by
  have e1:(a.put (some d) u).tmps.getD d undef=u:=getD_put_same hz;have e2:(a.put (some d) v).tmps.getD d undef=v:=getD_put_same hz;rw[hd]at he;rw[he,e2]at e1;rw[←e1];exact hs
 unfold yields;unfold Oper.wp at h1;generalize(execOp a.eval o).run P w=r at *
 cases r with
 |ok n w'=>
  cases n<;>simp only[Oper.upon]at h1<;>simp only[yieldsUpon]
  case value u=>exact hv u w' h1
  case skip=>exact hv undef w' h1
  case defer dd=>
   obtain⟨v,he,_⟩:=h1;have:(dd::a.defers:List Deferred)=a.defers:=by have:=congrArg Act.defers he;rw[put_defers,put_defers]at this;exact this
   have:=congrArg List.length this;simp at this
  case enter f args=>exact h1.mono fun e w'' he=>by cases e<;>first|exact⟨_,rfl,hv _ _ he⟩|exact he.elim|(obtain⟨_,_,h0⟩:=he;exact h0.elim)
  case row row args=>exact h1.mono hv
 |halt x w'=>cases x<;>simp only[Oper.upon]at h1
end
structure Tch (F:Nat→Prop) (w w':World):Prop where
 os:w'.os=w.os
 tape:w'.tape=w.tape
 output:w'.output=w.output
 size:w.heap.size≤w'.heap.size
 block:∀k,k<w.heap.size→¬F k→w'.heap[k]?=w.heap[k]?
theorem Tch.refl (F:Nat→Prop) (w:World):Tch F w w:=⟨rfl,rfl,rfl,Nat.le_refl _,fun _ _ _=>rfl⟩
theorem Tch.trans {F:Nat→Prop} {a b c:World} (h:Tch F a b) (k:Tch F b c):Tch F a c:=
 ⟨k.os.trans h.os,k.tape.trans h.tape,k.output.trans h.output,Nat.le_trans h.size k.size,fun i hi hn=>(k.block i (Nat.lt_of_lt_of_le hi h.size) hn).trans (h.block i hi hn)⟩
theorem Tch.trans' {F F':Nat→Prop} {a b c:World} (h:Tch F a b) (k:Tch F' b c) (hs:∀i,F' i→F i∨a.heap.size≤i):Tch F a c:=
 ⟨k.os.trans h.os,k.tape.trans h.tape,k.output.trans h.output,Nat.le_trans h.size k.size,fun i hi hn=>(k.block i (Nat.lt_of_lt_of_le hi h.size) (fun hf=>by rcases hs i hf with h|h;exact hn h;omega)).trans (h.block i hi hn)⟩
theorem Tch.mono {F F':Nat→Prop} {w w':World} (h:Tch F w w') (hs:∀i,i<w.heap.size→F i→F' i):Tch F' w w':=⟨h.os,h.tape,h.output,h.size,fun i hi hn=>h.block i hi fun hf=>hn (hs i hi hf)⟩
theorem Tch.drew (F:Nat→Prop) (w:World):Tch F w w.drew:=⟨rfl,rfl,rfl,Nat.le_refl _,fun _ _ _=>rfl⟩
theorem Tch.drewN (F:Nat→Prop) (w:World) (n:Nat):Tch F w (w.drewN n):=⟨rfl,rfl,rfl,Nat.le_refl _,fun _ _ _=>rfl⟩
theorem Tch.alloc (F:Nat→Prop) (w:World) (o:Obj):Tch F w (w.alloc o):=⟨rfl,rfl,rfl,by simp,fun k hk _=>RowKit.Below.heap_alloc w o k hk⟩
abbrev Tf (w w':World):Prop:=Tch (fun _=>False) w w'
theorem tal (w:World) (o:Obj):Tf w (w.alloc o):=Tch.alloc _ w o
theorem znn (j:Nat):(0:Int)≤(j:Int):=Int.natCast_nonneg _
theorem Tch.setCell {F:Nat→Prop} (w:World) {p:Addr} (hp:F p.block∨w.heap.size≤p.block) (u:Value):Tch F w (w.setCell p u):=
 ⟨rfl,rfl,rfl,by simp[World.setCell],fun k hk hn=>RowKit.Below.heap_setCell w p u k (fun e=>by subst e;rcases hp with h|h;exact hn h;omega)⟩
theorem Tch.grown {F:Nat→Prop} {w w':World} {row:Option Nat} (hg:w.grownBy w' row) (hr:∀k,row=some k→F k∨w.heap.size≤k):Tch F w w':=
 ⟨hg.os,hg.tape,hg.output,hg.size,fun k hk hn=>hg.block k hk (fun e=>by rcases hr k e.symm with h|h;exact hn h;omega)⟩
theorem Tch.cell {F:Nat→Prop} {w w':World} (h:Tch F w w') {p:Addr} (hp:p.block<w.heap.size) (hn:¬F p.block):w'.cell? p=w.cell? p:=World.cell?_of_block (h.block p.block hp hn)
theorem Tch.cell_some {F:Nat→Prop} {w w':World} (h:Tch F w w') {p:Addr} {v:Value} (hc:w.cell? p=some v) (hn:¬F p.block):w'.cell? p=some v:=(h.cell (World.block_lt_of_cell? w p hc) hn).trans hc
theorem Tch.frozen {F:Nat→Prop} {w w':World} (h:Tch F w w') {p:Addr} (hp:p.block<w.heap.size) (hn:¬F p.block):w'.frozen? p=w.frozen? p:=World.frozen?_of_block (h.block p.block hp hn)
abbrev Exn (w w':World):Prop:=Tch (fun _=>False) w w'
theorem Exn.below {w w':World} (h:Exn w w'):RowKit.Below w.heap.size w w':=⟨h.os,h.tape,h.output,h.size,fun k hk=>h.block k hk id⟩
theorem Exn.touch {F:Nat→Prop} {w w':World} (h:Exn w w'):Tch F w w':=h.mono fun _ _ h=>h.elim
def checks (pre:List Nat) (ops:Array Oper) (sp:Nat→Option Nat) (n N:Nat):Bool:=
 Region.noSelect ops&&befOK ops (Region.before ops) n&&lookOK ops (Region.before ops) n&&dstOK ops n N&&edgeOK ops n&&spOK (Region.before ops) sp n&&tailOK pre ops n&&preOK ops (Region.before ops) sp n pre (Array.replicate ops.size false)
def Stable (R:World→World→Prop):List (Nat×Sum Value (Value→World→Prop))→Prop
 |[]=>True
 |(_,.inl _)::r=>Stable R r
 |(_,.inr V)::r=>(∀v a b,R a b→V v a→V v b)∧Stable R r
theorem Stable.spec {R:World→World→Prop}:∀{Vs:List (Nat×Sum Value (Value→World→Prop))},Stable R Vs→∀k V,Vs.lookup k=some (.inr V)→∀v a b,R a b→V v a→V v b
 |[],_,k,V,h=>by simp at h
 |(j,x)::r,hs,k,V,h=>by
  simp only[List.lookup]at h;split at h
  ·rename_i hk
   have hx:x=.inr V:=Option.some.inj h;subst hx;exact hs.1
  ·cases x with
   |inl y=>exact Stable.spec (Vs:=r) hs k V h
   |inr U=>exact Stable.spec (Vs:=r) hs.2 k V h
theorem head_mono {P:Program} {fin fin':Act→List (Nat×(World→Prop))→Prop} (hf:∀a L,fin a L→fin' a L) (E:Env):∀(ls:List Oper) (k:Nat) (a:Act) (L:List (Nat×(World→Prop))),E.head P fin ls k a L→E.head P fin' ls k a L
 |[],k,a,L,h=>hf _ _ h
 |o::ls,k,a,L,h=>by
  simp only[Env.head]at h⊢;split
  ·rename_i hw
   rw[if_pos hw]at h
   cases hk:E.ks k with
   |none=>simp only[hk]at h;obtain⟨h0,x,h1,h2⟩:=h;exact⟨h0,x,h1,head_mono hf E _ _ _ _ h2⟩
   |some q=>cases q<;>simp only[hk]at h<;>simp only[]
            ·exact⟨h.1,head_mono hf E _ _ _ _ h.2⟩
            ·exact⟨h.1,fun v=>head_mono hf E _ _ _ _ (h.2 v)⟩
  ·rename_i hw
   rw[if_neg hw]at h;exact⟨h.1,head_mono hf E _ _ _ _ h.2⟩
@[reducible] def touchEnv (F:Nat→Prop) (ops:Array Oper) (bef:Array Nat) (Vs:List (Nat×Sum Value (Value→World→Prop))) (fr:List Nat) (w0:World):Env:=
 {ops:=ops,bef:=bef,R:=Tch F,R0:=Tch F,J:=fun _ _=>True,w0:=w0,ks:=fun k=>Vs.lookup k,sp:=fun _=>none,fr:=fun k=>fr.contains k}
section
variable {P:Program} {F:Nat→Prop} {ops:Array Oper} {bef:Array Nat} {Vs:List (Nat×Sum Value (Value→World→Prop))} {fr:List Nat} {w0:World} {fin:Act→List (Nat×(World→Prop))→Prop} {o:Oper} {rest:List Oper} {k:Nat} {a:Act} {L:List (Nat×(World→Prop))}
theorem t_det (hw:Region.wanted o (yielded ops a.tmps)=true) (hk:Vs.lookup k=none) (hf:fr.contains k=false) (hp:plainOp o.op=true)
 (h:∀K:Act→Prop,(∀a',(touchEnv F ops bef Vs fr w0).head P fin rest (k+1) a' L→K a')→o.quiet P a (fun w'=>∃p:Within (Tch F) w0 (bef.getD k 0) L,w'=p.w) K):(touchEnv F ops bef Vs fr w0).head P fin (o::rest) k a L:=
 head_det (E:=touchEnv F ops bef Vs fr w0) hw hk rfl hf hp h
theorem t_skip (hw:Region.wanted o (yielded ops a.tmps)=false) (h:(touchEnv F ops bef Vs fr w0).head P fin rest (k+1) (a.put o.dst undef) L):(touchEnv F ops bef Vs fr w0).head P fin (o::rest) k a L:=
 head_skip (E:=touchEnv F ops bef Vs fr w0) hw rfl h
theorem t_fix (x:Value) (hw:Region.wanted o (yielded ops a.tmps)=true) (hk:Vs.lookup k=some (.inl x))
 (h:∀w,Tch F w0 w→Facts (bef.getD k 0) L w→yields P o a w (fun v w'=>(v=x∧Tch F w w')∧newAt (fr.contains k) v w w')) (h2:(touchEnv F ops bef Vs fr w0).head P fin rest (k+1) (a.put o.dst x) L):(touchEnv F ops bef Vs fr w0).head P fin (o::rest) k a L:=
 head_fix (E:=touchEnv F ops bef Vs fr w0) x hw hk rfl h h2
theorem t_loose {V:Value→World→Prop} (hw:Region.wanted o (yielded ops a.tmps)=true) (hk:Vs.lookup k=some (.inr V))
 (h:∀w,Tch F w0 w→Facts (bef.getD k 0) L w→yields P o a w (fun v w'=>(V v w'∧Tch F w w')∧newAt (fr.contains k) v w w')) (h2:∀v,(touchEnv F ops bef Vs fr w0).head P fin rest (k+1) (a.put o.dst v) ((k,V v)::L)):(touchEnv F ops bef Vs fr w0).head P fin (o::rest) k a L:=
 head_loose (E:=touchEnv F ops bef Vs fr w0) V hw hk rfl h h2
theorem t_nil (h:fin a L):(touchEnv F ops bef Vs fr w0).head P fin [] k a L:=h
theorem newAt_no {v:Value} {w w':World}:newAt false v w w':=fun h=>by cases h
end
theorem wp_region_touch {P:Program} (F:Nat→Prop) {id:Nat} {Q:Exit→Act→World→Prop} {a:Act} {w:World} {l:List Oper} (pre:List Nat) (n:Nat) (Vs:List (Nat×Sum Value (Value→World→Prop))) (fr:List Nat) (hm:P.follows .mixedOrders=true)
 (hn:(decide (n≤l.length))=true) (hc:checks pre l.toArray (fun _=>none) n a.tmps.size=true) (hpk:((pre.all fun i=>(Vs.lookup i).isNone)&&fr.all fun i=>(Vs.lookup i).isSome)=true) (hQ:∀d v c a w,Q (.panic c) (a.put d v) w→Q (.panic c) a w) (hV:Stable (Tch F) Vs)
 (h:∀(bef:Array Nat) (ops:Array Oper),bef=Region.before l.toArray→ops=l.toArray→(touchEnv F ops bef Vs fr w.drew).head P (fun a' L=>∀w',Tch F w.drew w'→(∀p∈L,p.2 w')→(touchEnv F l.toArray bef Vs fr w.drew).apart n a'→wpList P l.toArray Q (l.drop n) a' w') (l.take n) 0 a []):(Code.region id l.toArray true).wp P Q a w:=by
 simp only[checks,Bool.and_eq_true]at hc;obtain⟨⟨⟨⟨⟨⟨⟨c1,c2⟩,c3⟩,c4⟩,c5⟩,c6⟩,c7⟩,c8⟩:=hc;simp only[Bool.and_eq_true]at hpk
 refine wp_region_rel (E:=touchEnv F l.toArray (Region.before l.toArray) Vs fr w.drew) (n:=n) (m:=0) pre hm rfl rfl ⟨fun _ _ h=>h.size,Tch.refl F,fun _ _ _ h k=>h.trans k,fun _ _ h=>h,fun _ _ _ _ h=>h,hV.spec,c1,c2,c3,c4,c5,c6⟩ rfl (of_decide_eq_true hn) c7 (by simpa using c8)
  (fun i hi=>by have:=List.all_eq_true.1 hpk.1 i hi;simpa using this) (fun i hi=>?_) hQ ⟨(fun _ _ _ h=>by cases h),.inl rfl⟩ trivial ?_
 ·cases hf:fr.contains i with
  |false=>exact hf
  |true=>
   have:=List.all_eq_true.1 hpk.2 i (by simpa using hf);rw[show Vs.lookup i=none from hi]at this
   cases this
 ·exact head_mono (fun a' L' hf w' hr _ hp hap=>hf w' hr hp hap) _ _ _ _ _ (h _ _ rfl rfl)
theorem putS:(∀(a:Act) (v:Value),a.put none v=a)∧(∀(a:Act) (d:Tmp) (v:Value),a.put (some d) v={a with tmps:=a.tmps.setIfInBounds d v})∧(∀(l:List Value) (i:Nat) (x:Value),l.toArray.setIfInBounds i x=(l.set i x).toArray)∧(∀(x y:Value) (l:List Value) (i:Nat),(x::l).set (i+1) y=x::l.set i y)∧∀(x y:Value) (l:List Value),(x::l).set 0 y=y::l:=
 ⟨fun _ _=>rfl,fun _ _ _=>rfl,fun _ _ _=>by simp,fun _ _ _ _=>rfl,fun _ _ _=>rfl⟩
theorem tkS:(∀(x:Oper) (l:List Oper) (n:Nat),(x::l).take (n+1)=x::l.take n)∧(∀l:List Oper,l.take 0=[])∧(∀(x:Oper) (l:List Oper) (n:Nat),(x::l).drop (n+1)=l.drop n)∧∀l:List Oper,l.drop 0=l:=
 ⟨fun _ _ _=>rfl,fun _=>rfl,fun _ _ _=>rfl,fun _=>rfl⟩
section
variable {P:Program} {F:Nat→Prop} {ops:Array Oper} {bef:Array Nat} {Vs:List (Nat×Sum Value (Value→World→Prop))} {fr:List Nat} {w0:World}
variable {fin:Act→List (Nat×(World→Prop))→Prop} {rest:List Oper} {o:Oper} {k:Nat} {a:Act} {L:List (Nat×(World→Prop))}
theorem t_dq {a':Act} (h2:(touchEnv F ops bef Vs fr w0).head P fin rest (k+1) a' L) (hw:Region.wanted o (yielded ops a.tmps)=true:=by rfl) (hk:Vs.lookup k=none:=by rfl) (hf:fr.contains k=false:=by rfl) (hp:plainOp o.op=true:=by rfl)
 (h:∀K:Act→Prop,K a'→o.quiet P a (fun w'=>∃p:Within (Tch F) w0 (bef.getD k 0) L,w'=p.w) K:=by(intro K hK;go_big_quiet_op;first|exact hK|exact⟨_,fun _=>rfl,hK⟩)):(touchEnv F ops bef Vs fr w0).head P fin (o::rest) k a L:=
 t_det hw hk hf hp fun K hK=>h K (hK a' h2)
end
theorem wp_touch {P:Program} (F:Nat→Prop) {id:Nat} {Q:Exit→Act→World→Prop} {a:Act} {w:World} {l:List Oper} (pre:List Nat) (n:Nat) (Vs:List (Nat×Sum Value (Value→World→Prop))) (fr:List Nat) (hV:Stable (Tch F) Vs)
 {l1 l2:List Oper} (h:∀(bef:Array Nat),bef=Region.before l.toArray→(touchEnv F l.toArray bef Vs fr w.drew).head P (fun a' L=>∀w',Tch F w.drew w'→(∀p∈L,p.2 w')→(touchEnv F l.toArray bef Vs fr w.drew).apart n a'→wpList P l.toArray Q l2 a' w') l1 0 a [])
 (h1:l.take n=l1:=by simp only[List.append,tkS];first|done|rfl) (h2:l.drop n=l2:=by simp only[List.append,tkS];first|done|rfl) (hm:P.follows .mixedOrders=true:=by kernel_rfl)
 (hn:(decide (n≤l.length))=true:=by rfl) (hc:checks pre l.toArray (fun _=>none) n a.tmps.size=true:=by kernel_rfl) (hpk:((pre.all fun i=>(Vs.lookup i).isNone)&&fr.all fun i=>(Vs.lookup i).isSome)=true:=by rfl)
 (hQ:∀d v c a w,Q (.panic c) (a.put d v) w→Q (.panic c) a w:=by(intro d _ _ _ _ h;cases d<;>exact h)):(Code.region id l.toArray true).wp P Q a w:=
 wp_region_touch F pre n Vs fr hm hn hc hpk hQ hV fun bef ops hb ho=>by subst ho;rw[h1,h2];exact h bef hb
