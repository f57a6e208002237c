/-
  Plain: books that may be: what the room's zj9 look at. No program in sight.
-/
import Derived.Test.YtoegobjnjljegaaGreatDoorZ2
import Derived.MapKept
import Derived.Test.YtoegobjnjljegaaGreatDoorProg
import Derived.KernelRfl
import Derived.WalkSpells
import Derived.WalkLawsBesides
import Derived.Deep.QuietTactic
import Derived.Outline
import Derived.IntWalk
import Derived.Lib.Hide
import Derived.Shelf.Abstract
import Derived.Laws.StructEq
import Derived.Laws.ResultCell
import Derived.Laws.MakeOwn
import Derived.Deep.RegionHeld3
namespace Go.Gk
open Go.RowKit
def RetOk (ok:Bool) (w:World) (e:Ending) (w':World):Prop:=∃n:Int,e=.returned (iV n)∧(n==0)=ok∧Tf w w'
def RetAt (ok:Bool) (w:World) (e:Ending) (w':World):Prop:=∃a n:Int,e=.returned (.tuple #[iV a,iV n])∧(n==0)=ok∧Tf w w'
def wi (n lo hi:Int):Bool:=decide (lo≤n)&&decide (n≤hi)
def zh1 (c:Int):Bool:=decide (1≤c)&&decide (c≤8)
def zj0 (l:List Int):Bool:=decide (l.length≤40)&&l.all zh1
def zdb (l:List Acc) (a:Int):Bool:=decide (1≤a)&&decide (a≤l.length)
def zm5 (l:List Acc) (a:Int):Bool:=l.any fun x=>x.1==a
def zas (l:List Acc) (a:Int):Bool:=zdb l a&& !zm5 l a
def zal (n:Nat):List Int:=(List.range n).map fun(i:Nat)=>(i:Int)+1
def zag (l:List Acc):List Int:=(zal l.length).filter (zas l)
def zgl (l:List Acc) (a:Int):Int:=((l[(a-1).toNat]?).map (·.1)).getD 0
def zh2 (l:List Acc) (a:Int):Nat→Int→Int
 |0,x=>x
 |n+1,x=>if zgl l x==a|| !zdb l (zgl l x)then zgl l x else zh2 l a n (zgl l x)
def zih (l:List Acc) (a:Int):Bool:=zh2 l a l.length a==a
def zgp (p n:Int):Bool:=(decide (0≤p)&&decide (p≤n))&& !(decide (1≤p)&&decide (p≤3))
def zj1 (x:Acc):Bool:=(decide (1≤x.2.1)&&decide (x.2.1≤3))&& !(x.2.2.1&&x.2.2.2)
def zef:List Acc:=[(0,1,true,false),(0,1,false,false),(0,1,false,false)]
def zj2 (l:List Acc):Bool:=
 decide (l.length≤60)&&(decide (3≤l.length)&&decide (l.take 3=zef))&&(l.all fun x=>zgp x.1 l.length&&zj1 x)&&((zal l.length).filter (zih l)).isEmpty
def zc0 (e p:Int) (b:Option zbv) (s:zbv):Option zbv:=
 if s.1==e&&decide (s.2.2.2≤p)then match b with |none=>some s|some t=>if t.2.2.2≤s.2.2.2 then some s else b else b
def zdc (l:List zbv) (e p:Int):Option zbv:=l.foldl (zc0 e p) none
def zam (l:List zbv) (e p:Int):Int:=((zdc l e p).map (·.2.1)).getD 0
def zbb (l:List zbv) (e p:Int):Int:=((zdc l e p).map (·.2.2.1)).getD 10000
def zb2 (l:List zbv) (p e:Int):Nat→Int→Int
 |0,x=>zam l x p
 |n+1,x=>if zam l x p==e||zam l x p==0 then zam l x p else zb2 l p e n (zam l x p)
def zbu (l:List zbv) (e p:Int):Bool:=zb2 l p e l.length e==e
def zf2 (s:zbv) (n:Int):Bool:=
 (decide (1≤s.1)&&decide (s.1≤n)&&decide (0≤s.2.1)&&decide (s.2.1≤n))&&(decide (0≤s.2.2.1)&&decide (s.2.2.1≤10000)&& !(s.2.1==0&&s.2.2.1 !=10000))&&(decide (0≤s.2.2.2)&&decide (s.2.2.2<24))
def zfm (l:List zbv) (n:Int):Bool:=
 match l.getLast? with
 |none=>true
 |some s=>zf2 s n&&(List.range 24).all fun p=>!zbu l s.1 p
def zsz (l:List zbv) (n:Int):Bool:=(List.range l.length).all fun i=>zfm (l.take (i+1)) n
def zan (l:List zbv) (n:Int):Bool:=decide (l.length≤400)&&zsz l n
def zf3 (a b:Int):Bool:=decide (1≤a)&&decide (1≤b)&&decide (a≤1000000000000)&&decide (b≤1000000000000)
def zii (r:Rt6):Bool:=
 (zh1 r.1&&zh1 r.2.1&& !(r.1==r.2.1))&&(decide (1≤r.2.2.1)&&decide (r.2.2.1≤3))&&(decide (0≤r.2.2.2.1)&&decide (r.2.2.2.1<24))&&zf3 r.2.2.2.2.1 r.2.2.2.2.2
def zh3 (l:List Rt6):Bool:=decide (l.length≤2000)&&l.all zii
def zkz (e:Int) (b:Int) (x:Lk2):Int:=if x.1==e then max b x.2 else b
def zbj (l:List Lk2) (e:Int):Int:=l.foldl (zkz e) (-1)
def zij (l:List Lk2) (x:Lk2) (n:Int):Bool:=
 (decide (1≤x.1)&&decide (x.1≤n))&&(decide (0≤x.2)&&decide (x.2<24))&& !decide (x.2≤zbj l x.1)
def zs0 (l:List Lk2) (n:Int):Bool:=(List.range l.length).all fun i=>match l[i]? with |none=>true|some x=>zij (l.take i) x n
def zh4 (l:List Lk2) (n:Int):Bool:=decide (l.length≤400)&&zs0 l n
def zgj (x:Ln4) (ne na:Int):Bool:=
 (decide (1≤x.1)&&decide (x.1≤ne))&&(decide (1≤x.2.1)&&decide (x.2.1≤na))&&((decide (0≤x.2.2.1)&&decide (x.2.2.1≤ne))&& !(x.2.2.1==x.1))&& !(x.2.2.2==0)
def zfn (l:List Ln4) (e:Int):Int:=((l.filter fun x=>x.1==e).map (·.2.2.2)).sum
def zh5 (x:Ent) (ne na:Int):Bool:=
 (decide (0≤x.period)&&decide (x.period<24))&&(decide (2≤x.lines.length)&&decide (x.lines.length≤50))&&(x.lines.all fun l=>zgj l ne na)&&(x.lines.all fun l=>zfn x.lines l.1==0)
def zik (x:Ent) (leaves:List Int):Bool:=!(x.lines.any fun l=>decide (l.2.1≤3))&& !(x.lines.any fun l=>!leaves.contains l.2.1)
def opp (l:Ln4):Ln4:=(l.1,l.2.1,l.2.2.1,-l.2.2.2)
def zhg (ahead:List Ent) (x:Ent):Bool:=
 if x.reverses==0 then true
 else if decide (x.reverses<0)||decide ((ahead.length:Int)<x.reverses)then false
 else match ahead[(x.reverses-1).toNat]? with
  |none=>false
  |some y=>y.reverses==0&& !(ahead.any fun z=>z.reverses==x.reverses)&& !(y.lines.any fun l=>l.2.2.2== -9223372036854775808)&&decide (x.lines=y.lines.map opp)
def zgq (b:Bks) (i:Nat):Bool:=
 match b.entries[i]? with
 |none=>true
 |some x=>zh5 x b.ents.length b.accs.length&&zik x (zag b.accs)&&zhg (b.entries.take i) x
def zd8 (b:Bks):Bool:=decide (b.entries.length≤2000)&&(List.range b.entries.length).all (zgq b)
def zba (b:Bks):Bool:=zj0 b.ents&&zj2 b.accs&&zan b.stakes b.ents.length&&zh3 b.rates&&zh4 b.locks b.ents.length&&zd8 b
structure BksFew (b:Bks):Prop where
 ents:b.ents.length≤50
 accs:b.accs.length≤65
 stakes:b.stakes.length≤20
 rates:b.rates.length≤60
 locks:b.locks.length≤60
 entries:b.entries.length≤30
 lines:∀x∈b.entries,x.lines.length≤60
def I64 (n:Int):Prop:= -9223372036854775808≤n∧n≤9223372036854775807
structure Bks64 (b:Bks):Prop where
 ents:∀n∈b.ents,I64 n
 accs:∀x∈b.accs,I64 x.1∧I64 x.2.1
 stakes:∀x∈b.stakes,I64 x.1∧I64 x.2.1∧I64 x.2.2.1∧I64 x.2.2.2
 rates:∀x∈b.rates,I64 x.1∧I64 x.2.1∧I64 x.2.2.1∧I64 x.2.2.2.1∧I64 x.2.2.2.2.1∧I64 x.2.2.2.2.2
 locks:∀x∈b.locks,I64 x.1∧I64 x.2
 entries:∀x∈b.entries,I64 x.period∧I64 x.reverses∧∀l∈x.lines,I64 l.1∧I64 l.2.1∧I64 l.2.2.1∧I64 l.2.2.2
def someBks:Bks:={ents:=[1],accs:=zef++[(0,1,false,false),(0,2,true,false)],stakes:=[],rates:=[],locks:=[],entries:=[⟨0,0,[(1,4,0,5),(1,5,0,-5)]⟩,⟨1,0,[(1,4,0,7),(1,5,0,-7)]⟩]}
theorem someBks_ok:zba someBks=true:=by decide+kernel
open Go.RowKit Go.Instr
structure KeyLaw {κ:Type} [DecidableEq κ] (P:Program) (K:TypeId) (enc:κ→Value):Prop where
 eq:∀(a b:κ) (w:World),(Op.equal K (enc a) (enc b)).run P w=.ok (decide (a=b)) w
 check:∀(e:Bool) (a:κ) (w:World),(checkKey e 10000 K (enc a)).run P w=.ok () w
 bits:∀a:κ,sameBits 10000 (enc a) (enc a)=true
 desc:∃d,P.underlying K=some d∧∀a b:κ,sameNow d (enc a) (enc b)=none
def zar {κ:Type} [DecidableEq κ]:List (κ×Value)→κ→Option Value
 |[],_=>none
 |p::r,k=>if k=p.1 then some p.2 else zar r k
def z2d {κ:Type} [DecidableEq κ]:List (κ×Value)→κ→Value→List (κ×Value)
 |[],k,v=>[(k,v)]
 |p::r,k,v=>if k=p.1 then(p.1,v)::r else p::z2d r k v
def zm6 {κ:Type} [DecidableEq κ]:List (κ×Value)→κ→Nat→Option (Nat×Value)
 |[],_,_=>none
 |p::r,k,i=>if k=p.1 then some (i,p.2)else zm6 r k (i+1)
section
variable {κ:Type} {P:Program} {K:TypeId} {enc:κ→Value} {w:World}
def MapIs (enc:κ→Value) (w:World) (b:Nat) (m:List (κ×Value)):Prop:=
 ∃es clock,w.heap[b]?=some (.map es clock)∧es.toList.map (fun e=>(e.key,e.val))=m.map fun p=>(enc p.1,p.2)
theorem MapIs.lt {b:Nat} {m:List (κ×Value)} (h:MapIs enc w b m):b<w.heap.size:=let⟨_,_,h,_⟩:=h;(Array.getElem?_eq_some_iff.1 h).1
theorem MapIs.keep {w':World} {F:Nat→Prop} {b:Nat} {m:List (κ×Value)} (h:MapIs enc w b m) (t:Tch F w w') (hn:¬F b):MapIs enc w' b m:=
 let⟨es,c,h1,h2⟩:=h;⟨es,c,(t.block b (Array.getElem?_eq_some_iff.1 h1).1 hn).trans h1,h2⟩
theorem MapIs.new (enc:κ→Value) (w:World):MapIs enc (w.alloc (.map #[] 0)) w.heap.size []:=⟨#[],0,heap_alloc_new w _,rfl⟩
theorem zo7 {d:TypeDesc} (hd:∀a b:κ,sameNow d (enc a) (enc b)=none) (k:κ) (p:κ×Value) (r:List (κ×Value)) (es:List MapEntry) (h:es.map (fun e=>(e.key,e.val))=(p::r).map (fun p=>(enc p.1,p.2))):findNow d (enc k) es 0=none:=by
 match es,h with
 |[],h=>simp at h
 |e::es,h=>
  simp only[List.map_cons,List.cons.injEq,Prod.mk.injEq]at h;rw[findNow,h.1.1,hd]
end
section
variable {κ:Type} [DecidableEq κ] {P:Program} {K:TypeId} {enc:κ→Value} {w:World}
theorem zwb (m:List (κ×Value)) (k:κ) (v:Value):∀i,zm6 m k i=none→z2d m k v=m++[(k,v)]:=by
 induction m with
 |nil=>intro i _;rfl
 |cons p r ih=>
  intro i h;simp only[zm6]at h;split at h
  ·cases h
  ·rename_i e
   rw[z2d,if_neg e,ih _ h];rfl
theorem z4i (m:List (κ×Value)) (k:κ) (v:Value):∀(i j:Nat) (u:Value),zm6 m k i=some (j,u)→∃n,j=i+n∧n<m.length∧(m[n]?).map (·.1)=some k∧z2d m k v=m.set n (k,v):=by
 induction m with
 |nil=>intro i j u h;cases h
 |cons p r ih=>
  intro i j u h;simp only[zm6]at h;split at h
  ·rename_i e
   cases h;exact⟨0,rfl,by simp,by simp[e],by rw[z2d,if_pos e,←e];rfl⟩
  ·rename_i e
   obtain⟨n,h1,h2,h3,h4⟩:=ih _ _ _ h;exact⟨n+1,by omega,by simpa using h2,by simpa using h3,by rw[z2d,if_neg e,h4];rfl⟩
theorem zlg (m:List (κ×Value)) (k:κ):∀i,(zm6 m k i).map (·.2)=zar m k:=by
 induction m with
 |nil=>intro i;rfl
 |cons p r ih=>intro i;simp only[zm6,zar];split;rfl;exact ih (i+1)
theorem zlh (m:List (κ×Value)) (k k':κ) (v:Value):zar (z2d m k v) k'=if k'=k then some v else zar m k':=by
 induction m with
 |nil=>simp[z2d,zar]
 |cons p r ih=>
  simp only[z2d];by_cases e:k=p.1
  ·rw[if_pos e];simp only[zar];by_cases e':k'=p.1
   ·rw[if_pos e',if_pos (e'.trans e.symm)]
   ·rw[if_neg e',if_neg (fun h=>e' (h.trans e)),if_neg e']
  ·rw[if_neg e];simp only[zar,ih];by_cases e':k'=p.1
   ·rw[if_pos e',if_pos e',if_neg (fun h=>e (h.symm.trans e'))]
   ·rw[if_neg e',if_neg e']
theorem zhs (L:KeyLaw P K enc) (k:κ):∀(m:List (κ×Value)) (es:List MapEntry) (i:Nat) (w:World),es.map (fun e=>(e.key,e.val))=m.map (fun p=>(enc p.1,p.2))→(findAsking K (enc k) es i).run P w=.ok (zm6 m k i) w
 |[],es,i,w,h=>by
  obtain rfl:es=[]:=by simpa using h
  rfl
 |p::r,es,i,w,h=>by
  match es,h with
  |[],h=>simp at h
  |e::es,h=>
   simp only[List.map_cons,List.cons.injEq,Prod.mk.injEq]at h;obtain⟨⟨h1,h2⟩,h3⟩:=h;unfold findAsking;rw[Sem.run_bind,h1,L.eq k p.1 w];simp only[Result.andThen_ok,zm6];by_cases e':k=p.1
   ·rw[if_pos e'];simp[e',h2]
   ·rw[if_neg e',decide_eq_false e'];simp only[Bool.false_eq_true,if_false];exact zhs L k r es (i+1) w h3
theorem run_findKey (L:KeyLaw P K enc) (k:κ) (m:List (κ×Value)) (es:List MapEntry) (w:World) (h:es.map (fun e=>(e.key,e.val))=m.map (fun p=>(enc p.1,p.2))):(findKey K (enc k) es).run P w=.ok (zm6 m k 0) w:=by
 obtain⟨d,hu,hd⟩:=L.desc;unfold findKey;rw[Sem.run_bind,run_underlying hu];simp only[Result.andThen_ok];match m,h with
 |[],h=>
  obtain rfl:es=[]:=by simpa using h
  rfl
 |p::r,h=>
  rw[zo7 hd k p r es h];exact zhs L k (p::r) es 0 w h
theorem MapIs.run_look (L:KeyLaw P K enc) {T E:TypeId} (hT:P.underlying T=some (.map K E)) {z:Value} {b:Nat} {m:List (κ×Value)} (h:MapIs enc w b m) (hz:(zeroValue E).run P w=.ok z w) (k:κ) (ok:Bool):
 (Instr.lookup T (.map (some b)) (enc k) ok).run P w=.ok (if ok then .tuple #[(zar m k).getD z,.bool (zar m k).isSome]else(zar m k).getD z) w:=by
 obtain⟨es,c,h1,h2⟩:=h;have hf:=run_findKey L k m es.toList w h2;have hi:=zlg m k 0;have hg:(getObj b).run P w=.ok (.map es c) w:=MapKept.run_getObj_map h1;unfold Instr.lookup;rw[Sem.run_bind,run_underlying hT];simp only[Result.andThen_ok,Sem.run_bind,hg,Sem.run_pure,L.check,hf]
 cases ha:zm6 m k 0 with
 |none=>
  rw[ha]at hi;have hn:zar m k=none:=by simpa using hi.symm
  simp[hn,hz]
 |some q=>
  rw[ha]at hi;have hn:zar m k=some q.2:=by simpa using hi.symm
  obtain⟨i,v⟩:=q;simp[hn]
theorem MapIs.run_put (L:KeyLaw P K enc) {T E:TypeId} (hT:P.underlying T=some (.map K E)) {b:Nat} {m:List (κ×Value)} (h:MapIs enc w b m) (k:κ) (v:Value):
 ∃w',(Instr.mapUpdate T (.map (some b)) (enc k) v).run P w=.ok () w'∧MapIs enc w' b (z2d m k v)∧Tch (fun g=>g=b) w w':=by
 obtain⟨es,c,h1,h2⟩:=h;have hf:=run_findKey L k m es.toList w h2;have hlt:=(Array.getElem?_eq_some_iff.1 h1).1;have hset:∀o:Obj,(setObj b o).run P w=.ok () {w with heap:=w.heap.setIfInBounds b o}:=fun o=>MapKept.run_setObj_map o h1
 have ht:∀o:Obj,Tch (fun g=>g=b) w {w with heap:=w.heap.setIfInBounds b o}:=fun o=>⟨rfl,rfl,rfl,by simp,fun k _ hn=>by simp only;rw[Array.getElem?_setIfInBounds_ne (fun e=>hn e.symm)]⟩
 have hnew:∀o:Obj,({w with heap:=w.heap.setIfInBounds b o}:World).heap[b]?=some o:=fun o=>by simp[hlt]
 unfold Instr.mapUpdate;rw[Sem.run_bind,run_underlying hT];simp only[Result.andThen_ok,Sem.run_bind,MapKept.run_getObj_map h1,L.check,hf]
 cases ha:zm6 m k 0 with
 |none=>
  simp only[hset];refine⟨_,rfl,⟨_,_,hnew _,?_⟩,ht _⟩;rw[Array.toList_push,List.map_append,h2,zwb m k v 0 ha];simp
 |some q=>
  obtain⟨i,u⟩:=q;obtain⟨n,hin,hi,hk,hput⟩:=z4i m k v 0 i u ha;obtain rfl:i=n:=by omega
  have hlen:es.toList.length=m.length:=by have:=congrArg List.length h2;simpa using this
  have hie:i<es.size:=by simp at hlen;omega
  have hkey:(es[i]?).map (·.key)=some (enc k):=by
   have h3:=congrArg (fun l:List (Value×Value)=>(l[i]?).map (·.1)) h2;simp only[List.getElem?_map]at h3;rw[List.getElem?_eq_getElem hi]at h3 hk;simp only[Option.map_some,Option.some.injEq]at h3 hk;rw[hk]at h3;rw[←Array.getElem?_toList]
   cases he:es.toList[i]? with
   |none=>rw[he]at h3;cases h3
   |some e=>rw[he]at h3;simpa using h3
  simp only[Sem.run_bind];rw[hkey];simp only[Option.getD_some,keyThatStays,L.bits,if_true,Sem.run_pure,Result.andThen_ok,hset];refine⟨_,rfl,⟨_,_,hnew _,?_⟩,ht _⟩;rw[hput,List.map_set,←h2,Array.toList_modify];apply List.ext_getElem?
  intro n;rw[List.getElem?_map,List.getElem?_modify,List.getElem?_set,List.getElem?_map];by_cases e:i=n
  ·subst e;have hie':i<es.toList.length:=by simpa using hie
   simp[hie]
  ·simp[e]
variable {ops:Array Oper} {rest:List Oper} {o:Oper} {a:Act} {Q:Exit→Act→World→Prop}
theorem z02 (hg:o.guard=none) (T:TypeId) (m x v:Operand) (hop:o.op=Op.mapUpdate T m x v) (L:KeyLaw P K enc) {E:TypeId} (hT:P.underlying T=some (.map K E)) {b:Nat} {l:List (κ×Value)} {k:κ} {u:Value}
 (hm:a.eval m=.map (some b)) (hx:a.eval x=enc k) (hv:a.eval v=u) (h:MapIs enc w b l) (hK:∀w',MapIs enc w' b (z2d l k u)→Tch (fun g=>g=b) w w'→wpList P ops Q rest (a.put o.dst undef) w'):wpList P ops Q (o::rest) a w:=by
 refine wpList_plain hg fun K' hK'=>?_
 obtain⟨w',hrun,r1,r2⟩:=h.run_put L hT k u;unfold Oper.wp;simp[execOp,hop,hm,hx,hv,hrun,Result.andThen];exact hK' _ _ (hK w' r1 r2)
theorem zh6 (hg:o.guard=none) (T:TypeId) (m x:Operand) (ok:Bool) (hop:o.op=Op.lookup T m x ok) (L:KeyLaw P K enc) {E:TypeId} (hT:P.underlying T=some (.map K E)) {z:Value} (hz:(zeroValue E).run P w=.ok z w) {b:Nat} {l:List (κ×Value)} {k:κ}
 (hm:a.eval m=.map (some b)) (hx:a.eval x=enc k) (h:MapIs enc w b l) (hK:wpList P ops Q rest (a.put o.dst (if ok then .tuple #[(zar l k).getD z,.bool (zar l k).isSome]else(zar l k).getD z)) w):wpList P ops Q (o::rest) a w:=by
 refine wpList_plain hg fun K' hK'=>?_
 have hrun:=h.run_look L hT hz k ok;unfold Oper.wp;simp only[execOp,hop,hm,hx,Sem.run_bind,hrun,Result.andThen_ok,Sem.run_pure];exact hK' _ _ hK
end
end Go.Gk
namespace Go.Proofs.YtoegobjnjljegaaGreatDoor
open Go.RowKit Go.Gk
theorem zaj:RowTy Tryz.prog 22 3 (iV 0) 1 8:=⟨Tryz.underlying22,by kernel_rfl,rfl,by decide⟩
def zq3 (d:Nat):List Value:=[iV (d:Int)]
abbrev zfc (B:Nat→Prop) (w:World) (v:Value) (l:List Nat):Prop:=zae zq3 1 B w v l
end Go.Proofs.YtoegobjnjljegaaGreatDoor
namespace Go.Gk
open Go.RowKit
def zo8 (b:Bool) (w:World) (e:Ending) (w':World):Prop:=∃i:Int,e=.returned (iV i)∧ -1≤i∧i≤4611686018427387904∧decide (0≤i)=b∧Tf w w'
abbrev zgr (b:Bool) (w:World) (e:Ending) (w':World):Prop:=e=.returned (.bool b)∧Tf w w'
theorem zcx {α:Type} {p:α→Bool} {l:List α} {j:Nat} (h:j<l.length):(l.take (j+1)).any p=((l.take j).any p||p l[j]):=by
 rw[List.take_succ_eq_append_getElem h,List.any_append];simp
theorem zek {α:Type} {p:α→Bool} {l:List α} {j:Nat} (h:j<l.length):(l.take (j+1)).all p=((l.take j).all p&&p l[j]):=by
 rw[List.take_succ_eq_append_getElem h,List.all_append];simp
theorem zs3 {α:Type} {p:α→Bool} {l:List α} {j:Nat} (h:j<l.length) (hp:p l[j]=false):l.all p=false:=by
 rw[List.all_eq_false];exact⟨l[j],List.getElem_mem _,by simp[hp]⟩
theorem zjh {α:Type} {p:α→Bool} {l:List α} {j:Nat} (h:j<l.length) (hp:p l[j]=true):l.any p=true:=by
 rw[List.any_eq_true];exact⟨l[j],List.getElem_mem _,hp⟩
section
variable {α:Type} {f:α→List Value} {B:Nat→Prop} {w:World} {g o c:Nat} {l:List α} {i:Nat} {a b d e p q:Value}
theorem Row.one (h:Row B w (.slice (some ⟨g,o,none⟩) l.length c) l.length 1 (l.flatMap f)) (hf:∀a,(f a).length=1) (hi:i<l.length) (he:f l[i]=[a]):w.cell? ⟨g,o+i,none⟩=some a:=by
 have:=Row.elem hf h hi (j:=0) (by decide) (u:=a) (by rw[he];rfl);simpa using this
theorem Row.two (h:Row B w (.slice (some ⟨g,o,none⟩) l.length c) l.length 2 (l.flatMap f)) (hf:∀a,(f a).length=2) (hi:i<l.length) (he:f l[i]=[a,b]):w.cell? ⟨g,o+i*2,none⟩=some a∧w.cell? ⟨g,o+i*2+1,none⟩=some b:=
 ⟨by have:=Row.elem hf h hi (j:=0) (by decide) (u:=a) (by rw[he];rfl);simpa using this,Row.elem hf h hi (j:=1) (by decide) (by rw[he];rfl)⟩
theorem Row.three (h:Row B w (.slice (some ⟨g,o,none⟩) l.length c) l.length 3 (l.flatMap f)) (hf:∀a,(f a).length=3) (hi:i<l.length) (he:f l[i]=[a,b,d]):w.cell? ⟨g,o+i*3,none⟩=some a∧w.cell? ⟨g,o+i*3+1,none⟩=some b∧w.cell? ⟨g,o+i*3+2,none⟩=some d:=
 ⟨by have:=Row.elem hf h hi (j:=0) (by decide) (u:=a) (by rw[he];rfl);simpa using this,Row.elem hf h hi (j:=1) (by decide) (by rw[he];rfl),Row.elem hf h hi (j:=2) (by decide) (by rw[he];rfl)⟩
theorem Row.four (h:Row B w (.slice (some ⟨g,o,none⟩) l.length c) l.length 4 (l.flatMap f)) (hf:∀a,(f a).length=4) (hi:i<l.length) (he:f l[i]=[a,b,d,e]):w.cell? ⟨g,o+i*4,none⟩=some a∧w.cell? ⟨g,o+i*4+1,none⟩=some b∧w.cell? ⟨g,o+i*4+2,none⟩=some d∧w.cell? ⟨g,o+i*4+3,none⟩=some e:=
 ⟨by have:=Row.elem hf h hi (j:=0) (by decide) (u:=a) (by rw[he];rfl);simpa using this,Row.elem hf h hi (j:=1) (by decide) (by rw[he];rfl),Row.elem hf h hi (j:=2) (by decide) (by rw[he];rfl),Row.elem hf h hi (j:=3) (by decide) (by rw[he];rfl)⟩
theorem Row.six (h:Row B w (.slice (some ⟨g,o,none⟩) l.length c) l.length 6 (l.flatMap f)) (hf:∀a,(f a).length=6) (hi:i<l.length) (he:f l[i]=[a,b,d,e,p,q]):w.cell? ⟨g,o+i*6,none⟩=some a∧w.cell? ⟨g,o+i*6+1,none⟩=some b∧w.cell? ⟨g,o+i*6+2,none⟩=some d∧w.cell? ⟨g,o+i*6+3,none⟩=some e∧w.cell? ⟨g,o+i*6+4,none⟩=some p∧w.cell? ⟨g,o+i*6+5,none⟩=some q:=
 ⟨by have:=Row.elem hf h hi (j:=0) (by decide) (u:=a) (by rw[he];rfl);simpa using this,Row.elem hf h hi (j:=1) (by decide) (by rw[he];rfl),Row.elem hf h hi (j:=2) (by decide) (by rw[he];rfl),Row.elem hf h hi (j:=3) (by decide) (by rw[he];rfl),Row.elem hf h hi (j:=4) (by decide) (by rw[he];rfl),Row.elem hf h hi (j:=5) (by decide) (by rw[he];rfl)⟩
end
theorem Row.any {P:Nat→Prop} {w:World} {v:Value} {n size:Nat} {cs:List Value} (h:Row P w v n size cs):Row (fun _=>True) w v n size cs:=h.weak fun _ _=>trivial
structure Outs {α:Type} (f:α→List Value) (size:Nat) (e:TypeId) (w0 w:World) (v:Value) (xs:List α):Prop where
 own:w.ownsRow w0.heap.size e size v xs.length (xs.flatMap f)
 tch:Tf w0 w
section
variable {α:Type} {f:α→List Value} {size:Nat} {e:TypeId} {w0 w:World} {v:Value} {xs:List α}
theorem Outs.start (f:α→List Value) (size:Nat) (e:TypeId) {w0 w:World} (t:Tf w0 w):Outs f size e w0 w (.slice none 0 0) []:=⟨World.ownsRow_nil _ _ _ _,t⟩
theorem Outs.form (h:Outs f size e w0 w v xs):∃A c,v=.slice A xs.length c∧xs.length≤c∧c≤maxLen:=let⟨A,c,e,h1,h2,_⟩:=zac h.own;⟨A,c,e,h1,h2⟩
theorem Outs.row (h:Outs f size e w0 w v xs):zae f size (fun _=>True) w v xs:=Row.own h.own fun _ _=>trivial
theorem Outs.rowN (h:Outs f size e w0 w v xs):zae f size (fun g=>w0.heap.size≤g) w v xs:=Row.own h.own fun g hg=>(h.own.lt g hg).1
theorem Outs.keep {w':World} (h:Outs f size e w0 w v xs) (t:Tf w w'):Outs f size e w0 w' v xs:=⟨t.own h.own (fun _ _=>id),h.tch.trans t⟩
theorem Outs.base {w00:World} (h:Outs f size e w0 w v xs) (t:Tf w00 w0):Outs f size e w00 w v xs:=⟨zbk (zb8 h.own) fun g hv=>Nat.le_trans t.size (h.own.lt g hv).1,t.trans h.tch⟩
theorem Outs.step {w1 w2:World} {v2:Value} {x:α} (h:Outs f size e w0 w v xs) (t:Tf w w1) (ho:w2.ownsRow 0 e size v2 (xs.length+1) (xs.flatMap f++f x)) (hg:w1.grownBy w2 v.ownBlock) (hl:∀g,v2.ownBlock=some g→v.ownBlock=some g∨w1.heap.size≤g):Outs f size e w0 w2 v2 (xs++[x]):=by
 have hz:w0.heap.size≤w1.heap.size:=Nat.le_trans h.tch.size t.size;refine⟨zbk (by simpa using ho) fun g hv=>?_,(h.tch.trans t).trans' (Tch.grown (F:=fun k=>w0.heap.size≤k) hg fun k hk=>.inl (h.own.lt k hk).1) fun i hi=>.inr hi⟩;rcases hl g hv with h1|h1
 ·exact(h.own.lt g h1).1
 ·omega
