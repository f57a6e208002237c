/-
  Plain: what a node has, counted: a part of each that it holds, once.
-/
import Derived.Test.YtoegobjnjljegaaGreatDoorZ31
import Derived.Test.YtoegobjnjljegaaGreatDoorZ55
set_option maxRecDepth 100000
set_option maxHeartbeats 800000
namespace Go.Gk
theorem zu4 (l:List zbv) (s:zbv) (e p:Int):zdc (l++[s]) e p=zc0 e p (zdc l e p) s:=by
 unfold zdc;rw[List.foldl_append];rfl
open Go.RowKit
end Go.Gk
namespace Go.Gk.V33
theorem zeo (f:Int→Int):∀(m n:Nat) (x:Int),zg6 f (m+n) x=zg6 f n (zg6 f m x)
 |0,n,x=>by rw[Nat.zero_add];rfl
 |m+1,n,x=>by
  rw[show m+1+n=(m+n)+1 by omega];show zg6 f (m+n) (f x)=zg6 f n (zg6 f m (f x));exact zeo f m n (f x)
theorem zjp {f g:Int→Int} {e:Int}:∀(d:Nat),(∀i,i<d→f (zg6 g i e)=g (zg6 g i e))→zg6 f d e=zg6 g d e
 |0,_=>rfl
 |d+1,h=>by
  rw[zgd,zgd,zjp d fun i hi=>h i (by omega)];exact h d (by omega)
theorem zu5 {f:Int→Int} {e:Int}:∀(d:Nat),1≤d→zg6 f d e=e→∃d',1≤d'∧d'≤d∧zg6 f d' e=e∧∀i,1≤i→i<d'→zg6 f i e≠e:=by
 intro d;induction d using Nat.strongRecOn with
 |_ d ih=>
  intro h1 h2;by_cases h:∃i,1≤i∧i<d∧zg6 f i e=e
  ·obtain⟨i,a1,a2,a3⟩:=h;obtain⟨d',b1,b2,b3,b4⟩:=ih i a2 a1 a3;exact⟨d',b1,by omega,b3,b4⟩
  ·exact⟨d,h1,Nat.le_refl _,h2,fun i a1 a2 a3=>h ⟨i,a1,a2,a3⟩⟩
theorem no_cycle {n:Int} {p:Nat} (hp:p<24):∀(k:Nat) (l:List zbv),l.length=k→zan l n=true→∀(e:Int) (d:Nat),1≤d→(∀i,i<d→zg6 (fun y=>zam l y p) i e≠0)→zg6 (fun y=>zam l y p) d e≠e:=by
 intro k;induction k with
 |zero=>
  intro l hl _ e d hd hz h;obtain rfl:=List.eq_nil_of_length_eq_zero hl
  obtain⟨m,rfl⟩:∃m,d=m+1:=⟨d-1,by omega⟩
  rw[zgd]at h;have h:(0:Int)=e:=h;exact hz 0 (by omega) h.symm
 |succ k ih=>
  intro l hl hok e d hd hz h
  obtain⟨m,s,rfl⟩:∃m s,l=m++[s]:=⟨l.dropLast,l.getLast (fun h=>by rw[h]at hl;cases hl),(List.dropLast_concat_getLast _).symm⟩
  have hm:m.length=k:=by simpa using hl
  have hokm:zan m n=true:=by
   unfold zan zsz at hok⊢;simp only[Bool.and_eq_true,List.all_eq_true,List.mem_range,decide_eq_true_eq,List.length_append,List.length_singleton]at hok⊢;refine⟨by omega,fun i hi=>?_⟩;have:=hok.2 i (by omega);rwa [List.take_append_of_le_length (by omega)]at this
  have hlast:=(zjq hok (i:=k) (by omega)).2 p hp;have hget:(m++[s])[k]'(by omega)=s:=by rw[List.getElem_append_right (by omega)];simp
  rw[hget,List.take_of_length_le (by omega)]at hlast
  have hoth:∀y,y≠s.1→zam (m++[s]) y p=zam m y p:=fun y hy=>by
   unfold zam;rw[zu4];unfold zc0
   rw[if_neg (by
    rw[Bool.and_eq_true,beq_iff_eq]
    exact fun h9=>hy h9.1.symm)]
  by_cases hin:∃i,i<d∧zg6 (fun y=>zam (m++[s]) y p) i e=s.1
  ·--the round goes through the last one
   obtain⟨i,hi,hie⟩:=hin
   have hzz:∀j,zg6 (fun y=>zam (m++[s]) y p) j s.1≠0:=by
    have hper:∀q j,zg6 (fun y=>zam (m++[s]) y p) (q*d+j) e=zg6 (fun y=>zam (m++[s]) y p) j e:=by
     intro q;induction q with
     |zero=>intro j;rw[Nat.zero_mul,Nat.zero_add]
     |succ q ihq=>
      intro j;rw[show(q+1)*d+j=d+(q*d+j) by rw[Nat.add_mul,Nat.one_mul];omega,zeo,h];exact ihq j
    intro j;rw[←hie,←zeo];have:=hper ((i+j)/d) ((i+j)%d);rw[show(i+j)/d*d+(i+j)%d=i+j by rw[Nat.mul_comm];exact Nat.div_add_mod ..]at this;rw[this];exact hz _ (Nat.mod_lt _ (by omega))
   have hback:zg6 (fun y=>zam (m++[s]) y p) d s.1=s.1:=by
    rw[←hie,←zeo,Nat.add_comm,zeo,h]
   obtain⟨d',a1,_,a3,a4⟩:=zu5 d hd hback
   have hnd:((List.range d').map fun i=>zg6 (fun y=>zam (m++[s]) y p) (i+1) s.1).Nodup:=by
    refine List.pairwise_iff_getElem.2 fun i j hi hj hij=>?_
    simp only[List.length_map,List.length_range]at hi hj;simp only[List.getElem_map,List.getElem_range];intro he;have h9:=congrArg (zg6 (fun y=>zam (m++[s]) y p) (d'-(j+1))) he;rw[←zeo,←zeo,show j+1+(d'-(j+1))=d' by omega,a3]at h9;exact a4 _ (by omega) (by omega) h9
   have hle:=zi5 _ ((m++[s]).map (·.2.1)) hnd (fun y hy=>by
    obtain⟨i,_,rfl⟩:=List.mem_map.1 hy;rw[zgd];refine zl6 ?_;have:=hzz (i+1)
    rwa [zgd]at this)
   simp only[List.length_map,List.length_range]at hle;have hturn:=zie (l:=m++[s]) (p:=p) (e:=s.1) (m++[s]).length d' s.1 a1 (by omega) (fun i h1 h2=>⟨a4 i h1 h2,hzz i⟩) a3;unfold zbu at hlast;rw[hturn]at hlast;simp at hlast
  ·--the round goes by it
   have hc:zg6 (fun y=>zam (m++[s]) y p) d e=zg6 (fun y=>zam m y p) d e:=(zjp d fun i hi=>(hoth _ fun h9=>hin ⟨i,hi,h9⟩).symm).symm;have hci:∀i,i<d→zg6 (fun y=>zam (m++[s]) y p) i e=zg6 (fun y=>zam m y p) i e:=fun i hi=>(zjp i fun j hj=>(hoth _ fun h9=>hin ⟨j,by omega,h9⟩).symm).symm
   exact ih m hm hokm e d hd (fun i hi=>by rw[←hci i hi];exact hz i hi) (by rw[←hc];exact h)
theorem zl2 {l:List zbv} {n:Int} {p:Nat} (hp:p<24) (hok:zan l n=true) {e x:Int} {out:List Int} (h:Chain (fun y=>zam l y p) e out x):x∉out:=by
 intro hm;obtain⟨i,hi,he⟩:=List.getElem_of_mem hm;have hg:=h.get;have hat:=h.at;have hi1:=hg i hi;rw[he]at hi1;refine no_cycle hp l.length l rfl hok x (out.length-i) (by omega) (fun j hj=>?_) ?_
 ·rw[hi1,←zeo];by_cases hj2:i+1+j-1<out.length
  ·have:=hg (i+1+j-1) hj2;rw[show i+1+j-1+1=i+1+j by omega]at this;rw[←this];exact h.nonzero _ (List.getElem_mem _)
  ·omega
 ·conv=>lhs;rw[hi1]
  rw[←zeo,show i+1+(out.length-i)=out.length+1 by omega];exact hat.symm
def zq4 (f:Int→Int):Nat→Int→List Int
 |0,_=>[]
 |k+1,x=>if x=0 then[]else x::zq4 f k (f x)
theorem zg3 (f:Int→Int):∀k,zq4 f k 0=[]
 |0=>rfl
 |k+1=>by unfold zq4;rw[if_pos rfl]
theorem zp5 {f:Int→Int} {e x:Int} {out:List Int} (h:Chain f e out x):∀k,zq4 f (out.length+k) (f e)=out++zq4 f k x:=by
 induction h with
 |start=>intro k;rw[List.length_nil,Nat.zero_add];rfl
 | @step out x h h0 hn ih=>
  intro k;rw[List.length_append,List.length_singleton,show out.length+1+k=out.length+(k+1) by omega,ih (k+1)];conv=>lhs;unfold zq4
  rw[if_neg h0,List.append_assoc];rfl
def zds (l:List zbv) (p:Int) (e:Int):List Int:=zq4 (fun y=>zam l y p) (l.length+1) (zam l e p)
theorem zl3 {l:List zbv} {p e:Int} {out:List Int} (h:Chain (fun y=>zam l y p) e out 0):zds l p e=out:=by
 have hl:=zf0 h;have:=zp5 h (l.length+1-out.length);rw[show out.length+(l.length+1-out.length)=l.length+1 by omega,zg3,List.append_nil]at this;exact this
def zbm (l:List zbv) (p:Int) (top e:Int):Bool:=top==e||(zds l p e).contains top
def ze5 (l:List zbv) (p:Int) (a b:Int):Int:=((a::zds l p a).find? fun t=>zbm l p t b).getD 0
theorem zth (f:Int→Int):∀k x,(zq4 f k x).length≤k
 |0,_=>Nat.le_refl _
 |k+1,x=>by
  unfold zq4;split
  ·simp
  ·have:=zth f k (f x);simp only[List.length_cons];omega
theorem zxj (l:List zbv) (p e:Int):(zds l p e).length≤l.length+1:=zth _ _ _
theorem zti {l:List zbv} {n:Int} (hok:zan l n=true) {y p:Int} (h:zam l y p≠0):1≤zam l y p∧zam l y p≤n:=by
 have hm:=zl6 h;obtain⟨s,hs,he⟩:=List.mem_map.1 hm;obtain⟨i,hi,rfl⟩:=List.getElem_of_mem hs;have h1:=(zjq hok hi).1;unfold zf2 at h1;simp only[Bool.and_eq_true,decide_eq_true_eq]at h1;have he:l[i].2.1=zam l y p:=he;omega
theorem find_at {F:Int→Bool} {xs:List Int} {j:Nat} (hj:j<xs.length) (h1:F xs[j]=true) (h0:∀i (hi:i<xs.length),i<j→F xs[i]=false):xs.find? F=some xs[j]:=by
 rw[List.find?_eq_some_iff_getElem];exact⟨h1,j,hj,rfl,fun i hi=>by simpa using h0 i (by omega) hi⟩
theorem find_no {F:Int→Bool} {xs:List Int} (h0:∀i (hi:i<xs.length),F xs[i]=false):xs.find? F=none:=by
 rw[List.find?_eq_none];intro x hx;obtain⟨i,hi,rfl⟩:=List.getElem_of_mem hx;rw[h0 i hi];simp
theorem zgc {n:Nat} {x:Int}:x∈zal n↔1≤x∧x≤n:=by
 unfold zal;rw[List.mem_map];constructor
 ·rintro⟨i,hi,rfl⟩;have:=List.mem_range.1 hi;omega
 ·intro h;exact⟨(x-1).toNat,List.mem_range.2 (by omega),by omega⟩
theorem zxl {b:Bks} (hok:zba b=true) {e a p:Int} {zs:List Int} (hn:zs.Nodup) (hm:∀q,q∈zs↔q∈zf1 (zay b.entries) e a p):zs.length≤b.ents.length∧∀q∈zs,(1≤q∧q≤b.ents.length)∧q≠e:=by
 have h2:∀q∈zs,(1≤q∧q≤(b.ents.length:Int))∧q≠e:=fun q hq=>by
  obtain⟨h0,x,hx,he,hxq⟩:=z3c ((hm q).1 hq);have h1:=z3d hok x hx;unfold zgj at h1;simp only[Bool.and_eq_true,decide_eq_true_eq,Bool.not_eq_true',beq_eq_false_iff_ne,ne_eq]at h1;obtain⟨⟨⟨_,_⟩,⟨h3,h4⟩,h5⟩,_⟩:=h1;rw[hxq]at h3 h4 h5;rw[he]at h5;omega
 refine⟨?_,h2⟩;have:=zi5 zs (zal b.ents.length) hn (fun q hq=>zgc.2 (h2 q hq).1);rwa [za5]at this
end Go.Gk.V33
namespace Go.Gk
open Go.RowKit
theorem zhj {l:List Acc} {x:Int} (h:x∈zag l):zas l x=true:=by
 unfold zag at h;exact(List.mem_filter.1 h).2
theorem ze6 {α:Type} (F:α→Bool) {l:List α} {j:Nat} (h:j<l.length):(l.take (j+1)).filter F=(l.take j).filter F++(if F l[j]then[l[j]]else[]):=by
 rw[List.take_succ_eq_append_getElem h,zdg]
end Go.Gk
namespace Go.Proofs.YtoegobjnjljegaaGreatDoor
open Go.RowKit Go.Gk
theorem zg4 {w:World} {bv bi B t mr mp:Nat} {e a s r l n lv:Value} {fs:List Value} {b:Bks} {us:List (Ent×Value)} (h:Vw w bv bi B t mr mp e a s r l n lv fs b us) (hn:(zag b.accs).length≤1000):
 Calls Tryz.prog 28 #[.pointer (some ⟨bv,0,none⟩)] w fun x w'=>∃u,x=.returned u∧zet w w' u (zag b.accs):=by
 have hM:=zb5 h;have HC:=Lib.hid (ziw h.leaves (by omega));obtain⟨A,c,rfl,_,_⟩:=h.leaves.form;have v0:=h.view.at0;have v7:=h.seen.at7;generalize zag b.accs=L at *;go_enter Tryz.func28,Tryz.ntmps28;go_wp2_with fail;refine hM.mono ?_;rintro _ _ ⟨rfl,rfl⟩;clear hM;go_wp2_with fail;refine HC.out.mono ?_;rintro _ w1 ⟨u,rfl,hO⟩;obtain⟨O,co,rfl,_,_⟩:=hO.form;go_wp2;go_ret;exact⟨_,rfl,hO⟩
end Go.Proofs.YtoegobjnjljegaaGreatDoor
namespace Go.Gk
open Go.RowKit
theorem zki {g:Nat} {t:TypeId}:∀(vs:List Value) (o:Nat) (w:World) (pre mid suf:List Value),mid.length=vs.length→pre.length=o→Blk w g t (pre++mid++suf).toArray→Blk (w.setCells g o vs) g t (pre++vs++suf).toArray
 |[],o,w,pre,mid,suf,h1,_,h=>by
  obtain rfl:mid=[]:=List.eq_nil_of_length_eq_zero h1;exact h
 |v::r,o,w,pre,mid,suf,h1,h2,h=>by
  match mid,h1 with
  |m::mid,h1=>
   have h3:=h.set_ o v
   have e:(pre++m::mid++suf).set o v=(pre++[v])++mid++suf:=by
    subst h2;rw[List.append_assoc,List.set_append_right _ _ (Nat.le_refl _),Nat.sub_self];simp
   rw[List.setIfInBounds_toArray,e]at h3;have:=zki r (o+1) _ (pre++[v]) mid suf (by simpa using h1) (by simp[h2]) h3;simpa[World.setCells]using this
theorem Tch.setCells (g:Nat):∀(vs:List Value) (o:Nat) (w:World),Tch (fun k=>k=g) w (w.setCells g o vs)
 |[],_,w=>Tch.refl _ w
 |v::r,o,w=>(Tch.setCell (F:=fun k=>k=g) w (p:=⟨g,o,none⟩) (.inl rfl) v).trans (Tch.setCells g r (o+1) _)
section
variable {P:Program} {ops:Array Oper} {rest:List Oper} {op:Oper} {a:Act} {w:World} {Q:Exit→Act→World→Prop}
theorem zax (hgd:op.guard=none) (ty:TypeId) (x y:Operand) (ho:op.op=.store ty x y) (b:Nat) (pre mid vs suf:List Value) (hx:a.eval x=.pointer (some ⟨b,pre.length,none⟩)) (hy:a.eval y=.agg vs.toArray) (h1:vs.toArray.all (·.oneCell')=true) (hi:(P.info? ty).map (·.size)=some vs.length) (hm:mid.length=vs.length)
 {t:TypeId} (hb:Blk w b t (pre++mid++suf).toArray) (h:∀W,Blk W b t (pre++vs++suf).toArray→Tch (fun g=>g=b) w W→wpList P ops Q rest (a.put op.dst undef) W):wpList P ops Q (op::rest) a w:=by
 refine wpList_store_mid hgd ty x y ho b pre.length vs.toArray hx hy (fun j hj=>⟨?_,hb.frozen _⟩) (by rw[hi];simp) h1 ?_
 ·have hj:j<vs.length:=by simpa using hj
  have hc:=hb.cell (pre.length+j);rw[List.getElem?_toArray,List.append_assoc,List.getElem?_append_right (by omega),Nat.add_sub_cancel_left,List.getElem?_append_left (by omega),List.getElem?_eq_getElem (by omega)]at hc;rw[hc];rfl
 ·exact h _ (zki vs _ w pre mid suf hm rfl hb) (Tch.setCells b vs _ w)
