/-
  Plain: what a node has, counted: a part of each that it holds, once.
-/
import Derived.Test.YtnjhfcopphpkpaaGreatDoorZ31
import Derived.Test.YtnjhfcopphpkpaaGreatDoorZ27
import Derived.Test.YtnjhfcopphpkpaaGreatDoorZ49
set_option maxRecDepth 100000
set_option maxHeartbeats 800000
namespace Go.Gk
theorem stkAt_snoc (l:List Stk4) (s:Stk4) (e p:Int):stkAt (l++[s]) e p=stkStep e p (stkAt l e p) s:=by
 unfold stkAt;rw[List.foldl_append];rfl
end Go.Gk
namespace Go.Gk.V33
theorem iter_add (f:Int→Int):∀(m n:Nat) (x:Int),iter f (m+n) x=iter f n (iter f m x)
 |0,n,x=>by rw[Nat.zero_add];rfl
 |m+1,n,x=>by
  rw[show m+1+n=(m+n)+1 by omega];show iter f (m+n) (f x)=iter f n (iter f m (f x));exact iter_add f m n (f x)
theorem iter_congr {f g:Int→Int} {e:Int}:∀(d:Nat),(∀i,i<d→f (iter g i e)=g (iter g i e))→iter f d e=iter g d e
 |0,_=>rfl
 |d+1,h=>by
  rw[iter_out,iter_out,iter_congr d fun i hi=>h i (by omega)];exact h d (by omega)
theorem first_back {f:Int→Int} {e:Int}:∀(d:Nat),1≤d→iter f d e=e→∃d',1≤d'∧d'≤d∧iter f d' e=e∧∀i,1≤i→i<d'→iter f i e≠e:=by
 intro d;induction d using Nat.strongRecOn with
 |_ d ih=>
  intro h1 h2;by_cases h:∃i,1≤i∧i<d∧iter f i e=e
  ·obtain⟨i,a1,a2,a3⟩:=h;obtain⟨d',b1,b2,b3,b4⟩:=ih i a2 a1 a3;exact⟨d',b1,by omega,b3,b4⟩
  ·exact⟨d,h1,Nat.le_refl _,h2,fun i a1 a2 a3=>h ⟨i,a1,a2,a3⟩⟩
theorem no_cycle {n:Int} {p:Nat} (hp:p<24):∀(k:Nat) (l:List Stk4),l.length=k→stakesOK l n=true→∀(e:Int) (d:Nat),1≤d→(∀i,i<d→iter (fun y=>stkUp l y p) i e≠0)→iter (fun y=>stkUp l y p) d e≠e:=by
 intro k;induction k with
 |zero=>
  intro l hl _ e d hd hz h;obtain rfl:=List.eq_nil_of_length_eq_zero hl
  obtain⟨m,rfl⟩:∃m,d=m+1:=⟨d-1,by omega⟩
  rw[iter_out]at h;have h:(0:Int)=e:=h;exact hz 0 (by omega) h.symm
 |succ k ih=>
  intro l hl hok e d hd hz h
  obtain⟨m,s,rfl⟩:∃m s,l=m++[s]:=⟨l.dropLast,l.getLast (fun h=>by rw[h]at hl;cases hl),(List.dropLast_concat_getLast _).symm⟩
  have hm:m.length=k:=by simpa using hl
  have hokm:stakesOK m n=true:=by
   unfold stakesOK stkAll at hok⊢;simp only[Bool.and_eq_true,List.all_eq_true,List.mem_range,decide_eq_true_eq,List.length_append,List.length_singleton]at hok⊢;refine⟨by omega,fun i hi=>?_⟩;have:=hok.2 i (by omega);rwa [List.take_append_of_le_length (by omega)]at this
  have hlast:=(stkLast_at hok (i:=k) (by omega)).2 p hp;have hget:(m++[s])[k]'(by omega)=s:=by rw[List.getElem_append_right (by omega)];simp
  rw[hget,List.take_of_length_le (by omega)]at hlast
  have hoth:∀y,y≠s.1→stkUp (m++[s]) y p=stkUp m y p:=fun y hy=>by
   unfold stkUp;rw[stkAt_snoc];unfold stkStep
   rw[if_neg (by
    rw[Bool.and_eq_true,beq_iff_eq]
    exact fun h9=>hy h9.1.symm)]
  by_cases hin:∃i,i<d∧iter (fun y=>stkUp (m++[s]) y p) i e=s.1
  ·--the round goes through the last one
   obtain⟨i,hi,hie⟩:=hin
   have hzz:∀j,iter (fun y=>stkUp (m++[s]) y p) j s.1≠0:=by
    have hper:∀q j,iter (fun y=>stkUp (m++[s]) y p) (q*d+j) e=iter (fun y=>stkUp (m++[s]) y p) j e:=by
     intro q;induction q with
     |zero=>intro j;rw[Nat.zero_mul,Nat.zero_add]
     |succ q ihq=>
      intro j;rw[show(q+1)*d+j=d+(q*d+j) by rw[Nat.add_mul,Nat.one_mul];omega,iter_add,h];exact ihq j
    intro j;rw[←hie,←iter_add];have:=hper ((i+j)/d) ((i+j)%d);rw[show(i+j)/d*d+(i+j)%d=i+j by rw[Nat.mul_comm];exact Nat.div_add_mod ..]at this;rw[this];exact hz _ (Nat.mod_lt _ (by omega))
   have hback:iter (fun y=>stkUp (m++[s]) y p) d s.1=s.1:=by
    rw[←hie,←iter_add,Nat.add_comm,iter_add,h]
   obtain⟨d',a1,_,a3,a4⟩:=first_back d hd hback
   have hnd:((List.range d').map fun i=>iter (fun y=>stkUp (m++[s]) y p) (i+1) s.1).Nodup:=by
    refine List.pairwise_iff_getElem.2 fun i j hi hj hij=>?_
    simp only[List.length_map,List.length_range]at hi hj;simp only[List.getElem_map,List.getElem_range];intro he;have h9:=congrArg (iter (fun y=>stkUp (m++[s]) y p) (d'-(j+1))) he;rw[←iter_add,←iter_add,show j+1+(d'-(j+1))=d' by omega,a3]at h9;exact a4 _ (by omega) (by omega) h9
   have hle:=nodup_sub _ ((m++[s]).map (·.2.1)) hnd (fun y hy=>by
    obtain⟨i,_,rfl⟩:=List.mem_map.1 hy;rw[iter_out];refine stkUp_mem ?_;have:=hzz (i+1)
    rwa [iter_out]at this)
   simp only[List.length_map,List.length_range]at hle;have hturn:=stkTurn_hit (l:=m++[s]) (p:=p) (e:=s.1) (m++[s]).length d' s.1 a1 (by omega) (fun i h1 h2=>⟨a4 i h1 h2,hzz i⟩) a3;unfold stkRound at hlast;rw[hturn]at hlast;simp at hlast
  ·--the round goes by it
   have hc:iter (fun y=>stkUp (m++[s]) y p) d e=iter (fun y=>stkUp m y p) d e:=(iter_congr d fun i hi=>(hoth _ fun h9=>hin ⟨i,hi,h9⟩).symm).symm;have hci:∀i,i<d→iter (fun y=>stkUp (m++[s]) y p) i e=iter (fun y=>stkUp m y p) i e:=fun i hi=>(iter_congr i fun j hj=>(hoth _ fun h9=>hin ⟨j,by omega,h9⟩).symm).symm
   exact ih m hm hokm e d hd (fun i hi=>by rw[←hci i hi];exact hz i hi) (by rw[←hc];exact h)
theorem chain_new {l:List Stk4} {n:Int} {p:Nat} (hp:p<24) (hok:stakesOK l n=true) {e x:Int} {out:List Int} (h:Chain (fun y=>stkUp l y p) e out x):x∉out:=by
 intro hm;obtain⟨i,hi,he⟩:=List.getElem_of_mem hm;have hg:=h.get;have hat:=h.at;have hi1:=hg i hi;rw[he]at hi1;refine no_cycle hp l.length l rfl hok x (out.length-i) (by omega) (fun j hj=>?_) ?_
 ·rw[hi1,←iter_add];by_cases hj2:i+1+j-1<out.length
  ·have:=hg (i+1+j-1) hj2;rw[show i+1+j-1+1=i+1+j by omega]at this;rw[←this];exact h.nonzero _ (List.getElem_mem _)
  ·omega
 ·conv=>lhs;rw[hi1]
  rw[←iter_add,show i+1+(out.length-i)=out.length+1 by omega];exact hat.symm
def upsG (f:Int→Int):Nat→Int→List Int
 |0,_=>[]
 |k+1,x=>if x=0 then[]else x::upsG f k (f x)
theorem upsG_zero (f:Int→Int):∀k,upsG f k 0=[]
 |0=>rfl
 |k+1=>by unfold upsG;rw[if_pos rfl]
theorem chain_ups {f:Int→Int} {e x:Int} {out:List Int} (h:Chain f e out x):∀k,upsG f (out.length+k) (f e)=out++upsG f k x:=by
 induction h with
 |start=>intro k;rw[List.length_nil,Nat.zero_add];rfl
 | @step out x h h0 hn ih=>
  intro k;rw[List.length_append,List.length_singleton,show out.length+1+k=out.length+(k+1) by omega,ih (k+1)];conv=>lhs;unfold upsG
  rw[if_neg h0,List.append_assoc];rfl
def upsOf (l:List Stk4) (p:Int) (e:Int):List Int:=upsG (fun y=>stkUp l y p) (l.length+1) (stkUp l e p)
theorem ups_chain {l:List Stk4} {p e:Int} {out:List Int} (h:Chain (fun y=>stkUp l y p) e out 0):upsOf l p e=out:=by
 have hl:=chain_len h;have:=chain_ups h (l.length+1-out.length);rw[show out.length+(l.length+1-out.length)=l.length+1 by omega,upsG_zero,List.append_nil]at this;exact this
def underOf (l:List Stk4) (p:Int) (top e:Int):Bool:=top==e||(upsOf l p e).contains top
def meetOf (l:List Stk4) (p:Int) (a b:Int):Int:=((a::upsOf l p a).find? fun t=>underOf l p t b).getD 0
theorem upsG_len (f:Int→Int):∀k x,(upsG f k x).length≤k
 |0,_=>Nat.le_refl _
 |k+1,x=>by
  unfold upsG;split
  ·simp
  ·have:=upsG_len f k (f x);simp only[List.length_cons];omega
theorem ups_len (l:List Stk4) (p e:Int):(upsOf l p e).length≤l.length+1:=upsG_len _ _ _
theorem up_range {l:List Stk4} {n:Int} (hok:stakesOK l n=true) {y p:Int} (h:stkUp l y p≠0):1≤stkUp l y p∧stkUp l y p≤n:=by
 have hm:=stkUp_mem h;obtain⟨s,hs,he⟩:=List.mem_map.1 hm;obtain⟨i,hi,rfl⟩:=List.getElem_of_mem hs;have h1:=(stkLast_at hok hi).1;unfold stkIn at h1;simp only[Bool.and_eq_true,decide_eq_true_eq]at h1;have he:l[i].2.1=stkUp l y p:=he;omega
theorem find_at {F:Int→Bool} {xs:List Int} {j:Nat} (hj:j<xs.length) (h1:F xs[j]=true) (h0:∀i (hi:i<xs.length),i<j→F xs[i]=false):xs.find? F=some xs[j]:=by
 rw[List.find?_eq_some_iff_getElem];exact⟨h1,j,hj,rfl,fun i hi=>by simpa using h0 i (by omega) hi⟩
theorem find_no {F:Int→Bool} {xs:List Int} (h0:∀i (hi:i<xs.length),F xs[i]=false):xs.find? F=none:=by
 rw[List.find?_eq_none];intro x hx;obtain⟨i,hi,rfl⟩:=List.getElem_of_mem hx;rw[h0 i hi];simp
theorem ids_iff {n:Nat} {x:Int}:x∈accIds n↔1≤x∧x≤n:=by
 unfold accIds;rw[List.mem_map];constructor
 ·rintro⟨i,hi,rfl⟩;have:=List.mem_range.1 hi;omega
 ·intro h;exact⟨(x-1).toNat,List.mem_range.2 (by omega),by omega⟩
theorem parts_few {b:Bks} (hok:booksOK b=true) {e a p:Int} {zs:List Int} (hn:zs.Nodup) (hm:∀q,q∈zs↔q∈ptnOf (posts b.entries) e a p):zs.length≤b.ents.length∧∀q∈zs,(1≤q∧q≤b.ents.length)∧q≠e:=by
 have h2:∀q∈zs,(1≤q∧q≤(b.ents.length:Int))∧q≠e:=fun q hq=>by
  obtain⟨h0,x,hx,he,hxq⟩:=ptn_some ((hm q).1 hq);have h1:=ok_lines hok x hx;unfold lineOK at h1;simp only[Bool.and_eq_true,decide_eq_true_eq,Bool.not_eq_true',beq_eq_false_iff_ne,ne_eq]at h1;obtain⟨⟨⟨_,_⟩,⟨h3,h4⟩,h5⟩,_⟩:=h1;rw[hxq]at h3 h4 h5;rw[he]at h5;omega
 refine⟨?_,h2⟩;have:=nodup_sub zs (accIds b.ents.length) hn (fun q hq=>ids_iff.2 (h2 q hq).1);rwa [accIds_len]at this
end Go.Gk.V33
namespace Go.Gk
open Go.RowKit
theorem leaves_are {l:List Acc} {x:Int} (h:x∈accLeaves l):accLeaf l x=true:=by
 unfold accLeaves at h;exact(List.mem_filter.1 h).2
theorem take_filter {α:Type} (F:α→Bool) {l:List α} {j:Nat} (h:j<l.length):(l.take (j+1)).filter F=(l.take j).filter F++(if F l[j]then[l[j]]else[]):=by
 rw[List.take_succ_eq_append_getElem h,filter_snoc]
end Go.Gk
namespace Go.Proofs.YtnjhfcopphpkpaaGreatDoor
open Go.RowKit Go.Gk
theorem vwleaves_any {w:World} {bv bi B t mr mp:Nat} {e a s r l n lv:Value} {fs:List Value} {b:Bks} {us:List (Ent×Value)} (h:Vw w bv bi B t mr mp e a s r l n lv fs b us) (hn:(accLeaves b.accs).length≤1000):
 Calls Tryz.prog 235 #[.pointer (some ⟨bv,0,none⟩)] w fun x w'=>∃u,x=.returned u∧OutI w w' u (accLeaves b.accs):=by
 have hM:=vwmade_any h;have HC:=Lib.hid (cloneints_any h.leaves (by omega));obtain⟨A,c,rfl,_,_⟩:=h.leaves.form;have v0:=h.view.at0;have v7:=h.seen.at7;generalize accLeaves b.accs=L at *;go_enter Tryz.func235,Tryz.ntmps235;go_wp2_with fail;refine hM.mono ?_;rintro _ _ ⟨rfl,rfl⟩;clear hM;go_wp2_with fail;refine HC.out.mono ?_;rintro _ w1 ⟨u,rfl,hO⟩;obtain⟨O,co,rfl,_,_⟩:=hO.form;go_wp2;go_ret;exact⟨_,rfl,hO⟩
