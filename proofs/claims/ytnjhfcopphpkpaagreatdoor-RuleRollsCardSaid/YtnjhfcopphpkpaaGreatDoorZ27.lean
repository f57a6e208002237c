/-
  Plain: who stands above whom by stakes that may be; never the entity itself.
-/
import Derived.Test.YtnjhfcopphpkpaaGreatDoorZ24
namespace Go.Gk
def iter (f:Int→Int):Nat→Int→Int
 |0,x=>x
 |n+1,x=>iter f n (f x)
theorem iter_out (f:Int→Int):∀(n:Nat) (x:Int),iter f (n+1) x=f (iter f n x)
 |0,_=>rfl
 |n+1,x=>iter_out f n (f x)
inductive Chain (f:Int→Int) (e:Int):List Int→Int→Prop
 |start:Chain f e [] (f e)
 |step {out:List Int} {x:Int}:Chain f e out x→x≠0→x∉out→Chain f e (out++[x]) (f x)
theorem Chain.at {f:Int→Int} {e x:Int} {out:List Int} (h:Chain f e out x):x=iter f (out.length+1) e:=by
 induction h with
 |start=>rfl
 |step h h0 hn ih=>
  rw[List.length_append,List.length_singleton,iter_out,←ih]
theorem Chain.get {f:Int→Int} {e x:Int} {out:List Int} (h:Chain f e out x):∀(i:Nat) (hi:i<out.length),out[i]=iter f (i+1) e:=by
 induction h with
 |start=>intro i hi;cases hi
 | @step out x h h0 hn ih=>
  intro i hi;by_cases h1:i<out.length
  ·rw[List.getElem_append_left h1];exact ih i h1
  ·have hi':i=out.length:=by simp at hi;omega
   subst hi';rw[List.getElem_append_right (Nat.le_refl _)];simpa using h.at
theorem Chain.nodup {f:Int→Int} {e x:Int} {out:List Int} (h:Chain f e out x):out.Nodup:=by
 induction h with
 |start=>exact List.nodup_nil
 |step h h0 hn ih=>
  rw[List.nodup_append];exact⟨ih,by simp,fun a ha b hb=>by rw[List.mem_singleton]at hb;subst hb;intro e;exact hn (e▸ha)⟩
theorem Chain.nonzero {f:Int→Int} {e x:Int} {out:List Int} (h:Chain f e out x):∀y∈out,y≠0:=by
 induction h with
 |start=>intro y hy;cases hy
 |step h h0 hn ih=>
  intro y hy;rcases List.mem_append.1 hy with h1|h1
  ·exact ih y h1
  ·rw[List.mem_singleton]at h1;subst h1;exact h0
theorem Chain.image {f:Int→Int} {e x:Int} {out:List Int} (h:Chain f e out x):(∃y,x=f y)∧∀y∈out,∃z,y=f z:=by
 induction h with
 |start=>exact⟨⟨e,rfl⟩,fun y hy=>by cases hy⟩
 | @step out x h h0 hn ih=>
  refine⟨⟨x,rfl⟩,fun y hy=>?_⟩;rcases List.mem_append.1 hy with h1|h1
  ·exact ih.2 y h1
  ·rw[List.mem_singleton]at h1;subst h1;exact ih.1
theorem nodup_sub:∀(a b:List Int),a.Nodup→(∀x∈a,x∈b)→a.length≤b.length
 |[],_,_,_=>Nat.zero_le _
 |x::a,b,hn,hs=>by
  have hx:=hs x List.mem_cons_self
  have h1:=nodup_sub a (b.erase x) (List.nodup_cons.1 hn).2 (fun y hy=>by
   have hne:y≠x:=fun e=>(List.nodup_cons.1 hn).1 (e▸hy)
   exact(List.mem_erase_of_ne hne).2 (hs y (List.mem_cons_of_mem _ hy)))
  rw[List.length_erase_of_mem hx]at h1;have h2:0<b.length:=List.length_pos_of_mem hx;simp only[List.length_cons];omega
theorem stkAt_mem {e p:Int}:∀(l:List Stk4) (b:Option Stk4) (s:Stk4),l.foldl (stkStep e p) b=some s→s∈l∨b=some s
 |[],_,_,h=>.inr h
 |x::l,b,s,h=>by
  rcases stkAt_mem l (stkStep e p b x) s h with h1|h1
  ·exact .inl (List.mem_cons_of_mem _ h1)
  ·unfold stkStep at h1;split at h1
   ·split at h1
    ·injection h1 with h1;exact .inl (h1▸List.mem_cons_self)
    ·split at h1
     ·injection h1 with h1;exact .inl (h1▸List.mem_cons_self)
     ·exact .inr h1
   ·exact .inr h1
theorem stkUp_mem {l:List Stk4} {e p:Int} (h:stkUp l e p≠0):stkUp l e p∈l.map (·.2.1):=by
 unfold stkUp at h⊢
 cases ha:stkAt l e p with
 |none=>rw[ha]at h;exact absurd rfl h
 |some s=>
  rcases stkAt_mem l none s ha with h1|h1
  ·exact List.mem_map.2 ⟨s,h1,rfl⟩
  ·cases h1
theorem chain_len {l:List Stk4} {e p x:Int} {out:List Int} (h:Chain (fun y=>stkUp l y p) e out x):out.length≤l.length:=by
 have:=nodup_sub out (l.map (·.2.1)) h.nodup (fun y hy=>by
  obtain⟨z,hz⟩:=h.image.2 y hy;have h0:=h.nonzero y hy;rw[hz]at h0⊢
  exact stkUp_mem h0)
 rwa [List.length_map]at this
theorem stkTurn_hit {l:List Stk4} {p e:Int}:∀(n d:Nat) (x:Int),1≤d→d≤n+1→(∀i,1≤i→i<d→iter (fun y=>stkUp l y p) i x≠e∧iter (fun y=>stkUp l y p) i x≠0)→iter (fun y=>stkUp l y p) d x=e→stkTurn l p e n x=e
 |n,1,x,_,_,_,he=>by
  have he:stkUp l x p=e:=he
  cases n with
  |zero=>exact he
  |succ n=>unfold stkTurn;rw[if_pos (by simp[he])];exact he
 |0,d+2,_,_,h,_,_=>by omega
 |n+1,d+2,x,_,h,hi,he=>by
  have h1:=hi 1 (by omega) (by omega);have h1:stkUp l x p≠e∧stkUp l x p≠0:=h1;unfold stkTurn;rw[if_neg (by simpa using h1)];exact stkTurn_hit n (d+1) _ (by omega) (by omega) (fun i h2 h3=>hi (i+1) (by omega) (by omega)) he
theorem stkLast_at {l:List Stk4} {n:Int} (h:stakesOK l n=true) {i:Nat} (hi:i<l.length):stkIn l[i] n=true∧∀p:Nat,p<24→stkRound (l.take (i+1)) l[i].1 p=false:=by
 unfold stakesOK stkAll at h;rw[Bool.and_eq_true]at h;have h1:=(List.all_eq_true.1 h.2) i (List.mem_range.2 hi)
 have hg:(l.take (i+1)).getLast?=some l[i]:=by
  rw[List.take_succ_eq_append_getElem hi,List.getLast?_append];rfl
 unfold stkLast at h1;rw[hg]at h1;simp only[Bool.and_eq_true,List.all_eq_true,Bool.not_eq_true']at h1;exact⟨h1.1,fun p hp=>h1.2 p (List.mem_range.2 hp)⟩
open Go.RowKit
def StkIs (o:Option Stk4) (x1 x2 x3:Int) (f:Bool):Prop:=(o=none∧x1=0∧x2=10000∧x3=0∧f=false)∨∃y,o=some (y,x1,x2,x3)∧f=true
theorem StkIs.no {l:List Stk4} {e p:Int} {j:Nat} {x1 x2 x3:Int} {f:Bool} (h:StkIs (stkAt (l.take j) e p) x1 x2 x3 f) (hj:j<l.length) (hb:¬(l[j].1=e∧l[j].2.2.2≤p)):StkIs (stkAt (l.take (j+1)) e p) x1 x2 x3 f:=by
 rw[stkAt_succ hj]
 have:stkStep e p (stkAt (l.take j) e p) l[j]=stkAt (l.take j) e p:=by
  unfold stkStep;rw[if_neg (by simpa using hb)]
 rwa [this]
theorem StkIs.first {l:List Stk4} {e p:Int} {j:Nat} {x1 x2 x3:Int} (h:StkIs (stkAt (l.take j) e p) x1 x2 x3 false) (hj:j<l.length) (hb:l[j].1=e∧l[j].2.2.2≤p):StkIs (stkAt (l.take (j+1)) e p) l[j].2.1 l[j].2.2.1 l[j].2.2.2 true:=by
 rw[stkAt_succ hj]
 rcases h with⟨h0,_⟩|⟨y,_,h0⟩
 ·rw[h0];unfold stkStep;rw[if_pos (by simpa using hb)];exact .inr ⟨l[j].1,rfl,rfl⟩
 ·cases h0
theorem StkIs.later {l:List Stk4} {e p:Int} {j:Nat} {x1 x2 x3:Int} (h:StkIs (stkAt (l.take j) e p) x1 x2 x3 true) (hj:j<l.length) (hb:l[j].1=e∧l[j].2.2.2≤p) (hf:x3≤l[j].2.2.2):StkIs (stkAt (l.take (j+1)) e p) l[j].2.1 l[j].2.2.1 l[j].2.2.2 true:=by
 rw[stkAt_succ hj]
 rcases h with⟨_,_,_,_,h0⟩|⟨y,h0,_⟩
 ·cases h0
 ·rw[h0];unfold stkStep;rw[if_pos (by simpa using hb)];simp only;rw[if_pos hf];exact .inr ⟨l[j].1,rfl,rfl⟩
theorem StkIs.old {l:List Stk4} {e p:Int} {j:Nat} {x1 x2 x3:Int} (h:StkIs (stkAt (l.take j) e p) x1 x2 x3 true) (hj:j<l.length) (hb:l[j].1=e∧l[j].2.2.2≤p) (hf:¬x3≤l[j].2.2.2):StkIs (stkAt (l.take (j+1)) e p) x1 x2 x3 true:=by
 rw[stkAt_succ hj]
 rcases h with⟨_,_,_,_,h0⟩|⟨y,h0,_⟩
 ·cases h0
 ·rw[h0];unfold stkStep;rw[if_pos (by simpa using hb)];simp only;rw[if_neg hf];exact .inr ⟨y,rfl,rfl⟩
theorem StkIs.up {l:List Stk4} {e p:Int} {x1 x2 x3:Int} {f:Bool} (h:StkIs (stkAt l e p) x1 x2 x3 f):stkUp l e p=x1∧stkShare l e p=x2:=by
 unfold stkUp stkShare
 rcases h with⟨h0,rfl,rfl,_⟩|⟨y,h0,_⟩
 ·rw[h0];exact⟨rfl,rfl⟩
 ·rw[h0];exact⟨rfl,rfl⟩
def lenOf:Value→Nat
 | .slice _ n _=>n
 |_=>0
end Go.Gk
namespace Go.Proofs.YtnjhfcopphpkpaaGreatDoor
open Go.RowKit Go.Gk
end Go.Proofs.YtnjhfcopphpkpaaGreatDoor
namespace Go.Gk
open Go.RowKit
end Go.Gk
namespace Go.Proofs.YtnjhfcopphpkpaaGreatDoor
open Go.RowKit Go.Gk
