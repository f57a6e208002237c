/-
  Plain: who stands above whom by stakes that may be; never the entity itself.
-/
import Derived.Test.YtlnlghboaheemaaGreatDoorZ24
namespace Go.Gk
def zg6 (f:Int→Int):Nat→Int→Int
 |0,x=>x
 |n+1,x=>zg6 f n (f x)
theorem zgd (f:Int→Int):∀(n:Nat) (x:Int),zg6 f (n+1) x=f (zg6 f n x)
 |0,_=>rfl
 |n+1,x=>zgd f n (f x)
inductive Chain (f:Int→Int) (e:Int):List Int→Int→Prop
 |start:Chain f e [] (f e)
 |step {out:List Int} {x:Int}:Chain f e out x→x≠0→x∉out→Chain f e (out++[x]) (f x)
theorem Chain.at {f:Int→Int} {e x:Int} {out:List Int} (h:Chain f e out x):x=zg6 f (out.length+1) e:=by
 induction h with
 |start=>rfl
 |step h h0 hn ih=>
  rw[List.length_append,List.length_singleton,zgd,←ih]
theorem Chain.get {f:Int→Int} {e x:Int} {out:List Int} (h:Chain f e out x):∀(i:Nat) (hi:i<out.length),out[i]=zg6 f (i+1) e:=by
 induction h with
 |start=>intro i hi;cases hi
 | @step out x h h0 hn ih=>
  intro i hi;by_cases h1:i<out.length
  ·rw[List.getElem_append_left h1];exact ih i h1
  ·have hi':i=out.length:=by simp at hi;omega
   subst hi';rw[List.getElem_append_right (Nat.le_refl _)];simpa using h.at
theorem Chain.nodup {f:Int→Int} {e x:Int} {out:List Int} (h:Chain f e out x):out.Nodup:=by
 induction h with
 |start=>exact List.nodup_nil
 |step h h0 hn ih=>
  rw[List.nodup_append];exact⟨ih,by simp,fun a ha b hb=>by rw[List.mem_singleton]at hb;subst hb;intro e;exact hn (e▸ha)⟩
theorem Chain.nonzero {f:Int→Int} {e x:Int} {out:List Int} (h:Chain f e out x):∀y∈out,y≠0:=by
 induction h with
 |start=>intro y hy;cases hy
 |step h h0 hn ih=>
  intro y hy;rcases List.mem_append.1 hy with h1|h1
  ·exact ih y h1
  ·rw[List.mem_singleton]at h1;subst h1;exact h0
theorem Chain.image {f:Int→Int} {e x:Int} {out:List Int} (h:Chain f e out x):(∃y,x=f y)∧∀y∈out,∃z,y=f z:=by
 induction h with
 |start=>exact⟨⟨e,rfl⟩,fun y hy=>by cases hy⟩
 | @step out x h h0 hn ih=>
  refine⟨⟨x,rfl⟩,fun y hy=>?_⟩;rcases List.mem_append.1 hy with h1|h1
  ·exact ih.2 y h1
  ·rw[List.mem_singleton]at h1;subst h1;exact ih.1
theorem zi5:∀(a b:List Int),a.Nodup→(∀x∈a,x∈b)→a.length≤b.length
 |[],_,_,_=>Nat.zero_le _
 |x::a,b,hn,hs=>by
  have hx:=hs x List.mem_cons_self
  have h1:=zi5 a (b.erase x) (List.nodup_cons.1 hn).2 (fun y hy=>by
   have hne:y≠x:=fun e=>(List.nodup_cons.1 hn).1 (e▸hy)
   exact(List.mem_erase_of_ne hne).2 (hs y (List.mem_cons_of_mem _ hy)))
  rw[List.length_erase_of_mem hx]at h1;have h2:0<b.length:=List.length_pos_of_mem hx;simp only[List.length_cons];omega
theorem zp7 {e p:Int}:∀(l:List zbv) (b:Option zbv) (s:zbv),l.foldl (zc0 e p) b=some s→s∈l∨b=some s
 |[],_,_,h=>.inr h
 |x::l,b,s,h=>by
  rcases zp7 l (zc0 e p b x) s h with h1|h1
  ·exact .inl (List.mem_cons_of_mem _ h1)
  ·unfold zc0 at h1;split at h1
   ·split at h1
    ·injection h1 with h1;exact .inl (h1▸List.mem_cons_self)
    ·split at h1
     ·injection h1 with h1;exact .inl (h1▸List.mem_cons_self)
     ·exact .inr h1
   ·exact .inr h1
theorem zl6 {l:List zbv} {e p:Int} (h:zam l e p≠0):zam l e p∈l.map (·.2.1):=by
 unfold zam at h⊢
 cases ha:zdc l e p with
 |none=>rw[ha]at h;exact absurd rfl h
 |some s=>
  rcases zp7 l none s ha with h1|h1
  ·exact List.mem_map.2 ⟨s,h1,rfl⟩
  ·cases h1
theorem zf0 {l:List zbv} {e p x:Int} {out:List Int} (h:Chain (fun y=>zam l y p) e out x):out.length≤l.length:=by
 have:=zi5 out (l.map (·.2.1)) h.nodup (fun y hy=>by
  obtain⟨z,hz⟩:=h.image.2 y hy;have h0:=h.nonzero y hy;rw[hz]at h0⊢
  exact zl6 h0)
 rwa [List.length_map]at this
theorem zie {l:List zbv} {p e:Int}:∀(n d:Nat) (x:Int),1≤d→d≤n+1→(∀i,1≤i→i<d→zg6 (fun y=>zam l y p) i x≠e∧zg6 (fun y=>zam l y p) i x≠0)→zg6 (fun y=>zam l y p) d x=e→zb2 l p e n x=e
 |n,1,x,_,_,_,he=>by
  have he:zam l x p=e:=he
  cases n with
  |zero=>exact he
  |succ n=>unfold zb2;rw[if_pos (by simp[he])];exact he
 |0,d+2,_,_,h,_,_=>by omega
 |n+1,d+2,x,_,h,hi,he=>by
  have h1:=hi 1 (by omega) (by omega);have h1:zam l x p≠e∧zam l x p≠0:=h1;unfold zb2;rw[if_neg (by simpa using h1)];exact zie n (d+1) _ (by omega) (by omega) (fun i h2 h3=>hi (i+1) (by omega) (by omega)) he
theorem zjq {l:List zbv} {n:Int} (h:zan l n=true) {i:Nat} (hi:i<l.length):zf2 l[i] n=true∧∀p:Nat,p<24→zbu (l.take (i+1)) l[i].1 p=false:=by
 unfold zan zsz at h;rw[Bool.and_eq_true]at h;have h1:=(List.all_eq_true.1 h.2) i (List.mem_range.2 hi)
 have hg:(l.take (i+1)).getLast?=some l[i]:=by
  rw[List.take_succ_eq_append_getElem hi,List.getLast?_append];rfl
 unfold zfm at h1;rw[hg]at h1;simp only[Bool.and_eq_true,List.all_eq_true,Bool.not_eq_true']at h1;exact⟨h1.1,fun p hp=>h1.2 p (List.mem_range.2 hp)⟩
open Go.RowKit
def StkIs (o:Option zbv) (x1 x2 x3:Int) (f:Bool):Prop:=(o=none∧x1=0∧x2=10000∧x3=0∧f=false)∨∃y,o=some (y,x1,x2,x3)∧f=true
theorem StkIs.no {l:List zbv} {e p:Int} {j:Nat} {x1 x2 x3:Int} {f:Bool} (h:StkIs (zdc (l.take j) e p) x1 x2 x3 f) (hj:j<l.length) (hb:¬(l[j].1=e∧l[j].2.2.2≤p)):StkIs (zdc (l.take (j+1)) e p) x1 x2 x3 f:=by
 rw[zdi hj]
 have:zc0 e p (zdc (l.take j) e p) l[j]=zdc (l.take j) e p:=by
  unfold zc0;rw[if_neg (by simpa using hb)]
 rwa [this]
theorem StkIs.first {l:List zbv} {e p:Int} {j:Nat} {x1 x2 x3:Int} (h:StkIs (zdc (l.take j) e p) x1 x2 x3 false) (hj:j<l.length) (hb:l[j].1=e∧l[j].2.2.2≤p):StkIs (zdc (l.take (j+1)) e p) l[j].2.1 l[j].2.2.1 l[j].2.2.2 true:=by
 rw[zdi hj]
 rcases h with⟨h0,_⟩|⟨y,_,h0⟩
 ·rw[h0];unfold zc0;rw[if_pos (by simpa using hb)];exact .inr ⟨l[j].1,rfl,rfl⟩
 ·cases h0
theorem StkIs.later {l:List zbv} {e p:Int} {j:Nat} {x1 x2 x3:Int} (h:StkIs (zdc (l.take j) e p) x1 x2 x3 true) (hj:j<l.length) (hb:l[j].1=e∧l[j].2.2.2≤p) (hf:x3≤l[j].2.2.2):StkIs (zdc (l.take (j+1)) e p) l[j].2.1 l[j].2.2.1 l[j].2.2.2 true:=by
 rw[zdi hj]
 rcases h with⟨_,_,_,_,h0⟩|⟨y,h0,_⟩
 ·cases h0
 ·rw[h0];unfold zc0;rw[if_pos (by simpa using hb)];simp only;rw[if_pos hf];exact .inr ⟨l[j].1,rfl,rfl⟩
theorem StkIs.old {l:List zbv} {e p:Int} {j:Nat} {x1 x2 x3:Int} (h:StkIs (zdc (l.take j) e p) x1 x2 x3 true) (hj:j<l.length) (hb:l[j].1=e∧l[j].2.2.2≤p) (hf:¬x3≤l[j].2.2.2):StkIs (zdc (l.take (j+1)) e p) x1 x2 x3 true:=by
 rw[zdi hj]
 rcases h with⟨_,_,_,_,h0⟩|⟨y,h0,_⟩
 ·cases h0
 ·rw[h0];unfold zc0;rw[if_pos (by simpa using hb)];simp only;rw[if_neg hf];exact .inr ⟨y,rfl,rfl⟩
theorem StkIs.up {l:List zbv} {e p:Int} {x1 x2 x3:Int} {f:Bool} (h:StkIs (zdc l e p) x1 x2 x3 f):zam l e p=x1∧zbb l e p=x2:=by
 unfold zam zbb
 rcases h with⟨h0,rfl,rfl,_⟩|⟨y,h0,_⟩
 ·rw[h0];exact⟨rfl,rfl⟩
 ·rw[h0];exact⟨rfl,rfl⟩
def lenOf:Value→Nat
 | .slice _ n _=>n
 |_=>0
end Go.Gk
namespace Go.Proofs.YtlnlghboaheemaaGreatDoor
open Go.RowKit Go.Gk
end Go.Proofs.YtlnlghboaheemaaGreatDoor
namespace Go.Gk
open Go.RowKit
end Go.Gk
namespace Go.Proofs.YtlnlghboaheemaaGreatDoor
open Go.RowKit Go.Gk
