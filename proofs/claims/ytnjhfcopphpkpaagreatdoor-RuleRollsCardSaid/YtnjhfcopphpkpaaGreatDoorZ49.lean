/-
  Plain: what a recipe reads: each cell once, in the order in which they come. No program in sight.
-/
import Derived.Test.YtnjhfcopphpkpaaGreatDoorZ9
namespace Go.Gk
open Go.RowKit
def uniqF (s:List Rt6):List Rt6→List Rt6
 |[]=>[]
 |x::r=>if x∈s then uniqF s r else x::uniqF (x::s) r
def uniq (l:List Rt6):List Rt6:=uniqF [] l
theorem uniqF_snoc (x:Rt6):∀(l s:List Rt6),uniqF s (l++[x])=uniqF s l++(if x∈s∨x∈l then[]else[x])
 |[],s=>by by_cases h:x∈s<;>simp[uniqF,h]
 |y::r,s=>by
  simp only[List.cons_append,uniqF];by_cases h:y∈s
  ·rw[if_pos h,if_pos h,uniqF_snoc x r s];by_cases hx:x=y
   ·subst hx;simp[h]
   ·simp[hx]
  ·rw[if_neg h,if_neg h,uniqF_snoc x r (y::s)];simp only[List.cons_append,List.mem_cons];congr 2;by_cases hx:x=y
   ·simp[hx]
   ·simp[hx]
theorem uniq_snoc (l:List Rt6) (x:Rt6):uniq (l++[x])=uniq l++(if x∈l then[]else[x]):=by
 unfold uniq;rw[uniqF_snoc];simp
theorem uniqF_len:∀(l s:List Rt6),(uniqF s l).length≤l.length
 |[],_=>Nat.le_refl _
 |y::r,s=>by
  simp only[uniqF];split
  ·have:=uniqF_len r s;simp;omega
  ·have:=uniqF_len r (y::s);simp;omega
theorem uniq_len (l:List Rt6):(uniq l).length≤l.length:=uniqF_len l []
def timesIn (l:List Rt6) (x:Rt6):Nat:=(l.filter fun y=>decide (y=x)).length
theorem times_snoc (l:List Rt6) (y x:Rt6):timesIn (l++[y]) x=timesIn l x+(if x=y then 1 else 0):=by
 unfold timesIn;rw[List.filter_append,List.length_append];by_cases h:y=x
 ·subst h;simp
 ·have h':¬x=y:=fun e=>h e.symm
  simp[h,h']
theorem times_zero {l:List Rt6} {x:Rt6}:timesIn l x=0↔x∉l:=by
 unfold timesIn;rw[List.length_eq_zero_iff,List.filter_eq_nil_iff];constructor
 ·intro h hx;exact h x hx (by simp)
 ·intro h y hy e;exact h (by simpa using(of_decide_eq_true e)▸hy)
theorem times_le (l:List Rt6) (x:Rt6):timesIn l x≤l.length:=List.length_filter_le _ _
def rcpAll (r:Rcp):List Rt6:=r.plus++r.minus++(if r.rated then[r.scaled]else[])
def readsOf (r:Rcp):List Rt6:=uniq (rcpAll r)
open Go.RowKit
abbrev Vl:=Int×Int
def val2 (v:Vl):List Value:=[.int .i64 v.1,.int .i64 v.2]
theorem val2_len:∀a,(val2 a).length=2:=fun _=>rfl
def vlV (v:Vl):Value:=.agg #[.int .i64 v.1,.int .i64 v.2]
def ferr (f:Int) (l:List Vl):Int:=l.foldl (fun f v=>if f=0 then v.2 else f) f
theorem ferr_snoc (f:Int) (l:List Vl) (v:Vl):ferr f (l++[v])=if ferr f l=0 then v.2 else ferr f l:=by
 unfold ferr;rw[List.foldl_append];rfl
theorem ferr_app (f:Int) (a b:List Vl):ferr f (a++b)=ferr (ferr f a) b:=by
 unfold ferr;rw[List.foldl_append]
theorem ferr_stay {f:Int} (h:f≠0):∀l:List Vl,ferr f l=f
 |[]=>rfl
 |v::r=>by
  show ferr (if f=0 then v.2 else f) r=f;rw[if_neg h];exact ferr_stay h r
def netOf (p m:List Vl):Vl:=if ferr 0 (p++m)=0 then told2 ((p.map (·.1)).sum-(m.map (·.1)).sum)else(0,ferr 0 (p++m))
def evenOf (x:Int) (d:Int):Int:=
 if 2*(x%d)>d∨(2*(x%d)=d∧x/d%2=1)then x/d+1 else x/d
def ratOK (r:Int×Int):Bool:=decide (1≤r.1)&&decide (1≤r.2)&&decide (r.1≤1000000000000)&&decide (r.2≤1000000000000)
def applyOf (x:Int) (r:Int×Int):Vl:=if ratOK r=true then told2 (evenOf (x*r.1) r.2)else(0,11)
def scaleOf (v:Vl) (r:Int×Int) (has:Bool):Vl:=if v.2≠0 then(0,v.2)else if v.1=0 then(0,0)else if has=true then applyOf v.1 r else(0,40)
def lookF (l:List (Rt6×Vl)) (k:Rt6):Vl:=l.foldl (fun a p=>if k=p.1 then p.2 else a) (0,0)
theorem lookF_snoc (l:List (Rt6×Vl)) (p:Rt6×Vl) (k:Rt6):lookF (l++[p]) k=if k=p.1 then p.2 else lookF l k:=by
 unfold lookF;rw[List.foldl_append];rfl
theorem lookF_foldl {l:List (Rt6×Vl)} {k:Rt6}:∀{a:Vl},k∉l.map (·.1)→l.foldl (fun a p=>if k=p.1 then p.2 else a) a=a:=by
 induction l with
 |nil=>intro a _;rfl
 |cons p r ih=>
  intro a h;simp only[List.map_cons,List.mem_cons,not_or]at h;rw[List.foldl_cons,if_neg h.1];exact ih h.2
theorem lookF_cons (p:Rt6×Vl) (l:List (Rt6×Vl)) (h:p.1∉l.map (·.1)):lookF (p::l) p.1=p.2:=by
 unfold lookF;rw[List.foldl_cons,if_pos rfl];exact lookF_foldl h
theorem lookF_skip (p:Rt6×Vl) (l:List (Rt6×Vl)) {k:Rt6} (h:k≠p.1):lookF (p::l) k=lookF l k:=by
 unfold lookF;rw[List.foldl_cons,if_neg h]
def valsOf (r:Rcp) (ins:List Vl) (c:Rt6):Vl:=lookF ((readsOf r).zip ins) c
def evalOf (r:Rcp) (ins:List Vl):Vl:=
 if(readsOf r).length=ins.length then netOf (r.base::(r.plus.map (valsOf r ins)++(if r.rated then[scaleOf (valsOf r ins r.scaled) r.ratio r.has]else[]))) (r.minus.map (valsOf r ins))else(0,2)
def Vl64 (v:Vl):Prop:=I64 v.1
theorem told2_64 (x:Int):I64 (told2 x).1:=by
 unfold told2 I64;split
 ·assumption
 ·simp
theorem scale_64 (v:Vl) (r:Int×Int) (has:Bool):Vl64 (scaleOf v r has):=by
 unfold scaleOf Vl64;split
 ·simp[I64]
 ·split
  ·simp[I64]
  ·split
   ·unfold applyOf;split
    ·exact told2_64 _
    ·simp[I64]
   ·simp[I64]
theorem look_64 {l:List (Rt6×Vl)} (h:∀p∈l,Vl64 p.2) (k:Rt6):Vl64 (lookF l k):=by
 have:∀(l:List (Rt6×Vl)) (a:Vl),Vl64 a→(∀p∈l,Vl64 p.2)→Vl64 (l.foldl (fun a p=>if k=p.1 then p.2 else a) a):=by
  intro l;induction l with
  |nil=>intro a ha _;exact ha
  |cons p r ih=>
   intro a ha hl;rw[List.foldl_cons];refine ih _ ?_ fun q hq=>hl q (List.mem_cons_of_mem _ hq)
   split
   ·exact hl p (List.mem_cons_self ..)
   ·exact ha
 exact this l (0,0) (by simp[Vl64,I64]) h
