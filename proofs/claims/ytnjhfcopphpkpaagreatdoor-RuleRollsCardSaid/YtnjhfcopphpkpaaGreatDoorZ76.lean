/-
  Plain: the recipes of all cells; what an account that is no leaf has is what its children have. No program in sight.
-/
import Derived.Test.YtnjhfcopphpkpaaGreatDoorZ64
import Derived.Test.YtnjhfcopphpkpaaGreatDoorZ70
namespace Go.Gk.V37
open Go.RowKit Go.Gk.V33
def kidsA (l:List Acc) (a:Int):List Int:=(accIds l.length).filter fun x=>accUp l x==a
theorem kids_lt (l:List Acc) (a:Int):(kidsA l a).Pairwise (· < ·):=List.Pairwise.filter _ (accIds_lt _)
theorem kids_in {l:List Acc} {a x:Int} (h:x∈kidsA l a):1≤x∧x≤(l.length:Int):=ids_iff.1 (List.mem_filter.1 h).1
theorem kids_none {l:List Acc} {a:Int}:kidsA l a=[]↔accKid l a=false:=by
 unfold kidsA accKid;rw[List.filter_eq_nil_iff,List.any_eq_false];constructor
 ·intro h x hx;obtain⟨i,hi,rfl⟩:=List.getElem_of_mem hx;have h1:=h ((i:Int)+1) (ids_iff.2 (by omega));unfold accUp at h1;rw[show(((i:Int)+1)-1).toNat=i by omega,List.getElem?_eq_getElem hi]at h1;simpa using h1
 ·intro h x hx;have h1:=ids_iff.1 hx;unfold accUp;rw[List.getElem?_eq_getElem (show(x-1).toNat<l.length by omega)];simpa using h _ (List.getElem_mem (show(x-1).toNat<l.length by omega))
theorem kids_len (l:List Acc) (a:Int):(kidsA l a).length≤l.length:=by
 unfold kidsA;exact Nat.le_trans (List.length_filter_le _ _) (by rw[accIds_len];omega)
def childC (c:Rt6) (x:Int):Rt6:=(c.1,c.2.1,x,c.2.2.2)
def rollOf (l:List Acc) (c:Rt6):Rcp:={Rcp.none with plus:=(kidsA l c.2.2.1).map (childC c)}
theorem roll_nodup (l:List Acc) (c:Rt6):(rollOf l c).plus.Nodup:=by
 show((kidsA l c.2.2.1).map (childC c)).Nodup;unfold List.Nodup;rw[List.pairwise_map];refine List.Pairwise.imp ?_ (kids_lt l c.2.2.1);intro x y hxy e;unfold childC at e;simp only[Prod.mk.injEq,true_and,and_true]at e;omega
theorem uniqF_self:∀(l s:List Rt6),l.Nodup→(∀x∈l,x∉s)→uniqF s l=l
 |[],_,_,_=>rfl
 |x::r,s,hn,hs=>by
  have h2:=List.nodup_cons.1 hn;unfold uniqF;rw[if_neg (hs x (List.mem_cons_self ..)),uniqF_self r (x::s) h2.2 fun y hy h=>?_];rcases List.mem_cons.1 h with e|e
  ·exact h2.1 (e▸hy)
  ·exact hs y (List.mem_cons_of_mem _ hy) e
theorem roll_reads (l:List Acc) (c:Rt6):readsOf (rollOf l c)=(kidsA l c.2.2.1).map (childC c):=by
 have h:rcpAll (rollOf l c)=(kidsA l c.2.2.1).map (childC c):=by
  unfold rcpAll rollOf Rcp.none;simp
 unfold readsOf uniq;rw[h];exact uniqF_self _ _ (roll_nodup l c) fun _ _ h=>by cases h
theorem look_zip:∀{ks:List Rt6} {vs:List Vl},ks.Nodup→ks.length=vs.length→ks.map (lookF (ks.zip vs))=vs
 |[],[],_,_=>rfl
 |[],v::vs,_,h=>by cases h
 |k::ks,[],_,h=>by cases h
 |k::ks,v::vs,hn,h=>by
  have h2:=List.nodup_cons.1 hn;have hl:ks.length=vs.length:=by simpa using h
  have ih:=look_zip h2.2 hl;rw[List.zip_cons_cons,List.map_cons,lookF_cons (k,v) _ (by rw[List.map_fst_zip (by omega)];exact h2.1)];congr 1;rw[←ih];refine List.map_congr_left fun x hx=>?_
  rw[ih];exact lookF_skip _ _ fun e=>h2.1 (by have e:x=k:=e;rw[←e];exact hx)
theorem net_cons0 (l:List Vl):netOf ((0,0)::l) []=netOf l []:=by
 unfold netOf;have e:ferr 0 ((0,0)::l++[])=ferr 0 (l++[]):=rfl;rw[e];simp
theorem roll_eval {l:List Acc} {c:Rt6} {ins:List Vl} (h:ins.length=(kidsA l c.2.2.1).length):evalOf (rollOf l c) ins=netOf ins []:=by
 have hr:=roll_reads l c;unfold evalOf;rw[if_pos (by rw[hr,List.length_map,h])]
 have hp:(rollOf l c).plus.map (valsOf (rollOf l c) ins)=ins:=by
  have:=look_zip (ks:=(kidsA l c.2.2.1).map (childC c)) (vs:=ins) (roll_nodup l c) (by rw[List.length_map,h]);unfold valsOf;rw[hr];exact this
 rw[hp];show netOf ((0,0)::(ins++[])) []=netOf ins [];rw[List.append_nil];exact net_cons0 ins
def tellOf (b:Bks) (c:Rt6):Rcp×Int:=if c.1=1∨c.1=2 then localOf b c else if c.1=3 then transOf b c else if c.1=4∨c.1=5 then splitOf b c else if c.1=6 then elimOf b c else consOf b c
def ruleOf (b:Bks) (c:Rt6):Rcp×Int:=
 if cellIn c b.ents.length b.accs.length=0 then(if accLeaf b.accs c.2.2.1=true then tellOf b c else(rollOf b.accs c,0))else(Rcp.none,cellIn c b.ents.length b.accs.length)
theorem cell_ok {c:Rt6} {ne na:Int} (h:cellIn c ne na=0):cellOK c=true∧¬ne<max c.2.1 c.2.2.2.2.2∧¬na<c.2.2.1:=by
 unfold cellIn at h;by_cases h2:cellOK c=true
 ·rw[if_pos h2]at h;by_cases h3:ne<max c.2.1 c.2.2.2.2.2
  ·rw[if_pos h3]at h;cases h
  ·rw[if_neg h3]at h;by_cases h4:na<c.2.2.1
   ·rw[if_pos h4]at h;cases h
   ·exact⟨h2,h3,h4⟩
 ·rw[if_neg h2]at h;cases h
theorem cell_rule {c:Rt6} (h:cellOK c=true):(1≤c.1∧c.1≤7)∧(1≤c.2.2.1∧c.2.2.1≤60):=by
 unfold cellOK at h;simp only[Bool.and_eq_true,wi,decide_eq_true_eq]at h;omega
theorem may_leaf {b:Bks} {c:Rt6} {lo hi:Int} (h:cellIn c b.ents.length b.accs.length=0) (hl:accLeaf b.accs c.2.2.1=true) (hr:lo≤c.1∧c.1≤hi):mayOf b c lo hi=0:=by
 unfold mayOf;rw[if_pos h,if_neg (by omega),if_pos hl]
theorem tell_ok {b:Bks} {c:Rt6} (h:cellIn c b.ents.length b.accs.length=0) (hl:accLeaf b.accs c.2.2.1=true):(tellOf b c).2=0:=by
 have hr:=(cell_rule (cell_ok h).1).1;unfold tellOf;by_cases h1:c.1=1∨c.1=2
 ·rw[if_pos h1];unfold localOf;rw[if_pos (may_leaf h hl (by omega))]
 rw[if_neg h1];by_cases h3:c.1=3
 ·rw[if_pos h3];unfold transOf;rw[if_pos (may_leaf h hl (by omega))]
 rw[if_neg h3];by_cases h4:c.1=4∨c.1=5
 ·rw[if_pos h4];unfold splitOf;rw[if_pos (may_leaf h hl (by omega))]
 rw[if_neg h4];by_cases h6:c.1=6
 ·rw[if_pos h6];unfold elimOf;rw[if_pos (may_leaf h hl (by omega))]
 ·rw[if_neg h6];unfold consOf;rw[if_pos (may_leaf h hl (by omega))]
theorem leaf_or {b:Bks} {c:Rt6} (h:cellIn c b.ents.length b.accs.length=0):accLeaf b.accs c.2.2.1=true↔kidsA b.accs c.2.2.1=[]:=by
 obtain⟨h1,_,h3⟩:=cell_ok h;have h4:=(cell_rule h1).2;rw[kids_none];unfold accLeaf accIs;rw[decide_eq_true h4.1,decide_eq_true (show c.2.2.1≤(b.accs.length:Int) by omega)];simp
theorem child_in {b:Bks} {c:Rt6} (h:cellIn c b.ents.length b.accs.length=0) (h60:b.accs.length≤60) {x:Int} (hx:x∈kidsA b.accs c.2.2.1):cellIn (childC c x) b.ents.length b.accs.length=0:=by
 obtain⟨h1,h2,_⟩:=cell_ok h;have h4:=kids_in hx
 have hk:cellOK (childC c x)=true:=by
  unfold cellOK at h1⊢;unfold childC;simp only[Bool.and_eq_true,wi,decide_eq_true_eq,Bool.not_eq_true']at h1⊢;exact⟨⟨⟨⟨⟨h1.1.1.1.1.1,by omega⟩,h1.1.1.1.2⟩,h1.1.1.2⟩,h1.1.2⟩,h1.2⟩
 unfold cellIn;rw[if_pos hk,if_neg (show¬(b.ents.length:Int)<max (childC c x).2.1 (childC c x).2.2.2.2.2 from h2),if_neg (show¬(b.accs.length:Int)<(childC c x).2.2.1 by show¬(b.accs.length:Int)<x;omega)]
open Go.RowKit Go.Gk Go.Gk.V33
theorem tell_pos {b:Bks} {c:Rt6} (hc:c.1≠0):(∀k∈(tellOf b c).1.plus,k.1≠0)∧∀k∈(tellOf b c).1.minus,k.1≠0:=by
 have hnil:(∀k∈Rcp.none.plus,k.1≠0)∧∀k∈Rcp.none.minus,k.1≠0:=by simp[Rcp.none]
 have hside:∀a,∀k∈sidesD b c a,k.1≠0:=by
  intro a k hk;unfold sidesD at hk;obtain⟨p,_,rfl⟩:=List.mem_map.1 hk;show(3:Int)≠0;decide
 unfold tellOf;split
 ·unfold localOf;split
  ·split
   ·exact hnil
   ·refine⟨fun k hk=>?_,fun k hk=>by simp[Rcp.none]at hk⟩;simp only[localPlus,List.mem_append,List.mem_cons,List.not_mem_nil,or_false]at hk;rcases hk with hk|rfl
    ·split at hk
     ·simp only[List.mem_cons,List.not_mem_nil,or_false]at hk;subst hk;simp
     ·cases hk
    ·simp
  ·exact hnil
 split
 ·unfold transOf;split
  ·show(∀k∈(transRcp b c).plus,k.1≠0)∧∀k∈(transRcp b c).minus,k.1≠0;unfold transRcp;split
   ·split
    ·exact hnil
    ·refine⟨fun k hk=>by simp[Rcp.none]at hk,fun k hk=>?_⟩;obtain⟨x,_,rfl⟩:=List.mem_map.1 hk;exact hc
   ·split
    ·refine⟨fun k hk=>?_,fun k hk=>by simp[Rcp.none]at hk⟩;simp only[List.mem_cons,List.not_mem_nil,or_false]at hk;subst hk;simp
    ·refine⟨fun k hk=>?_,fun k hk=>by simp[Rcp.none]at hk⟩;simp only at hk;split at hk
     ·simp only[List.mem_cons,List.not_mem_nil,or_false]at hk;subst hk;exact hc
     ·cases hk
  ·exact hnil
 split
 ·unfold splitOf;split
  ·show(∀k∈(splitRcp c (splitPart b c)).plus,k.1≠0)∧∀k∈(splitRcp c (splitPart b c)).minus,k.1≠0;unfold splitRcp;split
   ·refine⟨fun k hk=>?_,fun k hk=>?_⟩<;>(simp only[List.mem_cons,List.not_mem_nil,or_false]at hk;subst hk;simp)
   ·split
    ·refine⟨fun k hk=>?_,fun k hk=>by simp[Rcp.none]at hk⟩;simp only[List.mem_cons,List.not_mem_nil,or_false]at hk;subst hk;simp
    ·split
     ·refine⟨fun k hk=>by simp[Rcp.none]at hk,fun k hk=>by simp[Rcp.none]at hk⟩
     ·exact hnil
  ·exact hnil
 split
 ·unfold elimOf;split
  ·refine⟨fun k hk=>?_,fun k hk=>?_⟩
   ·simp only[elimPlus]at hk;split at hk
    ·obtain⟨a,_,ha⟩:=List.mem_flatMap.1 hk;exact hside a k ha
    ·cases hk
   ·simp only[elimMinus]at hk;split at hk
    ·exact hside _ k hk
    ·cases hk
  ·exact hnil
 ·unfold consOf;split
  ·refine⟨fun k hk=>?_,fun k hk=>by simp[Rcp.none]at hk⟩;simp only[consPlus,List.mem_cons,List.mem_append,List.mem_map,List.not_mem_nil,or_false]at hk;rcases hk with rfl|⟨x,_,rfl⟩|h|rfl
   ·simp[ofC]
   ·simp[ofC]
   ·split at h
    ·unfold consMin at h;obtain⟨x,_,hx⟩:=List.mem_flatMap.1 h;obtain⟨y,_,rfl⟩:=List.mem_map.1 hx;simp[ofC]
    ·cases h
   ·simp[ofC]
  ·exact hnil
theorem zero_ints:∀u∈rcpZero.toList,∀y,u=.int .i64 y→y=0:=by
 intro u hu y e;subst e;simpa[rcpZero]using hu
theorem zero_apart {x:Rt6} {r:List Rt6} (hx:x.1≠0):∀o,¬∀(j:Nat) (u:Value),((x::r).flatMap int6)[j]?=some u→rcpZero[o+j]?=some u:=by
 intro o h;have h0:=h 0 (.int .i64 x.1) (by simp[int6]);exact hx (zero_ints _ (Array.mem_toList_iff.2 (Array.mem_of_getElem? h0)) x.1 rfl)
theorem row_beside {w w':World} {v:Value} {l:List Rt6} (h:RowsOf int6 6 (fun _=>True) w v l) (hl:∀k∈l,k.1≠0) {z:Nat} {T:TypeId} (hz:Blk w z T rcpZero) (t:Tch (fun g=>g=z) w w'):RowsOf int6 6 (fun _=>True) w' v l:=by
 cases l with
 |nil=>exact Row.keepTo (P':=fun _=>True) (show RowsOf int6 6 (fun g=>g≠z) w v []from Row.none h) t (fun g _ hg=>⟨hg,trivial⟩)
 |cons x r=>exact Row.keepTo (P':=fun _=>True) (show RowsOf int6 6 (fun g=>g≠z) w v (x::r)from Row.apart h hz (zero_apart (hl x (List.mem_cons_self ..)))) t (fun g _ hg=>⟨hg,trivial⟩)
