/-
  Cells in order: cell.Sort.
-/
import Derived.Test.YtoegobjnjljegaaGreatDoorSrt
import Derived.Test.YtoegobjnjljegaaGreatDoorZ80
import Derived.Maps.RangeRun
namespace Go.Gk
open Go.RowKit Go.Sort
def Grw (w w':World):Prop:=∃q os,w'=Go.Sort.grow (w.drewN q) os
theorem Grw.refl (w:World):Grw w w:=⟨0,#[],by simp[Go.Sort.grow,World.drewN]⟩
theorem Grw.trans {a b c:World} (h:Grw a b) (k:Grw b c):Grw a c:=by
 obtain⟨q,os,rfl⟩:=h;obtain⟨q',os',rfl⟩:=k;exact⟨q+q',os++os',by simp[Go.Sort.grow,World.drewN,Nat.add_assoc,Array.append_assoc]⟩
theorem Grw.drew (w:World):Grw w w.drew:=⟨1,#[],by rw[Go.Sort.grow_empty];rfl⟩
theorem Grw.alloc (w:World) (o:Obj):Grw w (w.alloc o):=⟨0,#[o],by rw[Go.Sort.alloc_eq_grow];rfl⟩
theorem Grw.tch {w w':World} (h:Grw w w'):Tf w w':=by
 obtain⟨q,os,rfl⟩:=h;refine⟨rfl,rfl,rfl,by simp[Go.Sort.grow,World.drewN],fun k hk _=>?_⟩;show(w.heap++os)[k]?=_;rw[Array.getElem?_append_left hk]
theorem grc {W:World} {a:Addr} {u:Value} (h:W.cell? a=some u):∀b L (p:Within Grw W.drew b L),p.w.cell? a=some u:=fun _ _ p=>p.hr.tch.cell_some (by exact h) id
@[reducible] def zz4 (ops:Array Oper) (bef:Array Nat) (Vs:List (Nat×Sum Value (Value→World→Prop))) (w0:World):Env:=
 {ops:=ops,bef:=bef,R:=Grw,R0:=Grw,J:=fun _ _=>True,w0:=w0,ks:=fun k=>Vs.lookup k,sp:=fun _=>none,fr:=fun _=>false}
section
variable {P:Program} {ops:Array Oper} {bef:Array Nat} {Vs:List (Nat×Sum Value (Value→World→Prop))} {w0:World} {fin:Act→List (Nat×(World→Prop))→Prop} {o:Oper} {rest:List Oper} {k:Nat} {a:Act} {L:List (Nat×(World→Prop))}
theorem z3m (hw:Region.wanted o (yielded ops a.tmps)=true) (hk:Vs.lookup k=none) (_:(0:Nat)=0) (hp:zgu o.op=true)
 (h:∀K:Act→Prop,(∀a',(zz4 ops bef Vs w0).head P fin rest (k+1) a' L→K a')→o.quiet P a (fun w'=>∃p:Within Grw w0 (bef.getD k 0) L,w'=p.w) K):(zz4 ops bef Vs w0).head P fin (o::rest) k a L:=
 znz (E:=zz4 ops bef Vs w0) hw hk rfl rfl hp h
theorem z4q (x:Value) (hw:Region.wanted o (yielded ops a.tmps)=true) (hk:Vs.lookup k=some (.inl x))
 (h:∀w,Grw w0 w→za8 P o a w (fun v w'=>v=x∧Grw w w')) (h2:(zz4 ops bef Vs w0).head P fin rest (k+1) (a.put o.dst x) L):(zz4 ops bef Vs w0).head P fin (o::rest) k a L:=
 zs7 (E:=zz4 ops bef Vs w0) x hw hk rfl (fun w hr _=>zcs (fun _ _ h=>⟨h,zaf⟩) (h w hr)) h2
theorem q_nil (h:fin a L):(zz4 ops bef Vs w0).head P fin [] k a L:=h
end
theorem z1h {P:Program} {id:Nat} {Q:Exit→Act→World→Prop} {a:Act} {w:World} {l:List Oper} (n:Nat) (Vs:List (Nat×Sum Value (Value→World→Prop))) (hm:P.follows .mixedOrders=true)
 (hn:(decide (n≤l.length))=true) (hc:zj9 [] l.toArray (fun _=>none) n a.tmps.size=true) (hQ:∀d v c a w,Q (.panic c) (a.put d v) w→Q (.panic c) a w) (hV:Stable Grw Vs)
 (h:∀(bef:Array Nat) (ops:Array Oper),bef=Region.before l.toArray→ops=l.toArray→(zz4 ops bef Vs w.drew).head P (fun a' _=>∀w',Grw w.drew w'→wpList P l.toArray Q (l.drop n) a' w') (l.take n) 0 a []):(Code.region id l.toArray true).wp P Q a w:=by
 simp only[zj9,Bool.and_eq_true]at hc;obtain⟨⟨⟨⟨⟨⟨⟨c1,c2⟩,c3⟩,c4⟩,c5⟩,c6⟩,c7⟩,c8⟩:=hc
 refine zf6 (E:=zz4 l.toArray (Region.before l.toArray) Vs w.drew) (n:=n) (m:=0) [] hm rfl rfl ⟨fun _ _ h=>h.tch.size,Grw.refl,fun _ _ _ h k=>h.trans k,fun _ _ h=>h,fun _ _ _ _ _=>trivial,hV.spec,c1,c2,c3,c4,c5,c6⟩ rfl (of_decide_eq_true hn) c7 (by simpa using c8)
  (fun i hi=>by cases hi) (fun i hi=>rfl) hQ ⟨fun k s' _ h=>(by cases h),.inl rfl⟩ trivial ?_
 exact zea (fun a' L' hf w' hr _ _ _=>hf w' hr) _ _ _ _ _ (h _ _ rfl rfl)
theorem z3n {w:World} {base n size c g:Nat} {e:TypeId} {xs:List Value} (h:w.ownsRow base e size (.slice (some ⟨g,0,none⟩) n c) n xs) {F:Array Value} (hF:F.size=xs.length) (q:Nat) (os:Array Obj):
 (Go.Sort.grow (putRow id (Go.Sort.ahead w q) g 0 F) os).ownsRow base e size (.slice (some ⟨g,0,none⟩) n c) n F.toList:=by
 obtain⟨h0,h1⟩:=h;refine⟨by rw[Array.length_toList,hF,h0],?_⟩
 rcases h1 with⟨h1,_⟩|⟨g',cap,cur,hv,hb,hg,hn,hc,hs,ht⟩
 ·cases h1
 ·injection hv with e1 _ e3;injection e1 with e1;injection e1 with e1;subst e1 e3;have hlt:=(Array.getElem?_eq_some_iff.1 hg).1;have hle:n*size≤cur.size:=by rw[hs];exact Nat.mul_le_mul_right _ hn
  refine .inr ⟨g,c,putCells id 0 F cur,rfl,hb,?_,hn,hc,by simp[putCells,hs],?_⟩
  ·show((putRow id (Go.Sort.ahead w q) g 0 F).heap++os)[g]?=_;rw[Array.getElem?_append_left (by simpa[putRow,mapBlock]using hlt)];show(w.heap.modify g _)[g]?=_;rw[Array.getElem?_modify,if_pos rfl,hg];rfl
  ·apply List.ext_getElem?
   intro j;by_cases hj:j<n*size
   ·rw[List.getElem?_take_of_lt hj,Array.getElem?_toList];simp only[putCells,Array.getElem?_mapIdx,Array.getElem?_eq_getElem (show j<cur.size by omega),Option.map_some];rw[if_pos ⟨Nat.zero_le _,by omega⟩,Nat.sub_zero,id_eq,getElem!_pos F j (by omega),Array.getElem?_toList,Array.getElem?_eq_getElem (by omega)]
   ·rw[List.getElem?_eq_none (by rw[List.length_take];omega),List.getElem?_eq_none (by rw[Array.length_toList];omega)]
def z2k:List Int→Int
 |[]=>0
 |x::r=>if x≠0 then x else z2k r
theorem z7j (a b:Int) (r:List Int):z2k (Lib.compareInt a b::r)<0↔a<b∨(a=b∧z2k r<0):=by
 show(if Lib.compareInt a b≠0 then Lib.compareInt a b else z2k r)<0↔_;unfold Lib.compareInt;by_cases h1:a<b
 ·simp[h1]
 ·by_cases h2:a>b
  ·simp[h1,h2];omega
  ·obtain rfl:a=b:=by omega
   simp
end Go.Gk
namespace Go.Proofs.YtoegobjnjljegaaGreatDoor
open Go.RowKit Go.Gk Go.Sort
end Go.Proofs.YtoegobjnjljegaaGreatDoor
namespace Go.Gk.V38
open Go.RowKit Go.Gk.V32 Go.Gk.V33 Go.Gk.V37
inductive Need (b:Bks) (l:List Rt6):Rt6→Prop
 |base {k:Rt6}:k∈l→Need b l k
 |step {c k:Rt6}:Need b l c→k∈zyk (zfg b c).1→Need b l k
structure Went (b:Bks) (l th td:List Rt6):Prop where
 nd:th.Nodup
 need:∀k,k∈th∨k∈td→Need b l k
 base:∀k∈l,k∈th∨k∈td
 shut:∀c∈th,∀k∈zyk (zfg b c).1,k∈th∨k∈td
theorem Went.start (b:Bks) (l:List Rt6):Went b l [] l:=⟨List.nodup_nil,fun _ h=>(h.elim (fun h=>(List.not_mem_nil h).elim) .base),fun _ h=>.inr h,fun _ h=>(List.not_mem_nil h).elim⟩
theorem Went.skip {b:Bks} {l th td:List Rt6} {c:Rt6} (h:Went b l th (td++[c])) (hc:c∈th):Went b l th td:=by
 have hx:∀k,k∈th∨k∈td++[c]→k∈th∨k∈td:=fun k hk=>by
  rcases hk with hk|hk
  ·exact .inl hk
  ·rcases List.mem_append.1 hk with hk|hk
   ·exact .inr hk
   ·rw[List.mem_singleton]at hk;exact .inl (hk▸hc)
 exact⟨h.nd,fun k hk=>h.need k (hk.imp id fun h=>List.mem_append_left _ h),fun k hk=>hx k (h.base k hk),fun d hd k hk=>hx k (h.shut d hd k hk)⟩
theorem Went.take {b:Bks} {l th td:List Rt6} {c:Rt6} (h:Went b l th (td++[c])) (hc:c∉th):Went b l (th++[c]) (td++zyk (zfg b c).1):=by
 have hn:Need b l c:=h.need c (.inr (List.mem_append_right _ (List.mem_singleton.2 rfl)))
 have hx:∀k,k∈th∨k∈td++[c]→k∈th++[c]∨k∈td++zyk (zfg b c).1:=fun k hk=>by
  rcases hk with hk|hk
  ·exact .inl (List.mem_append_left _ hk)
  ·rcases List.mem_append.1 hk with hk|hk
   ·exact .inr (List.mem_append_left _ hk)
   ·exact .inl (List.mem_append_right _ hk)
 refine⟨List.nodup_append.2 ⟨h.nd,by simp,fun a ha d hd e=>by rw[List.mem_singleton]at hd;subst hd;exact hc (e▸ha)⟩,fun k hk=>?_,fun k hk=>hx k (h.base k hk),fun d hd k hk=>?_⟩
 ·rcases hk with hk|hk
  ·rcases List.mem_append.1 hk with hk|hk
   ·exact h.need k (.inl hk)
   ·rw[List.mem_singleton]at hk;exact hk▸hn
  ·rcases List.mem_append.1 hk with hk|hk
   ·exact h.need k (.inr (List.mem_append_left _ hk))
   ·exact hn.step hk
 ·rcases List.mem_append.1 hd with hd|hd
  ·exact hx k (h.shut d hd k hk)
  ·rw[List.mem_singleton]at hd;exact .inr (List.mem_append_right _ (hd▸hk))
theorem Went.done {b:Bks} {l th:List Rt6} (h:Went b l th []) (k:Rt6):k∈th↔Need b l k:=by
 refine⟨fun hk=>h.need k (.inl hk),fun hk=>?_⟩;induction hk with
 |base hk=>exact(h.base _ hk).elim id fun h=>(List.not_mem_nil h).elim
 |step _ hk ih=>exact(h.shut _ ih _ hk).elim id fun h=>(List.not_mem_nil h).elim
end Go.Gk.V38
namespace Go.Gk
open Go.RowKit Go.Instr
def mapN (w:World) (b:Nat):Nat:=match w.heap[b]? with
 |some (.map es _)=>es.size
 |_=>0
section
variable {κ:Type} [DecidableEq κ] {P:Program} {K:TypeId} {enc:κ→Value}
omit [DecidableEq κ] in
theorem MapB.size {w:World} {b:Nat} {m:List (κ×Value)} (h:MapB enc w b m):mapN w b=m.length:=by
 obtain⟨es,c,h1,h2,_⟩:=h;unfold mapN;rw[h1];have:=congrArg List.length h2;simpa using this
omit [DecidableEq κ] in
end
open Go.RowKit Go.ChangeMaps
end Go.Gk
namespace Go.Proofs.YtoegobjnjljegaaGreatDoor
open Go.RowKit Go.Gk Go.Shelf Go.ChangeMaps
end Go.Proofs.YtoegobjnjljegaaGreatDoor
namespace Go.Gk
open Go.RowKit
end Go.Gk
namespace Go.Proofs.YtoegobjnjljegaaGreatDoor
open Go.RowKit Go.Gk Go.Shelf
attribute [local go_sem] Oper.semAt_some
end Go.Proofs.YtoegobjnjljegaaGreatDoor
namespace Go.Gk.V38
end Go.Gk.V38
namespace Go.Proofs.YtoegobjnjljegaaGreatDoor
open Go.RowKit Go.Gk Go.Gk.V33 Go.Gk.V37 Go.Gk.V38
section
variable {w:World} {bv bi B t mr mp:Nat} {e a s r l n lv:Value} {fs:List Value} {b:Bks} {us:List (Ent×Value)}
end
end Go.Proofs.YtoegobjnjljegaaGreatDoor
namespace Go.Gk
open Go.RowKit
section
variable {P:Program} {ops:Array Oper} {rest:List Oper} {o:Oper} {a:Act} {w:World} {Q:Exit→Act→World→Prop}
end
end Go.Gk
namespace Go.Proofs.YtoegobjnjljegaaGreatDoor
open Go.RowKit Go.Gk
end Go.Proofs.YtoegobjnjljegaaGreatDoor
namespace Go.Gk.V38
open Go.Gk.V37 Go.Gk.V33 Go.RowKit
end Go.Gk.V38
namespace Go.Proofs.YtoegobjnjljegaaGreatDoor
open Go.RowKit Go.Gk Go.Gk.V33 Go.Gk.V37 Go.Gk.V38
section
variable {w:World} {bv bi B t mr mp:Nat} {e a s r l n lv:Value} {fs:List Value} {b:Bks} {us:List (Ent×Value)}
end
end Go.Proofs.YtoegobjnjljegaaGreatDoor
namespace Go.Gk.V38
open Go.Gk.V37 Go.Gk.V33 Go.RowKit
end Go.Gk.V38
namespace Go.Proofs.YtoegobjnjljegaaGreatDoor
open Go.RowKit Go.Gk Go.Gk.V33 Go.Gk.V37 Go.Gk.V38
section
variable {w:World} {bv bi B t mr mp:Nat} {e a s r l n lv:Value} {fs:List Value} {b:Bks} {us:List (Ent×Value)}
