/-
  Plain: what parents have, and what others have.
-/
import Derived.Test.YtoegobjnjljegaaGreatDoorZ24
set_option maxRecDepth 100000
set_option maxHeartbeats 1600000
namespace Go.Gk
theorem zdo {b:Bks} {c:Rt6} {lo hi:Int} (h:za7 b c lo hi=0):(lo≤c.1∧c.1≤hi)∧(0≤c.2.2.2.1∧c.2.2.2.1≤23)∧(1≤c.2.1∧c.2.1≤b.ents.length)∧zas b.accs c.2.2.1=true:=by
 unfold za7 at h;by_cases h0:za3 c b.ents.length b.accs.length=0
 ·rw[if_pos h0]at h;by_cases h1:c.1<lo∨hi<c.1
  ·rw[if_pos h1]at h;cases h
  ·rw[if_neg h1]at h;by_cases hl:zas b.accs c.2.2.1=true
   ·unfold za3 at h0;by_cases hc:zc2 c=true
    ·rw[if_pos hc]at h0;by_cases h2:(b.ents.length:Int)<max c.2.1 c.2.2.2.2.2
     ·rw[if_pos h2]at h0;cases h0
     ·unfold zc2 at hc;simp only[Bool.and_eq_true,wi,decide_eq_true_eq]at hc;refine⟨by omega,by omega,⟨by omega,by omega⟩,hl⟩
    ·rw[if_neg hc]at h0;cases h0
   ·rw[if_neg hl]at h;cases h
 ·rw[if_neg h0]at h;exact absurd h h0
theorem zd4 {l:List Acc} {a:Int} (h:zas l a=true):∃k:Nat,∃hk:k<l.length,a=(k:Int)+1∧l[(a-1).toNat]?=some l[k]:=by
 unfold zas zdb at h;simp only[Bool.and_eq_true,decide_eq_true_eq]at h;refine⟨(a-1).toNat,by omega,by omega,List.getElem?_eq_getElem (by omega)⟩
def z5c (b:Bks) (x p:Int):Int:=if 1≤x∧x≤b.ents.length then zbb b.stakes x p else 0
def zfj (b:Bks) (a:Int):Bool:=((b.accs[(a-1).toNat]?).map (·.2.2.1)).getD false
def zcg (b:Bks) (c:Rt6):Int:=if zfj b c.2.2.1 then z5c b c.2.1 c.2.2.2.1 else 10000
def zc8 (c:Rt6) (s:Int):Rcp:=
 if c.1=5 then{Rcp.none with plus:=[(7,c.2)],minus:=[(4,c.2)]}
 else if s=10000 then{Rcp.none with plus:=[(7,c.2)]}
 else if 0<s then{Rcp.none with scaled:=(7,c.2),rated:=true,ratio:=(s,10000),has:=true}else Rcp.none
def zcc (b:Bks) (c:Rt6):Rcp×Int:=if za7 b c 4 5=0 then(zc8 c (zcg b c),0)else(Rcp.none,za7 b c 4 5)
theorem zec {b:Bks} (h:zba b=true):b.ents.length≤40∧b.stakes.length≤400∧zan b.stakes b.ents.length=true:=by
 unfold zba at h;simp only[Bool.and_eq_true]at h;have h1:=h.1.1.1.1.1;have h2:=h.1.1.1.2;unfold zj0 at h1;simp only[Bool.and_eq_true,decide_eq_true_eq]at h1;refine⟨h1.1,?_,h2⟩;unfold zan at h2;simp only[Bool.and_eq_true,decide_eq_true_eq]at h2;exact h2.1
def zg6 (f:Int→Int):Nat→Int→Int
 |0,x=>x
 |n+1,x=>zg6 f n (f x)
theorem zgd (f:Int→Int):∀(n:Nat) (x:Int),zg6 f (n+1) x=f (zg6 f n x)
 |0,_=>rfl
 |n+1,x=>zgd f n (f x)
inductive Chain (f:Int→Int) (e:Int):List Int→Int→Prop
 |start:Chain f e [] (f e)
 |step {out:List Int} {x:Int}:Chain f e out x→x≠0→x∉out→Chain f e (out++[x]) (f x)
theorem Chain.at {f:Int→Int} {e x:Int} {out:List Int} (h:Chain f e out x):x=zg6 f (out.length+1) e:=by
 induction h with
 |start=>rfl
 |step h h0 hn ih=>
  rw[List.length_append,List.length_singleton,zgd,←ih]
theorem Chain.get {f:Int→Int} {e x:Int} {out:List Int} (h:Chain f e out x):∀(i:Nat) (hi:i<out.length),out[i]=zg6 f (i+1) e:=by
 induction h with
 |start=>intro i hi;cases hi
 | @step out x h h0 hn ih=>
  intro i hi;by_cases h1:i<out.length
  ·rw[List.getElem_append_left h1];exact ih i h1
  ·have hi':i=out.length:=by simp at hi;omega
   subst hi';rw[List.getElem_append_right (Nat.le_refl _)];simpa using h.at
theorem Chain.nodup {f:Int→Int} {e x:Int} {out:List Int} (h:Chain f e out x):out.Nodup:=by
 induction h with
 |start=>exact List.nodup_nil
 |step h h0 hn ih=>
  rw[List.nodup_append];exact⟨ih,by simp,fun a ha b hb=>by rw[List.mem_singleton]at hb;subst hb;intro e;exact hn (e▸ha)⟩
theorem Chain.nonzero {f:Int→Int} {e x:Int} {out:List Int} (h:Chain f e out x):∀y∈out,y≠0:=by
 induction h with
 |start=>intro y hy;cases hy
 |step h h0 hn ih=>
  intro y hy;rcases List.mem_append.1 hy with h1|h1
  ·exact ih y h1
  ·rw[List.mem_singleton]at h1;subst h1;exact h0
theorem Chain.image {f:Int→Int} {e x:Int} {out:List Int} (h:Chain f e out x):(∃y,x=f y)∧∀y∈out,∃z,y=f z:=by
 induction h with
 |start=>exact⟨⟨e,rfl⟩,fun y hy=>by cases hy⟩
 | @step out x h h0 hn ih=>
  refine⟨⟨x,rfl⟩,fun y hy=>?_⟩;rcases List.mem_append.1 hy with h1|h1
  ·exact ih.2 y h1
  ·rw[List.mem_singleton]at h1;subst h1;exact ih.1
theorem zi5:∀(a b:List Int),a.Nodup→(∀x∈a,x∈b)→a.length≤b.length
 |[],_,_,_=>Nat.zero_le _
 |x::a,b,hn,hs=>by
  have hx:=hs x List.mem_cons_self
  have h1:=zi5 a (b.erase x) (List.nodup_cons.1 hn).2 (fun y hy=>by
   have hne:y≠x:=fun e=>(List.nodup_cons.1 hn).1 (e▸hy)
   exact(List.mem_erase_of_ne hne).2 (hs y (List.mem_cons_of_mem _ hy)))
  rw[List.length_erase_of_mem hx]at h1;have h2:0<b.length:=List.length_pos_of_mem hx;simp only[List.length_cons];omega
theorem zp7 {e p:Int}:∀(l:List zbv) (b:Option zbv) (s:zbv),l.foldl (zc0 e p) b=some s→s∈l∨b=some s
 |[],_,_,h=>.inr h
 |x::l,b,s,h=>by
  rcases zp7 l (zc0 e p b x) s h with h1|h1
  ·exact .inl (List.mem_cons_of_mem _ h1)
  ·unfold zc0 at h1;split at h1
   ·split at h1
    ·injection h1 with h1;exact .inl (h1▸List.mem_cons_self)
    ·split at h1
     ·injection h1 with h1;exact .inl (h1▸List.mem_cons_self)
     ·exact .inr h1
   ·exact .inr h1
theorem zl6 {l:List zbv} {e p:Int} (h:zam l e p≠0):zam l e p∈l.map (·.2.1):=by
 unfold zam at h⊢
 cases ha:zdc l e p with
 |none=>rw[ha]at h;exact absurd rfl h
 |some s=>
  rcases zp7 l none s ha with h1|h1
  ·exact List.mem_map.2 ⟨s,h1,rfl⟩
  ·cases h1
theorem zf0 {l:List zbv} {e p x:Int} {out:List Int} (h:Chain (fun y=>zam l y p) e out x):out.length≤l.length:=by
 have:=zi5 out (l.map (·.2.1)) h.nodup (fun y hy=>by
  obtain⟨z,hz⟩:=h.image.2 y hy;have h0:=h.nonzero y hy;rw[hz]at h0⊢
  exact zl6 h0)
 rwa [List.length_map]at this
theorem zie {l:List zbv} {p e:Int}:∀(n d:Nat) (x:Int),1≤d→d≤n+1→(∀i,1≤i→i<d→zg6 (fun y=>zam l y p) i x≠e∧zg6 (fun y=>zam l y p) i x≠0)→zg6 (fun y=>zam l y p) d x=e→zb2 l p e n x=e
 |n,1,x,_,_,_,he=>by
  have he:zam l x p=e:=he
  cases n with
  |zero=>exact he
  |succ n=>unfold zb2;rw[if_pos (by simp[he])];exact he
 |0,d+2,_,_,h,_,_=>by omega
 |n+1,d+2,x,_,h,hi,he=>by
  have h1:=hi 1 (by omega) (by omega);have h1:zam l x p≠e∧zam l x p≠0:=h1;unfold zb2;rw[if_neg (by simpa using h1)];exact zie n (d+1) _ (by omega) (by omega) (fun i h2 h3=>hi (i+1) (by omega) (by omega)) he
theorem zjq {l:List zbv} {n:Int} (h:zan l n=true) {i:Nat} (hi:i<l.length):zf2 l[i] n=true∧∀p:Nat,p<24→zbu (l.take (i+1)) l[i].1 p=false:=by
 unfold zan zsz at h;rw[Bool.and_eq_true]at h;have h1:=(List.all_eq_true.1 h.2) i (List.mem_range.2 hi)
 have hg:(l.take (i+1)).getLast?=some l[i]:=by
  rw[List.take_succ_eq_append_getElem hi,List.getLast?_append];rfl
 unfold zfm at h1;rw[hg]at h1;simp only[Bool.and_eq_true,List.all_eq_true,Bool.not_eq_true']at h1;exact⟨h1.1,fun p hp=>h1.2 p (List.mem_range.2 hp)⟩
open Go.RowKit
theorem holds_n (l:List zbv) (n p:Int) (k:Nat):(zah l n p k).toArray[0]?=some (iV n):=rfl
theorem holds_up (l:List zbv) (n p:Int) {k i:Nat} (h1:1≤i) (h2:i≤k) (h40:i≤40):(zah l n p k).toArray[1+i*2]?=some (iV (zam l i p)):=by
 rw[List.getElem?_toArray];unfold zah;have h9:=zlc l p k (i:=i) (j:=0) (by omega) (by omega);rw[Nat.add_zero]at h9;rw[show 1+i*2=i*2+1 by omega,List.getElem?_cons_succ,h9];unfold zks;rw[if_pos ⟨h1,h2⟩];rfl
theorem zr5 (l:List zbv) (n p:Int) {k i:Nat} (h1:1≤i) (h2:i≤k) (h40:i≤40):(zah l n p k).toArray[1+i*2+1]?=some (iV (zbb l i p)):=by
 rw[List.getElem?_toArray];unfold zah;rw[show 1+i*2+1=(i*2+1)+1 by omega,List.getElem?_cons_succ,zlc l p k (by omega) (by omega)];unfold zks;rw[if_pos ⟨h1,h2⟩];rfl
end Go.Gk
namespace Go.Proofs.YtoegobjnjljegaaGreatDoor
open Go.RowKit Go.Gk
section
variable {w:World} {g n:Nat} {l:List zbv} {p:Int}
theorem zg5 (h:Blk w g 176 (zah l n p n).toArray) (x:Int):
 Calls Tryz.prog 71 #[.pointer (some ⟨g,0,none⟩),iV x] w fun e w'=>e=.returned (.bool (decide (1≤x∧x≤n)))∧w=w':=by
 have q0:w.cell? ⟨g,0,none⟩=some (iV n):=by rw[h.cell 0];exact holds_n _ _ _ _
 clear h;by_cases h1:1≤x
 ·by_cases h2:x≤n
  ·rw[decide_eq_true ⟨h1,h2⟩];go_enter Tryz.func71,Tryz.ntmps71;go_wp2;go_ret;exact⟨rfl,rfl⟩
  ·rw[decide_eq_false (fun h=>h2 h.2)];go_enter Tryz.func71,Tryz.ntmps71;go_wp2;go_ret;exact⟨rfl,rfl⟩
 ·rw[decide_eq_false (fun h=>h1 h.1)];go_enter Tryz.func71,Tryz.ntmps71;go_wp2;go_ret;exact⟨rfl,rfl⟩
theorem zu7 (h:Blk w g 176 (zah l n p n).toArray) (h40:n≤40) (x:Int):
 Calls Tryz.prog 286 #[.pointer (some ⟨g,0,none⟩),iV x] w fun e w'=>e=.returned (iV (if 1≤x∧x≤n then zbb l x p else 0))∧w=w':=by
 have HI:=Lib.hid (zg5 h x);by_cases hin:1≤x∧x≤n
 ·rw[decide_eq_true hin]at HI;rw[if_pos hin]
  obtain⟨k,rfl⟩:∃k:Nat,x=(k:Int):=⟨x.toNat,by omega⟩
  have hk0:=znn k;have hk1:(k:Int)<41:=by omega
  have hk2:k<41:=by omega
  have q0:w.cell? ⟨g,1+k*2+1,none⟩=some (iV (zbb l k p)):=by rw[h.cell _];exact zr5 _ _ _ (by omega) (by omega) (by omega)
  generalize zbb l k p=s at *;clear h hin;go_enter Tryz.func286,Tryz.ntmps286;go_wp2_with fail;refine HI.out.mono ?_;rintro _ _ ⟨rfl,rfl⟩;clear HI;go_wp2;go_ret;exact⟨rfl,rfl⟩
 ·rw[decide_eq_false hin]at HI;rw[if_neg hin];go_enter Tryz.func286,Tryz.ntmps286;go_wp2_with fail;refine HI.out.mono ?_;rintro _ _ ⟨rfl,rfl⟩;go_wp2;go_ret;exact⟨rfl,rfl⟩
theorem zl5 (h:Blk w g 176 (zah l n p n).toArray) (h40:n≤40) (x:Int):
 Calls Tryz.prog 33 #[.pointer (some ⟨g,0,none⟩),iV x] w fun e w'=>e=.returned (iV (if 1≤x∧x≤n then zam l x p else 0))∧w=w':=by
 have HI:=Lib.hid (zg5 h x);by_cases hin:1≤x∧x≤n
 ·rw[decide_eq_true hin]at HI;rw[if_pos hin]
  obtain⟨k,rfl⟩:∃k:Nat,x=(k:Int):=⟨x.toNat,by omega⟩
  have hk0:=znn k;have hk1:(k:Int)<41:=by omega
  have hk2:k<41:=by omega
  have q0:w.cell? ⟨g,1+k*2,none⟩=some (iV (zam l k p)):=by rw[h.cell _];exact holds_up _ _ _ (by omega) (by omega) (by omega)
  generalize zam l k p=s at *;clear h hin;go_enter Tryz.func33,Tryz.ntmps33;go_wp2_with fail;refine HI.out.mono ?_;rintro _ _ ⟨rfl,rfl⟩;clear HI;go_wp2;go_ret;exact⟨rfl,rfl⟩
 ·rw[decide_eq_false hin]at HI;rw[if_neg hin];go_enter Tryz.func33,Tryz.ntmps33;go_wp2_with fail;refine HI.out.mono ?_;rintro _ _ ⟨rfl,rfl⟩;go_wp2;go_ret;exact⟨rfl,rfl⟩
end
section
variable {w:World} {bv bi B t mr mp:Nat} {e a s r l n lv:Value} {fs:List Value} {b:Bks} {us:List (Ent×Value)}
theorem zmt (h:Vw w bv bi B t mr mp e a s r l n lv fs b us):
 Calls Tryz.prog 88 #[.pointer (some ⟨bv,0,none⟩)] w fun x w'=>x=.returned (iV b.accs.length)∧w=w':=by
 have hM:=zb5 h;obtain⟨Aa,ca,rfl,_,_⟩:=h.bks.accs.form;have v0:=h.view.at0;have v2:=h.seen.at2;go_enter Tryz.func88,Tryz.ntmps88;go_wp2_with fail;refine hM.mono ?_;rintro _ _ ⟨rfl,rfl⟩;clear hM;go_wp2;go_ret;exact⟨rfl,rfl⟩
theorem zdn (h:Vw w bv bi B t mr mp e a s r l n lv fs b us) {k:Nat} (hk:k<b.accs.length) (x:Int) (hx:x=(k:Int)+1):
 Calls Tryz.prog 37 #[.pointer (some ⟨bv,0,none⟩),iV x] w fun y w'=>y=.returned (.tuple #[.agg (zfq b.accs[k]).toArray,.bool true])∧Tf w w':=by
 subst hx;have tw:=tal w (.cells #[iV 0,iV 0,.bool false,.bool false] 91);have bA:=Blk.new w 91 #[iV 0,iV 0,.bool false,.bool false];have h1:=h.keep tw;have HA:=Lib.hid (zmt h1);have hacc:=h1.bks.accs;obtain⟨Aa,ca,rfl,hm1,hm2⟩:=h.bks.accs.form;obtain⟨g,o,rfl⟩:=hacc.head (by omega);obtain⟨q0,q1,q2,q3⟩:=Row.four hacc zcm hk rfl;have v0:=h1.view.at0;have v2:=h1.seen.at2;have hk':(k:Int)<(b.accs.length:Int):=by omega
 have hk0:=znn k;generalize b.accs[k]=y at *;obtain⟨y1,y2,y3,y4⟩:=y;unfold zfq;simp only at q0 q1 q2 q3⊢;clear h h1 hacc;go_enter Tryz.func37,Tryz.ntmps37;go_wp2_with fail;generalize w.alloc _=W at *;generalize hzw:w.heap.size=z at *;have HZW:=Lib.hid hzw;clear hzw;refine HA.out.mono ?_;rintro _ _ ⟨rfl,rfl⟩;clear HA;go_wp2_with (refine stH z #[iV y1,iV y2,.bool y3,.bool y4] bA ?_);intro w9 HBF HTF;clear bA v0 v2 q0 q1 q2 q3;go_wp2;(try simp only[exS]);refine zbi HBF.out ?_;exact⟨rfl,tw.trans' (F':=fun g=>g=z) HTF.out (fun i hi=>.inr (by have hi:i=z:=hi;have:=HZW.out;omega))⟩
theorem zid (h:Vw w bv bi B t mr mp e a s r l n lv fs b us) {p g:Nat} (hp:p<24) (hg:fs[p]?=some (.pointer (some ⟨g,0,none⟩))):
 Calls Tryz.prog 21 #[.pointer (some ⟨bv,0,none⟩),iV p] w fun x w'=>x=.returned (.pointer (some ⟨g,0,none⟩))∧w=w':=by
 have hM:=zb5 h;have v0:=h.view.at0
 have v8:w.cell? ⟨bi,8+p,none⟩=some (.pointer (some ⟨g,0,none⟩)):=by
  rw[h.seen.cell (8+p),List.getElem?_toArray];unfold zh9;rw[List.getElem?_append_right (by simp)];simpa using hg
 have hp':(p:Int)<24:=by omega
 have hp0:=znn p;clear h hg;go_enter Tryz.func21,Tryz.ntmps21;go_wp2_with fail;refine hM.mono ?_;rintro _ _ ⟨rfl,rfl⟩;clear hM;go_wp2;go_ret;exact⟨rfl,rfl⟩
end
end Go.Proofs.YtoegobjnjljegaaGreatDoor
namespace Go.Gk
open Go.RowKit
def StkIs (o:Option zbv) (x1 x2 x3:Int) (f:Bool):Prop:=(o=none∧x1=0∧x2=10000∧x3=0∧f=false)∨∃y,o=some (y,x1,x2,x3)∧f=true
theorem StkIs.no {l:List zbv} {e p:Int} {j:Nat} {x1 x2 x3:Int} {f:Bool} (h:StkIs (zdc (l.take j) e p) x1 x2 x3 f) (hj:j<l.length) (hb:¬(l[j].1=e∧l[j].2.2.2≤p)):StkIs (zdc (l.take (j+1)) e p) x1 x2 x3 f:=by
 rw[zdi hj]
 have:zc0 e p (zdc (l.take j) e p) l[j]=zdc (l.take j) e p:=by
  unfold zc0;rw[if_neg (by simpa using hb)]
 rwa [this]
theorem StkIs.first {l:List zbv} {e p:Int} {j:Nat} {x1 x2 x3:Int} (h:StkIs (zdc (l.take j) e p) x1 x2 x3 false) (hj:j<l.length) (hb:l[j].1=e∧l[j].2.2.2≤p):StkIs (zdc (l.take (j+1)) e p) l[j].2.1 l[j].2.2.1 l[j].2.2.2 true:=by
 rw[zdi hj]
 rcases h with⟨h0,_⟩|⟨y,_,h0⟩
 ·rw[h0];unfold zc0;rw[if_pos (by simpa using hb)];exact .inr ⟨l[j].1,rfl,rfl⟩
 ·cases h0
theorem StkIs.later {l:List zbv} {e p:Int} {j:Nat} {x1 x2 x3:Int} (h:StkIs (zdc (l.take j) e p) x1 x2 x3 true) (hj:j<l.length) (hb:l[j].1=e∧l[j].2.2.2≤p) (hf:x3≤l[j].2.2.2):StkIs (zdc (l.take (j+1)) e p) l[j].2.1 l[j].2.2.1 l[j].2.2.2 true:=by
 rw[zdi hj]
 rcases h with⟨_,_,_,_,h0⟩|⟨y,h0,_⟩
 ·cases h0
 ·rw[h0];unfold zc0;rw[if_pos (by simpa using hb)];simp only;rw[if_pos hf];exact .inr ⟨l[j].1,rfl,rfl⟩
theorem StkIs.old {l:List zbv} {e p:Int} {j:Nat} {x1 x2 x3:Int} (h:StkIs (zdc (l.take j) e p) x1 x2 x3 true) (hj:j<l.length) (hb:l[j].1=e∧l[j].2.2.2≤p) (hf:¬x3≤l[j].2.2.2):StkIs (zdc (l.take (j+1)) e p) x1 x2 x3 true:=by
 rw[zdi hj]
 rcases h with⟨_,_,_,_,h0⟩|⟨y,h0,_⟩
 ·cases h0
 ·rw[h0];unfold zc0;rw[if_pos (by simpa using hb)];simp only;rw[if_neg hf];exact .inr ⟨y,rfl,rfl⟩
theorem StkIs.up {l:List zbv} {e p:Int} {x1 x2 x3:Int} {f:Bool} (h:StkIs (zdc l e p) x1 x2 x3 f):zam l e p=x1∧zbb l e p=x2:=by
 unfold zam zbb
 rcases h with⟨h0,rfl,rfl,_⟩|⟨y,h0,_⟩
 ·rw[h0];exact⟨rfl,rfl⟩
 ·rw[h0];exact⟨rfl,rfl⟩
def lenOf:Value→Nat
 | .slice _ n _=>n
 |_=>0
end Go.Gk
namespace Go.Proofs.YtoegobjnjljegaaGreatDoor
open Go.RowKit Go.Gk
end Go.Proofs.YtoegobjnjljegaaGreatDoor
namespace Go.Gk
open Go.RowKit
end Go.Gk
namespace Go.Proofs.YtoegobjnjljegaaGreatDoor
open Go.RowKit Go.Gk
