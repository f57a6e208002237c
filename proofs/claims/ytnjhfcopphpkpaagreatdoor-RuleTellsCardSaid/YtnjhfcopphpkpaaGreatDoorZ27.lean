/-
  Plain: who stands above whom by stakes that may be; never the entity itself.
-/
import Derived.Test.YtnjhfcopphpkpaaGreatDoorZ24
set_option maxRecDepth 100000
set_option maxHeartbeats 3200000
namespace Go.Gk
def zg6 (f:Int→Int):Nat→Int→Int
 |0,x=>x
 |n+1,x=>zg6 f n (f x)
theorem zgd (f:Int→Int):∀(n:Nat) (x:Int),zg6 f (n+1) x=f (zg6 f n x)
 |0,_=>rfl
 |n+1,x=>zgd f n (f x)
inductive Chain (f:Int→Int) (e:Int):List Int→Int→Prop
 |start:Chain f e [] (f e)
 |step {out:List Int} {x:Int}:Chain f e out x→x≠0→x∉out→Chain f e (out++[x]) (f x)
theorem Chain.at {f:Int→Int} {e x:Int} {out:List Int} (h:Chain f e out x):x=zg6 f (out.length+1) e:=by
 induction h with
 |start=>rfl
 |step h h0 hn ih=>
  rw[List.length_append,List.length_singleton,zgd,←ih]
theorem Chain.get {f:Int→Int} {e x:Int} {out:List Int} (h:Chain f e out x):∀(i:Nat) (hi:i<out.length),out[i]=zg6 f (i+1) e:=by
 induction h with
 |start=>intro i hi;cases hi
 | @step out x h h0 hn ih=>
  intro i hi;by_cases h1:i<out.length
  ·rw[List.getElem_append_left h1];exact ih i h1
  ·have hi':i=out.length:=by simp at hi;omega
   subst hi';rw[List.getElem_append_right (Nat.le_refl _)];simpa using h.at
theorem Chain.nodup {f:Int→Int} {e x:Int} {out:List Int} (h:Chain f e out x):out.Nodup:=by
 induction h with
 |start=>exact List.nodup_nil
 |step h h0 hn ih=>
  rw[List.nodup_append];exact⟨ih,by simp,fun a ha b hb=>by rw[List.mem_singleton]at hb;subst hb;intro e;exact hn (e▸ha)⟩
theorem Chain.nonzero {f:Int→Int} {e x:Int} {out:List Int} (h:Chain f e out x):∀y∈out,y≠0:=by
 induction h with
 |start=>intro y hy;cases hy
 |step h h0 hn ih=>
  intro y hy;rcases List.mem_append.1 hy with h1|h1
  ·exact ih y h1
  ·rw[List.mem_singleton]at h1;subst h1;exact h0
theorem Chain.image {f:Int→Int} {e x:Int} {out:List Int} (h:Chain f e out x):(∃y,x=f y)∧∀y∈out,∃z,y=f z:=by
 induction h with
 |start=>exact⟨⟨e,rfl⟩,fun y hy=>by cases hy⟩
 | @step out x h h0 hn ih=>
  refine⟨⟨x,rfl⟩,fun y hy=>?_⟩;rcases List.mem_append.1 hy with h1|h1
  ·exact ih.2 y h1
  ·rw[List.mem_singleton]at h1;subst h1;exact ih.1
theorem zi5:∀(a b:List Int),a.Nodup→(∀x∈a,x∈b)→a.length≤b.length
 |[],_,_,_=>Nat.zero_le _
 |x::a,b,hn,hs=>by
  have hx:=hs x List.mem_cons_self
  have h1:=zi5 a (b.erase x) (List.nodup_cons.1 hn).2 (fun y hy=>by
   have hne:y≠x:=fun e=>(List.nodup_cons.1 hn).1 (e▸hy)
   exact(List.mem_erase_of_ne hne).2 (hs y (List.mem_cons_of_mem _ hy)))
  rw[List.length_erase_of_mem hx]at h1;have h2:0<b.length:=List.length_pos_of_mem hx;simp only[List.length_cons];omega
theorem zp7 {e p:Int}:∀(l:List zbv) (b:Option zbv) (s:zbv),l.foldl (zc0 e p) b=some s→s∈l∨b=some s
 |[],_,_,h=>.inr h
 |x::l,b,s,h=>by
  rcases zp7 l (zc0 e p b x) s h with h1|h1
  ·exact .inl (List.mem_cons_of_mem _ h1)
  ·unfold zc0 at h1;split at h1
   ·split at h1
    ·injection h1 with h1;exact .inl (h1▸List.mem_cons_self)
    ·split at h1
     ·injection h1 with h1;exact .inl (h1▸List.mem_cons_self)
     ·exact .inr h1
   ·exact .inr h1
theorem zl6 {l:List zbv} {e p:Int} (h:zam l e p≠0):zam l e p∈l.map (·.2.1):=by
 unfold zam at h⊢
 cases ha:zdc l e p with
 |none=>rw[ha]at h;exact absurd rfl h
 |some s=>
  rcases zp7 l none s ha with h1|h1
  ·exact List.mem_map.2 ⟨s,h1,rfl⟩
  ·cases h1
theorem zf0 {l:List zbv} {e p x:Int} {out:List Int} (h:Chain (fun y=>zam l y p) e out x):out.length≤l.length:=by
 have:=zi5 out (l.map (·.2.1)) h.nodup (fun y hy=>by
  obtain⟨z,hz⟩:=h.image.2 y hy;have h0:=h.nonzero y hy;rw[hz]at h0⊢
  exact zl6 h0)
 rwa [List.length_map]at this
theorem zie {l:List zbv} {p e:Int}:∀(n d:Nat) (x:Int),1≤d→d≤n+1→(∀i,1≤i→i<d→zg6 (fun y=>zam l y p) i x≠e∧zg6 (fun y=>zam l y p) i x≠0)→zg6 (fun y=>zam l y p) d x=e→zb2 l p e n x=e
 |n,1,x,_,_,_,he=>by
  have he:zam l x p=e:=he
  cases n with
  |zero=>exact he
  |succ n=>unfold zb2;rw[if_pos (by simp[he])];exact he
 |0,d+2,_,_,h,_,_=>by omega
 |n+1,d+2,x,_,h,hi,he=>by
  have h1:=hi 1 (by omega) (by omega);have h1:zam l x p≠e∧zam l x p≠0:=h1;unfold zb2;rw[if_neg (by simpa using h1)];exact zie n (d+1) _ (by omega) (by omega) (fun i h2 h3=>hi (i+1) (by omega) (by omega)) he
theorem zxm {l:List zbv} {e p x:Int} {out:List Int} (h:Chain (fun y=>zam l y p) e out x) (hr:zbu l e p=false):e∉out:=by
 intro hm;obtain⟨i,hi,he⟩:=List.getElem_of_mem hm;have hl:=zf0 h;have hg:=h.get;have hnd:=h.nodup
 have:zb2 l p e l.length e=e:=zie l.length (i+1) e (by omega) (by omega) (fun k h1 h2=>by
  obtain⟨m,rfl⟩:∃m,k=m+1:=⟨k-1,by omega⟩
  rw[←hg m (by omega)];refine⟨fun e1=>?_,h.nonzero _ (List.getElem_mem _)⟩;have h3:=List.pairwise_iff_getElem.1 hnd m i (by omega) hi (by omega)
  exact h3 (e1.trans he.symm)) (by rw[←hg i hi];exact he)
 unfold zbu at hr;rw[this]at hr;simp at hr
theorem zjq {l:List zbv} {n:Int} (h:zan l n=true) {i:Nat} (hi:i<l.length):zf2 l[i] n=true∧∀p:Nat,p<24→zbu (l.take (i+1)) l[i].1 p=false:=by
 unfold zan zsz at h;rw[Bool.and_eq_true]at h;have h1:=(List.all_eq_true.1 h.2) i (List.mem_range.2 hi)
 have hg:(l.take (i+1)).getLast?=some l[i]:=by
  rw[List.take_succ_eq_append_getElem hi,List.getLast?_append];rfl
 unfold zfm at h1;rw[hg]at h1;simp only[Bool.and_eq_true,List.all_eq_true,Bool.not_eq_true']at h1;exact⟨h1.1,fun p hp=>h1.2 p (List.mem_range.2 hp)⟩
open Go.RowKit
def StkIs (o:Option zbv) (x1 x2 x3:Int) (f:Bool):Prop:=(o=none∧x1=0∧x2=10000∧x3=0∧f=false)∨∃y,o=some (y,x1,x2,x3)∧f=true
theorem StkIs.no {l:List zbv} {e p:Int} {j:Nat} {x1 x2 x3:Int} {f:Bool} (h:StkIs (zdc (l.take j) e p) x1 x2 x3 f) (hj:j<l.length) (hb:¬(l[j].1=e∧l[j].2.2.2≤p)):StkIs (zdc (l.take (j+1)) e p) x1 x2 x3 f:=by
 rw[zdi hj]
 have:zc0 e p (zdc (l.take j) e p) l[j]=zdc (l.take j) e p:=by
  unfold zc0;rw[if_neg (by simpa using hb)]
 rwa [this]
theorem StkIs.first {l:List zbv} {e p:Int} {j:Nat} {x1 x2 x3:Int} (h:StkIs (zdc (l.take j) e p) x1 x2 x3 false) (hj:j<l.length) (hb:l[j].1=e∧l[j].2.2.2≤p):StkIs (zdc (l.take (j+1)) e p) l[j].2.1 l[j].2.2.1 l[j].2.2.2 true:=by
 rw[zdi hj]
 rcases h with⟨h0,_⟩|⟨y,_,h0⟩
 ·rw[h0];unfold zc0;rw[if_pos (by simpa using hb)];exact .inr ⟨l[j].1,rfl,rfl⟩
 ·cases h0
theorem StkIs.later {l:List zbv} {e p:Int} {j:Nat} {x1 x2 x3:Int} (h:StkIs (zdc (l.take j) e p) x1 x2 x3 true) (hj:j<l.length) (hb:l[j].1=e∧l[j].2.2.2≤p) (hf:x3≤l[j].2.2.2):StkIs (zdc (l.take (j+1)) e p) l[j].2.1 l[j].2.2.1 l[j].2.2.2 true:=by
 rw[zdi hj]
 rcases h with⟨_,_,_,_,h0⟩|⟨y,h0,_⟩
 ·cases h0
 ·rw[h0];unfold zc0;rw[if_pos (by simpa using hb)];simp only;rw[if_pos hf];exact .inr ⟨l[j].1,rfl,rfl⟩
theorem StkIs.old {l:List zbv} {e p:Int} {j:Nat} {x1 x2 x3:Int} (h:StkIs (zdc (l.take j) e p) x1 x2 x3 true) (hj:j<l.length) (hb:l[j].1=e∧l[j].2.2.2≤p) (hf:¬x3≤l[j].2.2.2):StkIs (zdc (l.take (j+1)) e p) x1 x2 x3 true:=by
 rw[zdi hj]
 rcases h with⟨_,_,_,_,h0⟩|⟨y,h0,_⟩
 ·cases h0
 ·rw[h0];unfold zc0;rw[if_pos (by simpa using hb)];simp only;rw[if_neg hf];exact .inr ⟨y,rfl,rfl⟩
theorem StkIs.up {l:List zbv} {e p:Int} {x1 x2 x3:Int} {f:Bool} (h:StkIs (zdc l e p) x1 x2 x3 f):zam l e p=x1∧zbb l e p=x2:=by
 unfold zam zbb
 rcases h with⟨h0,rfl,rfl,_⟩|⟨y,h0,_⟩
 ·rw[h0];exact⟨rfl,rfl⟩
 ·rw[h0];exact⟨rfl,rfl⟩
def lenOf:Value→Nat
 | .slice _ n _=>n
 |_=>0
end Go.Gk
namespace Go.Proofs.YtnjhfcopphpkpaaGreatDoor
open Go.RowKit Go.Gk
theorem zhk {w:World} {v:Value} {l:List Int} (hl:zae zby 1 (fun _=>True) w v l) (x:Int):
 Calls Tryz.prog 290 #[v,iV x] w fun e w'=>e=.returned (.bool (decide (x∈l)))∧w=w':=by
 obtain⟨A,c,rfl,hc1,hc2⟩:=hl.form;have hmax:l.length≤maxLen:=Nat.le_trans hc1 hc2;unfold maxLen at hmax
 obtain⟨R,hR⟩:∃R,decide (x∈l)=R:=⟨_,rfl⟩
 rw[hR];have HR:=Lib.hid hR;clear hR;go_enter Tryz.func290,Tryz.ntmps290;go_wp2_with fail;go_loopw [5] (fun i wr=>∃j:Nat,j≤l.length∧i=.int .i64 j∧x∉l.take j∧w=wr) (fun i _=>l.length-(intOf i).toNat)
 case atStart=>exact⟨0,Nat.zero_le _,rfl,by simp,rfl⟩
 case round=>
  obtain⟨j,hj,rfl,hn,rfl⟩:=hrel;have HN:=Lib.hid hn;clear hn;by_cases hlt:j<l.length
  ·have hlt':(j:Int)<(l.length:Int):=by omega
   have hj0:=znn j;obtain⟨g,o,rfl⟩:=hl.head (by omega);have q0:=Row.one hl zap hlt rfl
   have HS:=Lib.hid (show x∈l.take (j+1)↔x=l[j] by
    rw[List.take_succ_eq_append_getElem hlt,List.mem_append,List.mem_singleton]
    exact⟨fun h=>h.resolve_left HN.out,.inr⟩)
   have HY:=Lib.hid (show l[j]∈l from List.getElem_mem _);generalize l[j]=y at *;by_cases he:y=x
   ·subst he;obtain rfl:R=true:=by rw[←HR.out,decide_eq_true HY.out]
    clear HR;go_wp2;go_ret;exact⟨rfl,rfl⟩
   ·go_wp2;go_roundw
    case rel=>exact⟨j+1,by omega,by go_num,fun h=>he (HS.out.1 h).symm,trivial⟩
    case measure=>simp[intOf];omega
  ·obtain rfl:l.length=j:=by omega
   rw[List.take_length]at HN;obtain rfl:R=false:=by rw[←HR.out,decide_eq_false HN.out]
   clear HR;go_wp2;go_ret;exact⟨rfl,rfl⟩
theorem zg7 {w:World} {v:Value} {l:List zbv} (hl:zae zdr 4 (fun _=>True) w v l) (hn:l.length≤100000) (e p:Int):
 Calls Tryz.prog 196 #[v,iV e,iV p] w fun x w'=>x=.returned (.tuple #[iV (zam l e p),iV (zbb l e p)])∧Tf w w':=by
 obtain⟨A,c,rfl,hc1,hc2⟩:=hl.form
 obtain⟨U,hU⟩:∃U,zam l e p=U:=⟨_,rfl⟩
 obtain⟨V,hV⟩:∃V,zbb l e p=V:=⟨_,rfl⟩
 rw[hU,hV];have HU:=Lib.hid hU;have HV:=Lib.hid hV;clear hU hV;go_enter Tryz.func196,Tryz.ntmps196;go_wp2_with fail;go_loopw [8,9,10,11,12] (fun v1 v2 v3 v4 i wr=>∃(j:Nat) (x1 x2 x3:Int) (f:Bool),j≤l.length∧i=.int .i64 j∧v1=.int .i64 x1∧v2=.int .i64 x2∧v3=.int .i64 x3∧v4=.bool f∧StkIs (zdc (l.take j) e p) x1 x2 x3 f∧Tf w wr) (fun _ _ _ _ i _=>l.length-(intOf i).toNat)
 case atStart=>exact⟨0,0,10000,0,false,Nat.zero_le _,rfl,rfl,rfl,rfl,rfl,.inl ⟨rfl,rfl,rfl,rfl,rfl⟩,Tch.refl _ _⟩
 case round=>
  obtain⟨j,x1,x2,x3,f,hj,rfl,rfl,rfl,rfl,rfl,hs,ht⟩:=hrel;have HS:=Lib.hid hs;clear hs;by_cases hlt:j<l.length
  ·have hlt':(j:Int)<(l.length:Int):=by omega
   have hj0:=znn j;obtain⟨g,o,rfl⟩:=hl.head (by omega);obtain⟨q0,q1,q2,q3⟩:=Row.four (hl.keep ht) zbg hlt rfl;have HNO:=Lib.hid (fun h=>HS.out.no hlt h);have HFI:=Lib.hid (fun(h:StkIs (zdc (l.take j) e p) x1 x2 x3 false) hb=>h.first hlt hb);have HLA:=Lib.hid (fun(h:StkIs (zdc (l.take j) e p) x1 x2 x3 true) hb hf=>h.later hlt hb hf);have HOL:=Lib.hid (fun(h:StkIs (zdc (l.take j) e p) x1 x2 x3 true) hb hf=>h.old hlt hb hf);generalize l[j]=s at *;obtain⟨a,b,c',d⟩:=s;simp only at q0 q1 q2 q3 HNO HFI HLA HOL;have tb:=ht.trans (tal wr (.cells #[iV a,iV b,iV c',iV d] 148));have hbs:=Blk.new wr 148 #[iV a,iV b,iV c',iV d];by_cases h1:a=e
   rotate_left
   ·have HX:=Lib.hid (HNO.out (fun h=>h1 h.1));clear HNO HFI HLA HOL HS;go_wp2;go_roundw
    case rel=>exact⟨j+1,x1,x2,x3,f,by omega,by go_num,rfl,rfl,rfl,rfl,HX.out,tb⟩
    case measure=>simp[intOf];omega
   by_cases h2:d≤p
   rotate_left
   ·have HX:=Lib.hid (HNO.out (fun h=>h2 h.2));clear HNO HFI HLA HOL HS;subst h1;go_wp2;go_roundw
    case rel=>exact⟨j+1,x1,x2,x3,f,by omega,by go_num,rfl,rfl,rfl,rfl,HX.out,tb⟩
    case measure=>simp[intOf];omega
   cases f
   ·have HX:=Lib.hid (HFI.out HS.out ⟨h1,h2⟩);clear HNO HFI HLA HOL HS;subst h1;go_wp2_with fail;generalize wr.alloc (.cells #[iV a,iV b,iV c',iV d] 148)=W2 at *;generalize wr.heap.size=N at *;have y1:=wc0 hbs.at1;have y2:=wc0 hbs.at2;have y3:=wc0 hbs.at3;refine zai (fun _=>False) [] 8 [] [] ?_ ?_
    ·exact trivial
    intro bef _;iterate 8 (refine zbt ?_;(try simp only[zaw]))
    refine za6 ?_;intro w1 hr hp1 hap;have tb:=tb.trans ((Tch.drew _ W2).trans hr);clear hap hp1 y1 y2 y3 hr hbs q0 q1 q2 q3;go_wp2;go_roundw
    case rel=>exact⟨j+1,b,c',d,true,by omega,by go_num,rfl,rfl,rfl,rfl,HX.out,tb⟩
    case measure=>simp[intOf];omega
   ·by_cases h3:x3≤d
    ·have HX:=Lib.hid (HLA.out HS.out ⟨h1,h2⟩ h3);clear HNO HFI HLA HOL HS;subst h1;go_wp2_with fail;generalize wr.alloc (.cells #[iV a,iV b,iV c',iV d] 148)=W2 at *;generalize wr.heap.size=N at *;have y1:=wc0 hbs.at1;have y2:=wc0 hbs.at2;have y3:=wc0 hbs.at3;refine zai (fun _=>False) [] 8 [] [] ?_ ?_
     ·exact trivial
     intro bef _;iterate 8 (refine zbt ?_;(try simp only[zaw]))
     refine za6 ?_;intro w1 hr hp1 hap;have tb:=tb.trans ((Tch.drew _ W2).trans hr);clear hap hp1 y1 y2 y3 hr hbs q0 q1 q2 q3;go_wp2;go_roundw
     case rel=>exact⟨j+1,b,c',d,true,by omega,by go_num,rfl,rfl,rfl,rfl,HX.out,tb⟩
     case measure=>simp[intOf];omega
    ·have HX:=Lib.hid (HOL.out HS.out ⟨h1,h2⟩ h3);clear HNO HFI HLA HOL HS;subst h1;go_wp2;go_roundw
     case rel=>exact⟨j+1,x1,x2,x3,true,by omega,by go_num,rfl,rfl,rfl,rfl,HX.out,tb⟩
     case measure=>simp[intOf];omega
  ·obtain rfl:l.length=j:=by omega
   rw[List.take_length]at HS;obtain⟨e1,e2⟩:=HS.out.up;obtain rfl:U=x1:=HU.out.symm.trans e1;obtain rfl:V=x2:=HV.out.symm.trans e2;clear e1 e2 HU HV HS;go_wp2;go_ret2
   exact⟨rfl,ht⟩
theorem zkj {w:World} {v:Value} {l:List zbv} (hl:zae zdr 4 (fun _=>True) w v l) (hn:l.length≤100000) (e p:Int):
 Calls Tryz.prog 319 #[v,iV e,iV p] w fun x w'=>∃u xs y,x=.returned u∧zet w w' u xs∧Chain (fun y=>zam l y p) e xs y∧(y=0∨y∈xs):=by
 have HA:=Lib.hid (fun x w' (t:Tf w w')=>zg7 (hl.keep t) hn x p);obtain⟨A,c,rfl,hc1,hc2⟩:=hl.form;have HL:=Lib.hid (fun(xs:List Int) (x:Int) (h:Chain (fun y=>zam l y p) e xs x)=>zf0 h);have HC0:=Lib.hid (show Chain (fun y=>zam l y p) e [] (zam l e p)from .start);have HCN:=Lib.hid (fun(xs:List Int) (x:Int) (h:Chain (fun y=>zam l y p) e xs x) (h0:x≠0) (h1:x∉xs)=>show Chain (fun y=>zam l y p) e (xs++[x]) (zam l x p)from .step h h0 h1)
 obtain⟨C,hC⟩:∃C:List Int→Int→Prop,(fun xs y=>Chain (fun y=>zam l y p) e xs y)=C:=⟨_,rfl⟩
 have HCE:=Lib.hid (fun xs y=>show C xs y=Chain (fun y=>zam l y p) e xs y by rw[←hC]);simp only[←HCE.out]at HL HC0 HCN⊢;clear hC hl;go_enter Tryz.func319,Tryz.ntmps319;go_wp2_with fail;refine(HA.out e w (Tch.refl _ _)).mono ?_;rintro _ w1 ⟨rfl,t1⟩;go_wp2_with fail;go_loopw [7,8] (fun out i wr=>∃(xs:List Int) (x:Int),i=.int .i64 x∧C xs x∧zet w wr out xs) (fun out _ _=>l.length+1-lenOf out)
 case atStart=>exact⟨[],_,rfl,HC0.out,Outs.start _ _ _ t1⟩
 case round=>
  obtain⟨xs,x,rfl,hc,hO⟩:=hrel;obtain⟨O,co,rfl,ho1,ho2⟩:=hO.form;have hxl:=HL.out xs x hc;have HC:=Lib.hid hc;clear hc;by_cases h0:x=0
  ·subst h0;go_wp2;go_ret;exact⟨_,xs,0,rfl,hO,HC.out,.inl rfl⟩
  ·have h0':(x !=0)=true:=by simpa using h0
   have HH:=Lib.hid (zhk hO.row x)
   obtain⟨d,hd⟩:∃d,decide (x∈xs)=d:=⟨_,rfl⟩
   rw[hd]at HH;go_wp2_with fail;refine HH.out.mono ?_;rintro _ _ ⟨rfl,rfl⟩;clear HH
   cases d
   ·have hni:x∉xs:=by simpa using hd
    have HC2:=Lib.hid (HCN.out xs x HC.out h0 hni);clear hd hni;go_wp2_with ((at_builtin;refine apd zaj (hO.own.alloc _) (Go.Gk.Src.one (news:=[iV (x)]) rfl (fun m9 u9 hu9=>by rw[(Blk.new (wr) 3 #[iV (x)]).cell m9];simpa using hu9)) (by simp;rfl) ?_;intro v2 w2 ho2 hg2 hl2;have hO2:=hO.step (x:=x) (Tch.alloc _ _ _) ho2 hg2 hl2;obtain⟨O2,co2,rfl,_,_⟩:=zac ho2));refine(HA.out x w2 hO2.tch).mono ?_;rintro _ w3 ⟨rfl,t3⟩;have hO3:=hO2.keep t3;go_wp2_with fail;go_roundw
    case rel=>exact⟨xs++[x],_,rfl,HC2.out,hO3⟩
    case measure=>simp[lenOf];omega
   ·have HIN:=Lib.hid (show x∈xs by simpa using hd);clear hd;go_wp2;go_ret;exact⟨_,xs,x,rfl,hO,HC.out,.inr HIN.out⟩
theorem zp8 {w:World} {v:Value} {l:List zbv} (hl:zae zdr 4 (fun _=>True) w v l) (hn:l.length≤100000) (e p:Int):
 Calls Tryz.prog 319 #[v,iV e,iV p] w fun x w'=>∃u xs y,x=.returned u∧zet w w' u xs∧Chain (fun y=>zam l y p) e xs y:=
 (zkj hl hn e p).mono fun _ _ ⟨u,xs,y,h1,h2,h3,_⟩=>⟨u,xs,y,h1,h2,h3⟩
end Go.Proofs.YtnjhfcopphpkpaaGreatDoor
namespace Go.Gk
open Go.RowKit
theorem stkIn_bd {a b c d n:Int} (h:zf2 (a,b,c,d) n=true):1≤a∧a≤n∧0≤b∧b≤n∧0≤c∧c≤10000∧(b=0→c=10000)∧0≤d∧d<24:=by
 unfold zf2 at h;simp only[Bool.and_eq_true,decide_eq_true_eq]at h;obtain⟨⟨⟨⟨⟨h1,h2⟩,h3⟩,h4⟩,⟨⟨h5,h6⟩,h7⟩⟩,h8,h9⟩:=h;refine⟨h1,h2,h3,h4,h5,h6,fun hb=>?_,h8,h9⟩;subst hb;simpa using h7
end Go.Gk
namespace Go.Proofs.YtnjhfcopphpkpaaGreatDoor
open Go.RowKit Go.Gk
theorem zr6 {w:World} {v:Value} {l:List zbv} (hl:zae zdr 4 (fun _=>True) w v l) (hn:l.length≤100000) {m:Nat} (hm:l.length=m+1) (hlt:m<l.length) (n:Int) (hin:zf2 l[m] n=true) (hr:∀p:Nat,p<24→zbu l l[m].1 p=false):
 Calls Tryz.prog 288 #[v,iV n] w fun x w'=>x=.returned (iV 0)∧Tf w w':=by
 have HA:=Lib.hid (fun e p w' (t:Tf w w')=>zp8 (hl.keep t) hn e p);obtain⟨A,c,rfl,hc1,hc2⟩:=hl.form;obtain⟨g,o,rfl⟩:=hl.head (by omega);obtain⟨q0,q1,q2,q3⟩:=Row.four hl zbg hlt rfl;have HNO:=Lib.hid (fun(p:Nat) (hp:p<24) (xs:List Int) (y:Int) (h:Chain (fun y=>zam l y p) l[m].1 xs y)=>zxm h (hr p hp));generalize l[m]=s at *;obtain⟨a,b,c',d⟩:=s;simp only at q0 q1 q2 q3 HNO;obtain⟨h1,h2,h3,h4,h5,h6,h7,h8,h9⟩:=stkIn_bd hin;rw[hm]at hc1⊢;have hm0:=znn m;have hm9:(m:Int)≤100000:=by omega
 have hbs:=Blk.new w 148 #[iV a,iV b,iV c',iV d];have tw:=tal w (.cells #[iV a,iV b,iV c',iV d] 148)
 obtain⟨W,hW⟩:∃W,W=w.alloc (.cells #[iV a,iV b,iV c',iV d] 148):=⟨_,rfl⟩
 rw[←hW]at hbs tw;have HW:=Lib.hid hW;have H7:=Lib.hid h7;rw[hm]at HA;clear hW hin hr hl h7 hm hlt hn
 have hbb:(b=0∧c'=10000)∨(b==0)=false:=by
  by_cases hb:b=0
  ·exact .inl ⟨hb,H7.out hb⟩
  ·exact .inr (by simpa using hb)
 rcases hbb with⟨rfl,rfl⟩|hb0
 all_goals
  go_enter Tryz.func288,Tryz.ntmps288;go_wp2_with fail;rw[←HW.out];generalize w.heap.size=z at *;go_loopw [6] (fun i wr=>∃j:Nat,j≤24∧i=.int .i64 j∧Tf W wr) (fun i _=>24-(intOf i).toNat)
  case atStart=>exact⟨0,by omega,rfl,Tch.refl _ _⟩
  case round=>
   obtain⟨j,hj,rfl,ht⟩:=hrel;clear q0 q1 q2 q3;by_cases hlt:j<24
   ·have hlt':(j:Int)<24:=by omega
    have hj0:=znn j;have y0:=zad (F:=fun _=>False) (hbs.keep ht id).at0 id;have HX:=Lib.hid (fun w' (t:Tf wr w')=>HA.out a (j:Int) w' ((tw.trans ht).trans t));have HN:=Lib.hid (HNO.out j hlt)
    obtain⟨V,hV⟩:∃V:Value→World→Prop,V=fun u w'=>∃xs,zae zby 1 (fun _=>True) w' u xs∧a∉xs:=⟨_,rfl⟩
    have HV:=Lib.hid hV;clear hV;go_wp2_with fail;refine zai (fun _=>False) [] 7 [(4,.inr V)] [] ?_ ?_
    ·rw[HV.out];exact⟨fun u a b hr ⟨xs,h,hx⟩=>⟨xs,h.keep hr,hx⟩,trivial⟩
    intro bef _;iterate 4 (refine zbt ?_;(try simp only[zaw]))
    refine zaq (by rfl) (by rfl) (fun w1 hr hf=>?_) (fun u=>?_)
    ·refine zaa (d:=67) rfl (by simp) (fun K hK=>?_);go_step;refine(HX.out w1 ((Tch.drew _ wr).trans hr)).mono ?_;rintro _ w2 ⟨u,xs,y,rfl,hO,hC⟩;refine hK _ _ ⟨⟨?_,hO.tch⟩,zaf⟩;rw[HV.out];exact⟨xs,hO.row,HN.out xs y hC⟩
    simp only[zaw];iterate 2 (refine zbt ?_;(try simp only[zaw]))
    refine za6 ?_;intro w1 hr hp9 hap;have hv:=hp9 _ (List.mem_singleton.2 rfl);dsimp only at hv
    rw[HV.out]at hv;obtain⟨xs,hx,hni⟩:=hv;have HH:=Lib.hid (zhk hx a);rw[decide_eq_false hni]at HH;have t1:=ht.trans ((Tch.drew _ wr).trans hr);obtain⟨Ax,cx,rfl,_,_⟩:=hx.form;clear hap hp9 hr y0 HX HN HV hni hx;go_wp2_with fail;refine HH.out.mono ?_;rintro _ _ ⟨rfl,rfl⟩;clear HH;go_wp2;go_roundw
    case rel=>exact⟨j+1,by omega,by go_num,t1⟩
    case measure=>simp[intOf];omega
   ·obtain rfl:j=24:=by omega
    go_wp2;go_ret;exact⟨rfl,tw.trans ht⟩
theorem zmu {w:World} {v:Value} {l:List zbv} (hl:zae zdr 4 (fun _=>True) w v l) (hn:l.length≤400) (n:Int) (hok:zan l n=true):
 Calls Tryz.prog 249 #[v,iV n] w fun x w'=>x=.returned (.tuple #[iV l.length,iV 0])∧Tf w w':=by
 obtain⟨A,c,rfl,hc1,hc2⟩:=hl.form;have hn':(l.length:Int)≤400:=by omega
 have HOK:=Lib.hid (fun i (hi:i<l.length)=>zjq hok hi);clear hok;go_enter Tryz.func249,Tryz.ntmps249;go_wp2_with fail;go_loopw [6] (fun i wr=>∃j:Nat,j≤l.length∧i=.int .i64 j∧Tf w wr) (fun i _=>l.length-(intOf i).toNat)
 case atStart=>exact⟨0,by omega,rfl,Tch.refl _ _⟩
 case round=>
  obtain⟨j,hj,rfl,ht⟩:=hrel;by_cases hlt:j<l.length
  ·have hlt':(j:Int)<(l.length:Int):=by omega
   have hj0:=znn j;have hjc:((j+1:Nat):Int)≤(c:Int):=by omega
   have hk:=HOK.out j hlt;have hlen:(l.take (j+1)).length=j+1:=by rw[List.length_take];omega
   have hge:(l.take (j+1))[j]'(by omega)=l[j]:=by simp
   have HC:=zr6 (Row.takes' zbg (hl.keep ht) (show j+1≤l.length by omega)) (by omega) hlen (by omega) n (by rw[hge];exact hk.1) (by rw[hge];exact hk.2);clear hk hge hlen;go_wp2_with fail;refine HC.mono ?_;rintro _ w1 ⟨rfl,t1⟩;clear HC;go_wp2;go_roundw
   case rel=>exact⟨j+1,by omega,by go_num,ht.trans t1⟩
   case measure=>simp[intOf];omega
  ·obtain rfl:l.length=j:=by omega
   go_wp2;go_ret2
   exact⟨rfl,ht⟩
theorem zl7 {w:World} {v:Value} {l:List zbv} (hl:zae zdr 4 (fun _=>True) w v l) (hn:l.length≤400) (n:Nat) (h40:n≤40) (hok:zan l n=true) (p:Int) (hp0:0≤p) (hp1:p≤23):
 Calls Tryz.prog 197 #[v,iV n,iV p] w fun x w'=>x=.returned (.tuple #[.agg #[v,iV n,iV p],iV 0])∧Tf w w':=by
 have tw:=tal w (.cells #[.slice none 0 0,iV 0,iV 0] 204);have bF:=Blk.new w 204 #[.slice none 0 0,iV 0,iV 0];have HC:=Lib.hid (zmu (hl.keep tw) hn n hok);obtain⟨A,c,rfl,hc1,hc2⟩:=hl.form;have hn0:=znn n;have hn1:(n:Int)≤40:=by omega
 have hsz:(w.alloc (.cells #[.slice none 0 0,iV 0,iV 0] 204)).heap.size=w.heap.size+1:=by simp
 clear hl hok;go_enter Tryz.func197,Tryz.ntmps197;go_wp2_with fail;generalize w.alloc _=W at *;generalize hzw:w.heap.size=z at *;have HZW:=Lib.hid hzw;clear hzw;refine HC.out.mono ?_;rintro _ w1 ⟨rfl,t1⟩;clear HC;have b1:=bF.keep t1 id;have tt:=tw.trans t1;clear bF tw;go_wp2_with (refine stH z #[.slice A l.length c,iV n,iV p] b1 ?_);intro w9 HBF HTF;clear b1;go_wp2;(try simp only[exS]);refine zbi HBF.out ?_;exact⟨rfl,tt.trans' (F':=fun g=>g=z) HTF.out (fun i hi=>.inr (by have hi:i=z:=hi;have:=HZW.out;omega))⟩
theorem ze8 (v:Value) (n p x:Int) (w:World):
 Calls Tryz.prog 195 #[.agg #[v,iV n,iV p],iV x] w fun e w'=>e=.returned (.bool (decide (1≤x∧x≤n)))∧Tf w w':=by
 have tw:=tal w (.cells #[v,iV n,iV p] 204);by_cases h1:1≤x
 ·by_cases h2:x≤n
  ·rw[decide_eq_true ⟨h1,h2⟩];go_enter Tryz.func195,Tryz.ntmps195;go_wp2;go_ret;exact⟨rfl,tw⟩
  ·rw[decide_eq_false (fun h=>h2 h.2)];go_enter Tryz.func195,Tryz.ntmps195;go_wp2;go_ret;exact⟨rfl,tw⟩
 ·rw[decide_eq_false (fun h=>h1 h.1)];go_enter Tryz.func195,Tryz.ntmps195;go_wp2;go_ret;exact⟨rfl,tw⟩
theorem zmv {w:World} {v:Value} {l:List zbv} (hl:zae zdr 4 (fun _=>True) w v l) (hn:l.length≤400) (n p x:Int):
 Calls Tryz.prog 114 #[.agg #[v,iV n,iV p],iV x] w fun e w'=>e=.returned (iV (if 1≤x∧x≤n then zbb l x p else 0))∧Tf w w':=by
 have tw:=tal w (.cells #[v,iV n,iV p] 204);have bF:=Blk.new w 204 #[v,iV n,iV p];have HS:=Lib.hid (fun w' (t:Tf w w')=>zg7 (hl.keep t) (by omega) x p);obtain⟨A,c,rfl,hc1,hc2⟩:=hl.form;have HI:=Lib.hid (ze8 (.slice A l.length c) n p x (w.alloc (.cells #[.slice A l.length c,iV n,iV p] 204)))
 obtain⟨R,hR⟩:∃R,(if 1≤x∧x≤n then zbb l x p else 0)=R:=⟨_,rfl⟩
 rw[hR];have HR:=Lib.hid hR;clear hR hl;by_cases hin:1≤x∧x≤n
 ·rw[decide_eq_true hin]at HI;rw[if_pos hin]at HR;go_enter Tryz.func114,Tryz.ntmps114;go_wp2_with fail;generalize w.alloc _=W at *;generalize w.heap.size=z at *;refine HI.out.mono ?_;rintro _ w1 ⟨rfl,t1⟩;have b1:=bF.keep t1 id;have k0:=b1.at0;have k2:=b1.at2;clear HI bF b1;go_wp2_with fail;refine(HS.out w1 (tw.trans t1)).mono ?_;rintro _ w2 ⟨rfl,t2⟩;rw[HR.out];go_wp2;go_ret;exact⟨rfl,(tw.trans t1).trans t2⟩
 ·rw[decide_eq_false hin]at HI;rw[if_neg hin]at HR;obtain rfl:(0:Int)=R:=HR.out;clear HR HS;go_enter Tryz.func114,Tryz.ntmps114;go_wp2_with fail;refine HI.out.mono ?_;rintro _ w1 ⟨rfl,t1⟩;go_wp2;go_ret;exact⟨rfl,tw.trans t1⟩
theorem ze9 {w:World} {e a s r l n:Value} {b:Bks} {us:List (Ent×Value)} (h:BksAt w e a s r l n b us) (h40:b.ents.length≤40) (h400:b.stakes.length≤400) (hok:zan b.stakes b.ents.length=true) (p:Int) (hp0:0≤p) (hp1:p≤23):
 Calls Tryz.prog 115 #[.agg #[e,a,s,r,l,n],iV p] w fun x w'=>x=.returned (.agg #[s,iV b.ents.length,iV p])∧Tf w w':=by
 have ta:=tal w (.cells #[e,a,s,r,l,n] 29);have tb:=tal (w.alloc (.cells #[e,a,s,r,l,n] 29)) (.cells #[.slice none 0 0,iV 0,iV 0] 204);have tw:=ta.trans tb;have hbF:=Blk.new2 w (.cells #[e,a,s,r,l,n] 29) 204 #[.slice none 0 0,iV 0,iV 0];have HC:=Lib.hid (zl7 (h.keep tw).stakes h400 b.ents.length h40 hok p hp0 hp1);have hsz:((w.alloc (.cells #[e,a,s,r,l,n] 29)).alloc (.cells #[.slice none 0 0,iV 0,iV 0] 204)).heap.size=w.heap.size+2:=by simp
 obtain⟨Ae,ce,rfl,_,_⟩:=h.ents.form;obtain⟨Aa,ca,rfl,_,_⟩:=h.accs.form;obtain⟨As,cs,rfl,_,_⟩:=h.stakes.form;obtain⟨Ar,cr,rfl,_,_⟩:=h.rates.form;obtain⟨Al,cl,rfl,_,_⟩:=h.locks.form;obtain⟨An,cn,rfl,_,_⟩:=h.ent.row.form;clear ta tb h hok;go_enter Tryz.func115,Tryz.ntmps115;go_wp2_with fail;generalize(w.alloc _).alloc _=W at *;generalize hzw:w.heap.size=z at *;have HZW:=Lib.hid hzw;clear hzw;refine HC.out.mono ?_;rintro _ w1 ⟨rfl,t1⟩;clear HC;have tc:=tal w1 (.cells #[.slice As b.stakes.length cs,iV b.ents.length,iV p] 204);have b1:=(hbF.keep t1 id).keep tc id;have tt:=(tw.trans t1).trans tc;clear hbF tw tc;go_wp2_with (refine stH (z+1) #[.slice As b.stakes.length cs,iV b.ents.length,iV p] b1 ?_);intro w9 HBF HTF;clear b1;go_wp2;refine zfe HBF.out ?_;exact⟨rfl,tt.trans' (F':=fun g=>g=z+1) HTF.out (fun i hi=>.inr (by have hi:i=z+1:=hi;have:=HZW.out;omega))⟩
