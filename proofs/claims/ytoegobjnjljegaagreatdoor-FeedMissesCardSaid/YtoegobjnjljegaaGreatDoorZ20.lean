/-
  Plain: stores as laws, after which the world is a letter of which only what counts is known. No program in sight.
-/
import Derived.Laws.Tables
import Derived.Great.BuildSlice
import Derived.Test.YtoegobjnjljegaaGreatDoorZ15
import Derived.Test.YtoegobjnjljegaaGreatDoorZ19
set_option maxRecDepth 100000
set_option maxHeartbeats 6400000
namespace Go.Gk
open Go.RowKit
section
variable {P:Program} {ops:Array Oper} {rest:List Oper} {op:Oper} {a:Act} {w:World} {Q:Exit→Act→World→Prop}
theorem zub (w:World) (b o:Nat) (v u:Value) (h1:v.oneCell'=true) (hc:w.cell? ⟨b,o,none⟩=some u) (hf:w.frozen? ⟨b,o,none⟩=false):Sem.run P (storeCells ⟨b,o,none⟩ [v]) w=.ok () (w.setCell ⟨b,o,none⟩ v):=by
 have hst:=run_store P w ⟨b,o,none⟩ v .plain h1;rw[hc]at hst;simp only[hf]at hst;have e0:(⟨b,o,none⟩:Addr).add 0=⟨b,o,none⟩:=by simp[Addr.add]
 simp[storeCells,e0,hst]
theorem zjl (b o:Nat) (ty:TypeId) (v u:Value) (hi:(P.info? ty).map (·.size)=some 1) (h1:v.oneCell'=true) (hc:w.cell? ⟨b,o,none⟩=some u) (hf:w.frozen? ⟨b,o,none⟩=false):(storeVar ty ⟨b,o,none⟩ v).run P w=.ok () (w.setCell ⟨b,o,none⟩ v):=by
 have:=zub (P:=P) w b o v u h1 hc hf;have hc:v.cells= #[v]:=by cases v<;>first|rfl|cases h1
 cases hq:P.info? ty with
 |none=>simp[hq]at hi
 |some i=>
  have hs:i.size=1:=by simpa[hq]using hi
  simp[storeVar,sizeOf,typeInfo,hq,hc,hs,this]
theorem zab (hgd:op.guard=none) (ty:TypeId) (x y:Operand) (ho:op.op=.store ty x y) (b o:Nat) (v:Value) (hx:a.eval x=.pointer (some ⟨b,o,none⟩)) (hy:a.eval y=v) (h1:v.oneCell'=true) (hi:(P.info? ty).map (·.size)=some 1)
 {t:TypeId} {cs:Array Value} (hb:Blk w b t cs) (hlt:o<cs.size) (h:∀W,Blk W b t (cs.setIfInBounds o v)→Tch (fun g=>g=b) w W→wpList P ops Q rest (a.put op.dst undef) W):wpList P ops Q (op::rest) a w:=
 wpList_plain hgd fun _ hK=>by
  have hc:=hb.cell o;rw[Array.getElem?_eq_getElem hlt]at hc;unfold Oper.wp execOp;simp only[ho,hx,hy,Instr.storeAt,Instr.sureAddr,Sem.run_bind,Sem.run_pure,Result.andThen_ok,zjl b o ty v _ hi h1 hc (hb.frozen o)];exact hK _ _ (h _ (hb.set_ o v) (Tch.setCell (F:=fun g=>g=b) w (p:=⟨b,o,none⟩) (.inl rfl) v))
theorem zc7 (hgd:op.guard=none) (ty:TypeId) (x y:Operand) (ho:op.op=.store ty x y) (g:Nat) (cells:Array Value) (hx:a.eval x=.pointer (some ⟨g,0,none⟩)) (hy:a.eval y=.agg cells)
 {t:TypeId} {old:Array Value} (hb:Blk w g t old) (hi:(P.info? ty).map (·.size)=some cells.size) (hold:old.size=cells.size) (h1:cells.all (·.oneCell')=true)
 (h:∀W,Blk W g t cells→Tch (fun k=>k=g) w W→wpList P ops Q rest (a.put op.dst undef) W):wpList P ops Q (op::rest) a w:=
 wpList_store_row hgd ty x y ho g cells hx hy t old hb hi hold h1 (h _ (setRow_heap w g old cells t (0,0) hb) ⟨rfl,rfl,rfl,by simp,fun k _ hk=>setRow_other w g k cells hk⟩)
theorem stK (g:Nat) (cells:Array Value) {t:TypeId} {old:Array Value} (hb:Blk w g t old) (h:Hid (∀W,Blk W g t cells→Tch (fun k=>k=g) w W→wpList P ops Q rest (a.put op.dst undef) W)) {ty:TypeId} {x y:Operand} (ho:op.op=.store ty x y:=by rfl) (hgd:op.guard=none:=by rfl)
 (hx:a.eval x=.pointer (some ⟨g,0,none⟩):=by rfl) (hy:a.eval y=.agg cells:=by rfl) (hi:(P.info? ty).map (·.size)=some cells.size:=by kernel_rfl) (hold:old.size=cells.size:=by rfl) (h1:cells.all (·.oneCell')=true:=by simp[Value.oneCell']):wpList P ops Q (op::rest) a w:=
 zc7 hgd ty x y ho g cells hx hy hb hi hold h1 h.out
theorem stH (g:Nat) (cells:Array Value) {t:TypeId} {old:Array Value} (hb:Blk w g t old) (h:Hid (∀W,Hid (Blk W g t cells)→Hid (Tch (fun k=>k=g) w W)→wpList P ops Q rest (a.put op.dst undef) W)) {ty:TypeId} {x y:Operand} (ho:op.op=.store ty x y:=by rfl) (hgd:op.guard=none:=by rfl)
 (hx:a.eval x=.pointer (some ⟨g,0,none⟩):=by rfl) (hy:a.eval y=.agg cells:=by rfl) (hi:(P.info? ty).map (·.size)=some cells.size:=by kernel_rfl) (hold:old.size=cells.size:=by rfl) (h1:cells.all (·.oneCell')=true:=by simp[Value.oneCell']):wpList P ops Q (op::rest) a w:=
 zc7 hgd ty x y ho g cells hx hy hb hi hold h1 fun W h2 h3=>h.out W h2 h3
end
open Go.RowKit
theorem zb9 (l:List Acc) (a:Int):(zag l).contains a=zas l a:=by
 rw[Bool.eq_iff_iff,List.contains_iff_mem];unfold zag;rw[List.mem_filter];constructor
 ·exact fun h=>h.2
 ·intro h;refine⟨?_,h⟩;unfold zas zdb at h;simp only[Bool.and_eq_true,decide_eq_true_eq]at h;unfold zal;exact List.mem_map.2 ⟨(a-1).toNat,List.mem_range.2 (by omega),by omega⟩
theorem znc {b:Bks} {c:Rt6} (h:za7 b c 1 2=0):0≤c.2.2.2.1∧c.2.2.2.1≤23:=by
 unfold za7 at h;by_cases h0:za3 c b.ents.length b.accs.length=0
 ·unfold za3 at h0;by_cases hc:zc2 c=true
  ·unfold zc2 at hc;simp only[Bool.and_eq_true,wi,decide_eq_true_eq]at hc;omega
  ·rw[if_neg hc]at h0;cases h0
 ·rw[if_neg h0]at h;exact absurd h h0
def putAll (w:World) (g:Nat):Nat→List Value→World
 |_,[]=>w
 |o,v::r=>putAll (w.setCell ⟨g,o,none⟩ v) g (o+1) r
theorem znd {g:Nat} {t:TypeId}:∀(vs:List Value) (o:Nat) (w:World) (pre mid suf:List Value),mid.length=vs.length→pre.length=o→Blk w g t (pre++mid++suf).toArray→Blk (putAll w g o vs) g t (pre++vs++suf).toArray
 |[],o,w,pre,mid,suf,h1,_,h=>by
  obtain rfl:mid=[]:=List.eq_nil_of_length_eq_zero h1;exact h
 |v::r,o,w,pre,mid,suf,h1,h2,h=>by
  match mid,h1 with
  |m::mid,h1=>
   have h3:=h.set_ o v
   have e:(pre++m::mid++suf).set o v=(pre++[v])++mid++suf:=by
    subst h2;rw[List.append_assoc,List.set_append_right _ _ (Nat.le_refl _),Nat.sub_self];simp
   rw[List.setIfInBounds_toArray,e]at h3;have:=znd r (o+1) _ (pre++[v]) mid suf (by simpa using h1) (by simp[h2]) h3;simpa[putAll]using this
theorem Blk.setAll {w:World} {g:Nat} {t:TypeId} {cs:List Value} (h:Blk w g t cs.toArray) (vs:List Value) (hl:cs.length=vs.length):Blk (putAll w g 0 vs) g t vs.toArray:=by
 have:=znd vs 0 w [] cs [] hl rfl (by simpa using h);simpa using this
theorem Tch.putAll (g:Nat):∀(vs:List Value) (o:Nat) (w:World),Tch (fun k=>k=g) w (putAll w g o vs)
 |[],_,w=>Tch.refl _ w
 |v::r,o,w=>(Tch.setCell (F:=fun k=>k=g) w (p:=⟨g,o,none⟩) (.inl rfl) v).trans (Tch.putAll g r (o+1) _)
def ze2:Array Value:= #[iV 0,iV 0,.slice none 0 0,.slice none 0 0,iV 0,iV 0,iV 0,iV 0,iV 0,iV 0,.bool false,iV 0,iV 0,.bool false]
end Go.Gk
namespace Go.Proofs.YtoegobjnjljegaaGreatDoor
open Go.RowKit Go.Gk
section
variable {w:World} {bv bi B t mr mp:Nat} {e a s r l n lv:Value} {fs:List Value} {b:Bks} {us:List (Ent×Value)}
theorem zpf (h:Vw w bv bi B t mr mp e a s r l n lv fs b us) (hn:(zag b.accs).length≤1000) (c:Rt6):
 Calls Tryz.prog 216 #[.pointer (some ⟨bv,0,none⟩),zcq c] w fun x w'=>x=.returned (iV (za7 b c 1 2))∧Tf w w':=by
 obtain⟨c1,c2,c3,c4,c5,c6⟩:=c;have tw:=tal w (.cells #[iV c1,iV c2,iV c3,iV c4,iV c5,iV c6] 31);have hb:=Blk.new w 31 #[iV c1,iV c2,iV c3,iV c4,iV c5,iV c6];have h1:=h.keep tw;have HM:=Lib.hid (ze3 h1 (c1,c2,c3,c4,c5,c6));have HL:=Lib.hid (fun w' (tc:Tf (w.alloc (.cells #[iV c1,iV c2,iV c3,iV c4,iV c5,iV c6] 31)) w')=>zdx (h1.keep tc) hn c3);rw[zb9]at HL
 obtain⟨m,hm⟩:∃m,za7 b (c1,c2,c3,c4,c5,c6) 1 2=m:=⟨_,rfl⟩
 rw[hm];unfold za7 at hm;simp only at hm;generalize za3 (c1,c2,c3,c4,c5,c6) b.ents.length b.accs.length=k at *;generalize zas b.accs c3=lf at *;have HMM:=Lib.hid hm;unfold zcq at HM⊢;simp only at HM⊢;clear hm h h1;go_enter Tryz.func216,Tryz.ntmps216;go_wp2_with fail;generalize w.alloc (.cells #[iV c1,iV c2,iV c3,iV c4,iV c5,iV c6] 31)=W at *;generalize w.heap.size=z at *;refine HM.out.mono ?_;rintro _ w1 ⟨rfl,t1⟩;clear HM;have tt:=tw.trans t1;by_cases hk:k=0
 rotate_left
 ·have hk':(k !=0)=true:=by simpa using hk
  obtain rfl:m=k:=by rw[←HMM.out,if_neg hk]
  clear HMM;go_wp2;go_ret;exact⟨rfl,tt⟩
 subst hk;have q0:=(hb.keep t1 id).at0;have q2:=(hb.keep t1 id).at2;by_cases hr:c1=1∨c1=2
 rotate_left
 ·obtain rfl:m=25:=by rw[←HMM.out,if_pos rfl,if_pos (by omega)]
  have h1:(c1 !=1)=true:=by simp;omega
  have h2:(c1 !=2)=true:=by simp;omega
  clear HMM hr;go_wp2;go_ret;exact⟨rfl,tt⟩
 have HMM:=Lib.hid (show(if lf=true then(0:Int)else 27)=m by
  have h9:=HMM.out;rw[if_pos rfl,if_neg (show¬(c1<1∨2<c1) by omega)]at h9
  exact h9)
 rcases hr with rfl|rfl
 all_goals
  go_wp2_with fail;refine(HL.out w1 t1).mono ?_;rintro _ w2 ⟨rfl,t2⟩;clear HL q0 q2
  cases lf
  ·obtain rfl:m=27:=by rw[←HMM.out];rfl
   go_wp2;go_ret;exact⟨rfl,tt.trans t2⟩
  ·obtain rfl:m=0:=by rw[←HMM.out];rfl
   go_wp2;go_ret;exact⟨rfl,tt.trans t2⟩
end
theorem zit (c1 c2 c3 c4 c5 c6 rl p:Int) {w:World} {g:Nat} (hb:Blk w g 31 #[iV c1,iV c2,iV c3,iV c4,iV c5,iV c6]):
 Calls Tryz.prog 217 #[iV rl,iV p,.pointer (some ⟨g,0,none⟩)] w fun x w'=>x=.returned (.agg #[iV rl,iV c2,iV c3,iV p,iV c5,iV c6])∧Tf w w':=by
 have ta:=tal w (.cells #[iV 0,iV 0,iV 0,iV 0,iV 0,iV 0] 31);have hb1:=hb.keep ta id;have q0:=hb1.cell 0;have q1:=hb1.cell 1;have q2:=hb1.cell 2;have q3:=hb1.cell 3;have q4:=hb1.cell 4;have q5:=hb1.cell 5;simp at q0 q1 q2 q3 q4 q5;clear hb1;go_enter Tryz.func217,Tryz.ntmps217;go_wp2;refine zfe ((Blk.new w 31 _).alloc _) ?_;exact⟨rfl,(Tch.alloc _ _ _).trans (Tch.alloc _ _ _)⟩
open Go.RowKit Go.Gk
theorem seenL_at {tp e a s r l n lv:Value} {fs:List Value} (j:Nat):(zh9 tp e a s r l n lv fs)[8+j]?=fs[j]?:=by
 unfold zh9;rw[List.getElem?_append_right (by simp)];simp
theorem zws {tp e a s r l n lv:Value} {fs fs':List Value} {i:Nat} (h:i<8):(zh9 tp e a s r l n lv fs)[i]?=(zh9 tp e a s r l n lv fs')[i]?:=by
 unfold zh9;rw[List.getElem?_append_left (by simpa using h),List.getElem?_append_left (by simpa using h)]
theorem zwt {tp e a s r l n lv:Value} {fs:List Value} (j:Nat) (x:Value):(zh9 tp e a s r l n lv fs).set (8+j) x=zh9 tp e a s r l n lv (fs.set j x):=by
 unfold zh9;rw[List.set_append_right _ _ (by simp)];simp
def SeeOk (b:Bks) (w:World) (x:Ending) (w':World):Prop:=
 (zba b=false∧(∃n:Int,x=.returned (.tuple #[.pointer none,iV n])∧(n==0)=false)∨
  zba b=true∧∃bv bi B t mr mp e a s r l n lv fs us,x=.returned (.tuple #[.pointer (some ⟨bv,0,none⟩),iV 0])∧Vw w' bv bi B t mr mp e a s r l n lv fs b us)∧Tf w w'
def SeeFar (b:Bks) (w:World) (x:Ending) (w':World):Prop:=
 (zba b=false∧(∃n:Int,x=.returned (.tuple #[.pointer none,iV n])∧(n==0)=false)∨
  zba b=true∧∃bv bi B t mr mp e a s r l n lv fs us,x=.returned (.tuple #[.pointer (some ⟨bv,0,none⟩),iV 0])∧Vw w' bv bi B t mr mp e a s r l n lv fs b us∧ViewFar w.heap.size w' bv bi B t mr mp e a s r l n lv fs b)∧Tf w w'
theorem SeeFar.ok {b:Bks} {w:World} {x:Ending} {w':World} (h:SeeFar b w x w'):SeeOk b w x w':=by
 obtain⟨h1|⟨h1,bv,bi,B,t,mr,mp,e,a,s,r,l,n,lv,fs,us,h2,h3,_⟩,h4⟩:=h
 ·exact⟨.inl h1,h4⟩
 ·exact⟨.inr ⟨h1,bv,bi,B,t,mr,mp,e,a,s,r,l,n,lv,fs,us,h2,h3⟩,h4⟩
theorem z5d {w:World} {e a s r l n:Value} {b:Bks} {us:List (Ent×Value)} (h:BksAt w e a s r l n b us) (hfw:BksFew b) (h64:Bks64 b):
 Calls Tryz.prog 13 #[.agg #[e,a,s,r,l,n]] w (SeeFar b w):=by
 have hul:us.length≤60:=by have:=hfw.entries;rw[←h.map,List.length_map]at this;omega
 have hll:∀p∈us,p.1.lines.length≤100:=fun p hp=>by have:=hfw.lines p.1 (by rw[←h.map];exact List.mem_map_of_mem hp);omega
 obtain⟨Ae,ce,rfl,_,_⟩:=h.ents.form;obtain⟨Aa,ca,rfl,_,_⟩:=h.accs.form;obtain⟨As,cs,rfl,_,_⟩:=h.stakes.form;obtain⟨Ar,cr,rfl,_,_⟩:=h.rates.form;obtain⟨Al,cl,rfl,_,_⟩:=h.locks.form;obtain⟨An,cn,rfl,_,_⟩:=h.ent.row.form;have tw:=tal w (.cells #[.slice Ae b.ents.length ce,.slice Aa b.accs.length ca,.slice As b.stakes.length cs,.slice Ar b.rates.length cr,.slice Al b.locks.length cl,.slice An us.length cn] 29);have hb:=Blk.new w 29 #[.slice Ae b.ents.length ce,.slice Aa b.accs.length ca,.slice As b.stakes.length cs,.slice Ar b.rates.length cr,.slice Al b.locks.length cl,.slice An us.length cn];have HH:=Lib.hid (h.keep tw);have HC:=Lib.hid (zmo (h.keep tw) hfw h64);have HM:=Lib.hid h.map;have HML:=Lib.hid (show(us.length:Int)=(b.entries.length:Int) by rw[←h.map,List.length_map]);clear h;go_enter Tryz.func13,Tryz.ntmps13;go_wp2_with fail;generalize w.alloc (.cells #[.slice Ae b.ents.length ce,.slice Aa b.accs.length ca,.slice As b.stakes.length cs,.slice Ar b.rates.length cr,.slice Al b.locks.length cl,.slice An us.length cn] 29)=W at *;generalize hzw:w.heap.size=z at *;have HZW:=Lib.hid hzw;clear hzw;refine HC.out.mono ?_;rintro _ w1 ⟨x1,x2,x3,rfl,hx,t1⟩;clear HC
 cases hok:zba b
 ·rw[hok]at hx;have hx':(x3 !=0)=true:=by simpa using hx
  have HX:=Lib.hid hx;have HOK:=Lib.hid hok;clear hx hok;go_wp2;go_ret2
  exact⟨.inl ⟨HOK.out,_,rfl,HX.out⟩,tw.trans t1⟩
 rw[hok]at hx;obtain rfl:x3=0:=by simpa using hx
 clear hx;have HOK:=Lib.hid hok
 have HEN:=Lib.hid (show b.ents.length≤40 by
  unfold zba zj0 at hok;simp only[Bool.and_eq_true,decide_eq_true_eq]at hok
  omega)
 have HSO:=Lib.hid (show zan b.stakes b.ents.length=true by
  unfold zba at hok;simp only[Bool.and_eq_true]at hok
  exact hok.1.1.1.2)
 clear hok;have h1:=HH.out.keep t1;have b1:=hb.keep t1 id;obtain⟨y0,y1,y2,y3,y4,y5⟩:=b1.w6;go_wp2_with fail;refine zai (fun _=>False) [] 4 [(1,.inr fun u w'=>∃e' a' s' r' l' n' us',u=.agg #[e',a',s',r',l',n']∧BksAt w' e' a' s' r' l' n' b us'∧BooksIs (fun g=>z≤g) w' (.agg #[e',a',s',r',l',n']) b)] [] ?_ ?_
 ·exact⟨fun _ _ _ hr ⟨e',a',s',r',l',n',us',h1,h2,h3⟩=>⟨e',a',s',r',l',n',us',h1,h2.keep hr,h3.keep hr⟩,trivial⟩
 intro bef _;(refine zbt ?_;(try simp only[zaw]));refine zaq (by rfl) (by rfl) (fun w2 hr hf=>?_) (fun v1=>?_)
 ·refine zaa (d:=19) rfl (by simp) (fun K hK=>?_);go_step;refine(zof (h1.keep ((Tch.drew _ w1).trans hr)) hfw).mono ?_;rintro _ w3 ⟨e',a',s',r',l',n',us',rfl,hc,hcN,t3⟩
  have hsz9:z≤w2.heap.size:=by
   have h8:=(tw.trans (t1.trans ((Tch.drew _ w1).trans hr))).size;rw[HZW.out]at h8;exact h8
  exact hK _ _ ⟨⟨⟨e',a',s',r',l',n',us',rfl,hc,hcN.keepTo (Tch.refl (fun _=>False) _) (fun g _ hg=>⟨id,Nat.le_trans hsz9 hg⟩)⟩,t3⟩,zaf⟩
 simp only[zaw];iterate 2 (refine zbt ?_;(try simp only[zaw]))
 refine za6 ?_;intro w2 hr hp hap;obtain⟨e',a',s',r',l',n',us',rfl,h2,hN2⟩:=hp _ (List.Mem.head _);have t2:=(Tch.drew (fun _=>False) w1).trans hr;clear hp hap hr y0 y1 y2 y3 y4 y5;obtain⟨Ae',ce',rfl,_,_⟩:=h2.ents.form;obtain⟨Aa',ca',rfl,_,_⟩:=h2.accs.form;obtain⟨As',cs',rfl,_,_⟩:=h2.stakes.form;obtain⟨Ar',cr',rfl,_,_⟩:=h2.rates.form;obtain⟨Al',cl',rfl,_,_⟩:=h2.locks.form;obtain⟨An',cn',rfl,_,_⟩:=h2.ent.row.form;have HN:=Lib.hid (zpw (h1.ent.keep t2) hul hll);go_wp2_with fail;refine HN.out.mono ?_;rintro _ w3 ⟨B,t,mr,mp,rfl,htz,hT,t3⟩;clear HN;have h3:=h2.keep t3;have HN3:=Lib.hid (hN2.keep t3);clear hN2;rw[HM.out,HML.out]at hT;have tz:=tal w3 (.cells #[.pointer (some ⟨t,0,none⟩),.slice Ae' b.ents.length ce',.slice Aa' b.accs.length ca',.slice As' b.stakes.length cs',.slice Ar' b.rates.length cr',.slice Al' b.locks.length cl',.slice An' us'.length cn',.slice none 0 0,.pointer none,.pointer none,.pointer none,.pointer none,.pointer none,.pointer none,.pointer none,.pointer none,.pointer none,.pointer none,.pointer none,.pointer none,.pointer none,.pointer none,.pointer none,.pointer none,.pointer none,.pointer none,.pointer none,.pointer none,.pointer none,.pointer none,.pointer none,.pointer none] 134);have bz:=Blk.new w3 134 #[.pointer (some ⟨t,0,none⟩),.slice Ae' b.ents.length ce',.slice Aa' b.accs.length ca',.slice As' b.stakes.length cs',.slice Ar' b.rates.length cr',.slice Al' b.locks.length cl',.slice An' us'.length cn',.slice none 0 0,.pointer none,.pointer none,.pointer none,.pointer none,.pointer none,.pointer none,.pointer none,.pointer none,.pointer none,.pointer none,.pointer none,.pointer none,.pointer none,.pointer none,.pointer none,.pointer none,.pointer none,.pointer none,.pointer none,.pointer none,.pointer none,.pointer none,.pointer none,.pointer none];have HL:=Lib.hid (zix (h3.keep tz).accs (by have:=hfw.accs;omega));have c2:=bz.at2;have HSZ:=Lib.hid (show(w3.alloc (.cells #[.pointer (some ⟨t,0,none⟩),.slice Ae' b.ents.length ce',.slice Aa' b.accs.length ca',.slice As' b.stakes.length cs',.slice Ar' b.rates.length cr',.slice Al' b.locks.length cl',.slice An' us'.length cn',.slice none 0 0,.pointer none,.pointer none,.pointer none,.pointer none,.pointer none,.pointer none,.pointer none,.pointer none,.pointer none,.pointer none,.pointer none,.pointer none,.pointer none,.pointer none,.pointer none,.pointer none,.pointer none,.pointer none,.pointer none,.pointer none,.pointer none,.pointer none,.pointer none,.pointer none] 134)).heap.size=w3.heap.size+1 by simp);have hw3:=tw.trans (t1.trans (t2.trans t3))
 have HFT:=Lib.hid (show z≤t∧z≤mr∧z≤mp∧z≤w3.heap.size by
  have h7:=(tw.trans (t1.trans t2)).size;have h8:=hw3.size;rw[HZW.out]at h7 h8
  omega)
 clear tw t1 t2 t3 h1 b1 h2 HH hb htz;go_wp2_with fail;generalize w3.alloc (.cells #[.pointer (some ⟨t,0,none⟩),.slice Ae' b.ents.length ce',.slice Aa' b.accs.length ca',.slice As' b.stakes.length cs',.slice Ar' b.rates.length cr',.slice Al' b.locks.length cl',.slice An' us'.length cn',.slice none 0 0,.pointer none,.pointer none,.pointer none,.pointer none,.pointer none,.pointer none,.pointer none,.pointer none,.pointer none,.pointer none,.pointer none,.pointer none,.pointer none,.pointer none,.pointer none,.pointer none,.pointer none,.pointer none,.pointer none,.pointer none,.pointer none,.pointer none,.pointer none,.pointer none] 134)=W4 at *;generalize hbi:w3.heap.size=bi at *;have HBI:=Lib.hid hbi;clear hbi c2;refine HL.out.mono ?_;rintro _ w5 ⟨u,rfl,hO⟩;obtain⟨U,cu,rfl,hu1,hu2⟩:=hO.form;have b5:=bz.keep hO.tch id;have f7:=b5.frozen 7;have c7:=b5.at7;have ts:=Tch.setCell (F:=fun g=>g=bi) w5 (p:=⟨bi,7,none⟩) (.inl rfl) (.slice U (zag b.accs).length cu);have HB6:=Lib.hid (show Blk (w5.setCell ⟨bi,7,none⟩ (.slice U (zag b.accs).length cu)) bi 134 (zh9 (.pointer (some ⟨t,0,none⟩)) (.slice Ae' b.ents.length ce') (.slice Aa' b.accs.length ca') (.slice As' b.stakes.length cs') (.slice Ar' b.rates.length cr') (.slice Al' b.locks.length cl') (.slice An' us'.length cn') (.slice U (zag b.accs).length cu) [.pointer none,.pointer none,.pointer none,.pointer none,.pointer none,.pointer none,.pointer none,.pointer none,.pointer none,.pointer none,.pointer none,.pointer none,.pointer none,.pointer none,.pointer none,.pointer none,.pointer none,.pointer none,.pointer none,.pointer none,.pointer none,.pointer none,.pointer none,.pointer none]).toArray from b5.set_ 7 _);have HLV:=Lib.hid (hO.rowN.keepTo (P':=fun g=>bi<g) ts (fun g _ hg=>⟨by have:=HSZ.out;intro he;have he:g=bi:=he;omega,by have:=HSZ.out;omega⟩));have HT6:=Lib.hid ((tz.trans hO.tch).trans' ts (fun i hi=>.inr (by have hi:i=bi:=hi;have:=HBI.out;omega)));have HS6:=Lib.hid (show bi<(w5.setCell ⟨bi,7,none⟩ (.slice U (zag b.accs).length cu)).heap.size by have h1:=hO.tch.size;have h2:=ts.size;have:=HSZ.out;omega);clear HL bz b5 hO ts tz;go_wp2_with fail;clear f7 c7;generalize w5.setCell ⟨bi,7,none⟩ (.slice U (zag b.accs).length cu)=W6 at *;go_loopw [34] (fun i wr=>∃(j:Nat) (fs:List Value),j≤24∧i=.int .i64 j∧fs.length=24∧(∀p:Nat,p<j→∃g:Nat,fs[p]?=some (.pointer (some ⟨g,0,none⟩))∧bi<g∧Blk wr g 176 (zah b.stakes b.ents.length p b.ents.length).toArray)∧Blk wr bi 134 (zh9 (.pointer (some ⟨t,0,none⟩)) (.slice Ae' b.ents.length ce') (.slice Aa' b.accs.length ca') (.slice As' b.stakes.length cs') (.slice Ar' b.rates.length cr') (.slice Al' b.locks.length cl') (.slice An' us'.length cn') (.slice U (zag b.accs).length cu) fs).toArray∧Tch (fun g=>g=bi) W6 wr) (fun i _=>24-(intOf i).toNat)
 case atStart=>exact⟨0,_,by omega,rfl,rfl,(fun p hp=>absurd hp (by omega)),HB6.out,Tch.refl _ _⟩
 case round=>
  obtain⟨j,fs,hj,rfl,hfl,hF,hB,ht⟩:=hrel;have HFL:=Lib.hid hfl;clear hfl;by_cases hlt:j<24
  ·have hj24:(j:Int)<24:=by omega
   have hj0:=znn j
   obtain⟨J,hJ⟩:∃J:Nat→World→Prop,J=fun s w'=>if s=0 then Blk w' bi 134 (zh9 (.pointer (some ⟨t,0,none⟩)) (.slice Ae' b.ents.length ce') (.slice Aa' b.accs.length ca') (.slice As' b.stakes.length cs') (.slice Ar' b.rates.length cr') (.slice Al' b.locks.length cl') (.slice An' us'.length cn') (.slice U (zag b.accs).length cu) fs).toArray else∃g:Nat,bi<g∧Blk w' g 176 (zah b.stakes b.ents.length j b.ents.length).toArray∧Blk w' bi 134 (zh9 (.pointer (some ⟨t,0,none⟩)) (.slice Ae' b.ents.length ce') (.slice Aa' b.accs.length ca') (.slice As' b.stakes.length cs') (.slice Ar' b.rates.length cr') (.slice Al' b.locks.length cl') (.slice An' us'.length cn') (.slice U (zag b.accs).length cu) (fs.set j (.pointer (some ⟨g,0,none⟩)))).toArray:=⟨_,rfl⟩
   have HJ:=Lib.hid hJ;clear hJ;have t3r:=HT6.out.trans' ht (fun i hi=>.inr (by have hi:i=bi:=hi;have:=HBI.out;omega));have HST:=Lib.hid (fun(w':World) (tc:Tf w3 w')=>zpx (h3.keep tc).stakes (by have:=hfw.stakes;omega) b.ents.length HEN.out j hlt HSO.out);have y3:=zpy (F:=fun g=>g=bi) (C:=fun c=>∃i:Nat,i<8∧c=⟨bi,i,none⟩) hB.at3 ⟨3,by omega,rfl⟩;have y1:=zpy (F:=fun g=>g=bi) (C:=fun c=>∃i:Nat,i<8∧c=⟨bi,i,none⟩) hB.at1 ⟨1,by omega,rfl⟩;go_wp2_with fail
   obtain⟨V14,hV14⟩:∃V:Value→World→Prop,V=fun u w'=>∃g:Nat,u=.tuple #[.pointer (some ⟨g,0,none⟩),iV 0]∧bi<g∧Blk w' g 176 (zah b.stakes b.ents.length j b.ents.length).toArray:=⟨_,rfl⟩
   obtain⟨V16,hV16⟩:∃V:Value→World→Prop,V=fun u w'=>∃g:Nat,u=.pointer (some ⟨g,0,none⟩)∧bi<g∧Blk w' g 176 (zah b.stakes b.ents.length j b.ents.length).toArray:=⟨_,rfl⟩
   have H14:=Lib.hid hV14;have H16:=Lib.hid hV16;clear hV14 hV16;refine zms (fun g=>g=bi) (fun c=>∃i:Nat,i<8∧c=⟨bi,i,none⟩) [] 22 [(14,.inr V14),(16,.inr V16),(17,.inr fun _ _=>True),(21,.inr fun _ _=>True)] [(21,0)] 1 J (by kernel_rfl) rfl (by kernel_rfl) (by kernel_rfl) rfl (fun d _ _ _ _ h=>by cases d<;>exact h) ⟨?_,?_,fun _ _ _ _ _=>trivial,fun _ _ _ _ _=>trivial,trivial⟩ (by rw[HJ.out];exact hB.keep (Tch.drew (fun _=>False) wr) id) (fun s w1 w2 ht hj=>?_) ?_
   ·rw[H14.out];exact fun _ _ _ hr ⟨g,h1,h2,h3⟩=>⟨g,h1,h2,h3.keep hr.1 (by omega)⟩
   ·rw[H16.out];exact fun _ _ _ hr ⟨g,h1,h2,h3⟩=>⟨g,h1,h2,h3.keep hr.1 (by omega)⟩
   ·rw[HJ.out]at hj⊢;dsimp only at hj⊢
    split
    ·rename_i h0;rw[if_pos h0]at hj;exact hj.keep ht id
    ·rename_i h0;rw[if_neg h0]at hj;obtain⟨g,h1,h2,h3⟩:=hj;exact⟨g,h1,h2.keep ht id,h3.keep ht id⟩
   intro bef ops hbef hops;have hb16:(bef.getD 16 0).testBit 14=true:=by rw[hbef];kernel_rfl
   have hb17:(bef.getD 17 0).testBit 14=true:=by rw[hbef];kernel_rfl
   have hb21:(bef.getD 21 0).testBit 16=true:=by rw[hbef];kernel_rfl
   clear hbef;subst hops;simp only[List.take_succ_cons,List.take_zero,List.drop_succ_cons,List.drop_zero];iterate 14 (refine k_det (by rfl) (by rfl) (by rfl) (by rfl) (fun K hK=>?_);go_big_quiet_op;(first|refine hK _ ?_|refine⟨_,fun _=>rfl,hK _ ?_⟩);clear hK K;(try simp only[Act.put,List.setIfInBounds_toArray,List.set_cons_succ,List.set_cons_zero]))
   refine zrx (by rfl) (by rfl) (by rfl) (fun w2 hr hf=>?_) (fun v14=>?_)
   ·have t2r:=(Tch.drew (fun g=>g=bi) wr).trans hr.1;have tq:=t3r.trans' t2r (fun i hi=>.inr (by have hi:i=bi:=hi;have:=HBI.out;omega));refine zaa (d:=52) rfl (by simp) (fun K hK=>?_);go_step;refine(HST.out w2 tq).mono ?_;rintro _ w7 ⟨g,rfl,hg1,hg2,t7⟩;refine hK _ _ ⟨?_,t7⟩;rw[H14.out];exact⟨g,rfl,by have:=t2r.size;have:=ht.size;have:=HS6.out;omega,hg2⟩
   simp only[zaw];iterate 1 (refine k_det (by rfl) (by rfl) (by rfl) (by rfl) (fun K hK=>?_);go_big_quiet_op;(first|refine hK _ ?_|refine⟨_,fun _=>rfl,hK _ ?_⟩);clear hK K;(try simp only[Act.put,List.setIfInBounds_toArray,List.set_cons_succ,List.set_cons_zero]))
   refine zrx (by rfl) (by rfl) (by rfl) (fun w2 hr hf=>?_) (fun v16=>?_)
   ·have hv:=hf (14,V14 v14) (List.mem_singleton.2 rfl) hb16;simp only at hv;rw[H14.out]at hv;obtain⟨g,rfl,hg1,hg2⟩:=hv;refine zaa (d:=53) rfl (by simp) (fun K hK=>?_);go_step;refine hK _ _ ⟨?_,Tch.refl _ _⟩;rw[H16.out];exact⟨g,rfl,hg1,hg2⟩
   simp only[zaw];refine zrx (by rfl) (by rfl) (by rfl) (fun w2 hr hf=>?_) (fun v17=>?_)
   ·have hv:=hf (14,V14 v14) (List.mem_cons_of_mem _ (List.mem_singleton.2 rfl)) hb17;simp only at hv;rw[H14.out]at hv;obtain⟨g,rfl,hg1,hg2⟩:=hv;refine zaa (d:=54) rfl (by simp) (fun K hK=>?_);go_step;exact hK _ _ ⟨trivial,Tch.refl _ _⟩
   simp only[zaw];iterate 3 (refine k_det (by rfl) (by rfl) (by rfl) (by rfl) (fun K hK=>?_);go_big_quiet_op;(first|refine hK _ ?_|refine⟨_,fun _=>rfl,hK _ ?_⟩);clear hK K;(try simp only[Act.put,List.setIfInBounds_toArray,List.set_cons_succ,List.set_cons_zero]))
   refine k_eff 0 (by rfl) (by rfl) (by rfl) (fun w2 hr hj hf=>?_) (fun _=>?_)
   ·have hv:=hf (16,V16 v16) (List.mem_cons_of_mem _ (List.mem_cons_self ..)) hb21;simp only at hv;rw[H16.out]at hv;obtain⟨g,rfl,hg1,hg2⟩:=hv;rw[HJ.out]at hj;have hj':Blk w2 bi 134 (zh9 (.pointer (some ⟨t,0,none⟩)) (.slice Ae' b.ents.length ce') (.slice Aa' b.accs.length ca') (.slice As' b.stakes.length cs') (.slice Ar' b.rates.length cr') (.slice Al' b.locks.length cl') (.slice An' us'.length cn') (.slice U (zag b.accs).length cu) fs).toArray:=hj;have c0:=hj'.cell (8+j);have f0:=hj'.frozen (8+j)
    obtain⟨old,hold⟩:∃x,fs[j]?=some x:=⟨_,List.getElem?_eq_getElem (by rw[HFL.out];exact hlt)⟩
    rw[List.getElem?_toArray,seenL_at,hold]at c0;have hs:=hj'.set_ (8+j) (.pointer (some ⟨g,0,none⟩));rw[List.setIfInBounds_toArray,zwt]at hs;have hts:=Tch.setCell (F:=fun g=>g=bi) w2 (p:=⟨bi,8+j,none⟩) (.inl rfl) (.pointer (some ⟨g,0,none⟩));have HS:=Lib.hid hs;have HJ':=Lib.hid hj';clear hold hs hj hj' hf;refine ziz (fun K hK=>?_);go_step;refine hK _ ⟨⟨hts,?_⟩,?_⟩
    ·rintro c u ⟨i,hi,rfl⟩ hu;rw[HS.out.cell i,←hu,HJ'.out.cell i,List.getElem?_toArray,List.getElem?_toArray];exact zws hi
    ·rw[HJ.out];exact⟨g,hg1,hg2.far (by simp;omega) _,HS.out⟩
   simp only[Act.put];refine k_nil ?_;intro w2 hr hj _;rw[HJ.out]at hj;obtain⟨g,hg1,hg2,hg3⟩:=hj;have tr:=(Tch.drew (fun g=>g=bi) wr).trans hr.1;clear hr y3 y1;go_wp2;go_roundw
   case rel=>
    refine⟨j+1,fs.set j (.pointer (some ⟨g,0,none⟩)),by omega,by go_num,by rw[List.length_set,HFL.out],fun p hp=>?_,hg3,ht.trans tr⟩;by_cases hpj:p=j
    ·subst hpj;exact⟨g,by rw[List.getElem?_set_self (by rw[HFL.out];exact hlt)],hg1,hg2⟩
    ·obtain⟨g',h1,h2,h3⟩:=hF p (by omega);exact⟨g',by rw[List.getElem?_set_ne (by omega)];exact h1,h2,h3.keep tr (by omega)⟩
   case measure=>simp[intOf];omega
  ·obtain rfl:j=24:=by omega
   have t3r:=HT6.out.trans' ht (fun i hi=>.inr (by have hi:i=bi:=hi;have:=HBI.out;omega));have tb:=tal wr (.cells #[.pointer (some ⟨bi,0,none⟩)] 139);have bV:=Blk.new wr 139 #[.pointer (some ⟨bi,0,none⟩)];have h6:=(h3.keep t3r).keep tb;have hT6:=(hT.keep t3r (fun _ _ h=>h.elim)).keep tb (fun _ _ h=>h.elim);have hLV:=((HLV.out).keepTo (P':=fun g=>bi<g) ht (fun g _ hg=>⟨by intro he;have he:g=bi:=he;omega,hg⟩)).keep tb;have hN6:=((HN3.out).keep t3r).keep tb;have hf4:=HFT.out;have hf5:=HBI.out;have hwr:w.heap.size≤wr.heap.size:=by have:=(hw3.trans t3r).size;exact this
   have hzz:=HZW.out;go_wp2;go_ret2
   refine⟨.inr ⟨HOK.out,_,bi,B,t,mr,mp,_,_,_,_,_,_,_,fs,us',rfl,⟨bV,hB.keep tb id,hT6,h6,hLV.weak (fun _ _=>trivial),HFL.out,fun p hp=>by
    obtain⟨g,h1,h2,h3⟩:=hF p hp
    exact⟨g,h1,h3.keep tb id⟩⟩,⟨⟨hwr,by omega,by omega,by omega,by omega⟩,fun p g hp=>?_,hLV.weak (fun g hg=>by omega),?_⟩⟩,(hw3.trans t3r).trans tb⟩
   ·by_cases hp24:p<24
    ·obtain⟨g',h1,h2,_⟩:=hF p hp24;rw[h1]at hp;injection hp with hp;injection hp with hp;injection hp with hp;injection hp with hp;omega
    ·rw[List.getElem?_eq_none (by rw[HFL.out];omega)]at hp;cases hp
   ·rw[hzz];exact hN6
theorem zwu {w:World} {e a s r l n:Value} {b:Bks} {us:List (Ent×Value)} (h:BksAt w e a s r l n b us) (hfw:BksFew b) (h64:Bks64 b):
 Calls Tryz.prog 13 #[.agg #[e,a,s,r,l,n]] w (SeeOk b w):=(z5d h hfw h64).mono fun _ _ h=>h.ok
