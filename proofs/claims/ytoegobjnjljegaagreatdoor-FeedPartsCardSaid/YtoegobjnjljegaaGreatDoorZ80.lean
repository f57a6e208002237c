/-
  Plain: the values of all cells, by their recipes. No program in sight.
-/
import Derived.Test.YtoegobjnjljegaaGreatDoorRk
import Derived.Test.YtoegobjnjljegaaGreatDoorZ77
import Derived.Test.YtoegobjnjljegaaGreatDoorZ50
namespace Go.Gk.V38
open Go.RowKit Go.Gk.V33 Go.Gk.V37
theorem z0s {r:Rcp} {k:Rt6} (h:k∈zyk r):k∈zys r:=(z1j _).1 h
theorem zz8 {b:Bks} {c:Rt6}:(zfg b c).2=za3 c b.ents.length b.accs.length:=by
 unfold zfg;by_cases h:za3 c b.ents.length b.accs.length=0
 ·rw[if_pos h,h];split
  ·exact zxc h (by assumption)
  ·rfl
 ·rw[if_neg h]
def valN (b:Bks):Nat→Rt6→Vl
 |0,_=>(0,0)
 |n+1,c=>if(zfg b c).2≠0 then(0,(zfg b c).2)else zzv (zfg b c).1 ((zyk (zfg b c).1).map (valN b n))
def zyq (b:Bks) (c:Rt6):Vl:=valN b (zzj b c+1) c
end Go.Gk.V38
namespace Go.Gk
open Go.RowKit
end Go.Gk
namespace Go.Gk.V38
open Go.RowKit Go.Gk.V32 Go.Gk.V33 Go.Gk.V37
theorem z3x (l:List Acc):(zag l).length≤l.length:=by
 unfold zag;exact Nat.le_trans (List.length_filter_le _ _) (by rw[za5];omega)
theorem z1l {b:Bks} (hok:zba b=true) (hpo:(zay b.entries).length≤3000) (c:Rt6):(zfg b c).1.plus.length+(zfg b c).1.minus.length≤5000:=by
 have h60:=(z2q hok).1;have hl:=z3x b.accs;have hn:Rcp.none.plus.length+Rcp.none.minus.length≤5000:=by decide
 unfold zfg;split
 ·split
  ·unfold zcz;split
   ·unfold zcr;split
    ·simp only;split
     ·exact hn
     ·simp only[Rcp.none,List.length_nil];unfold zbo;split<;>simp
    ·exact hn
   ·split
    ·unfold zd1;split
     ·unfold zcp;simp only;split
      ·split
       ·exact hn
       ·simp only[Rcp.none,List.length_nil,List.length_map];have:=List.length_filter_le (fun a=>decide (a≠(1:Int))) (zag b.accs);omega
      ·split
       ·simp[Rcp.none]
       ·simp only[Rcp.none,List.length_nil];split<;>simp
     ·exact hn
    ·split
     ·unfold zcc;split
      ·unfold zc8;split
       ·simp
       ·split
        ·simp[Rcp.none]
        ·split<;>exact hn
      ·exact hn
     ·split
      ·exact elim_len hok hpo c
      ·unfold zfz;split
       ·have h1:(zgk b c.2.1 c.2.2.2.1).length≤40:=Nat.le_trans (Go.Gk.zi1 b _ _) (zec hok).1;have h2:=zni b
        have h3:(zd0 c (zgk b c.2.1 c.2.2.2.1) (zcn b)).length≤40*60:=by
         unfold zd0;rw[List.length_flatMap];simp only[List.length_map];rw[List.map_const',List.sum_replicate_nat];exact Nat.mul_le_mul h1 (by omega)
        simp only[Rcp.none,List.length_nil,zco,List.length_cons,List.length_append,List.length_map];split
        ·omega
        ·simp only[List.length_nil];omega
       ·exact hn
  ·have:=V37.zi1 b.accs c.2.2.1;simp only[zkh,Rcp.none,List.length_map,List.length_nil];omega
 ·exact hn
end Go.Gk.V38
namespace Go.Gk
open Go.RowKit
theorem al2 (w:World) (A B:Array Value) (a b:TypeId):∃W,(w.alloc (.cells A a)).alloc (.cells B b)=W∧Tf w W∧Blk W w.heap.size a A∧Blk W (w.heap.size+1) b B:=
 ⟨_,rfl,(tal _ _).trans (tal _ _),(Blk.new w a A).keep (tal _ _) id,Blk.new2 w _ b B⟩
end Go.Gk
namespace Go.Gk.V38
open Go.RowKit
theorem Row.offmap {P:Nat→Prop} {w:World} {v:Value} {n size:Nat} {cs:List Value} (h:Row P w v n size cs) (hs:0<size) {mb:Nat} (hm:∃es c,w.heap[mb]?=some (.map es c)):Row (fun g=>g≠mb) w v n size cs:=by
 obtain⟨A,c,rfl,h1,h2,h3,h4,h5⟩:=h;refine⟨A,c,rfl,h1,h2,h3,h4,fun hn=>?_⟩;obtain⟨g,o,ha,⟨_,hlt⟩,hc⟩:=h5 hn;refine⟨g,o,ha,⟨fun e=>?_,hlt⟩,hc⟩;subst e;have hl:0<cs.length:=by rw[h3];exact Nat.mul_pos hn hs
 have h6:=hc 0 _ (List.getElem?_eq_getElem hl);obtain⟨es,c',hm⟩:=hm;unfold World.cell? at h6;simp[hm]at h6
theorem RcpIs.over {w w1 w2:World} {v:Value} {r:Rcp} (h:RcpIs w v r) {mb y:Nat} (hm:∃es c,w.heap[mb]?=some (.map es c)) (hy:w.heap.size≤y) (t1:Tf w w1) (t2:Tch (fun g=>g=mb∨g=y) w1 w2):RcpIs w2 v r:=by
 obtain⟨p,m,rfl,h1,h2⟩:=h
 have go:∀{v:Value} {l:List Rt6},zae za2 6 (fun _=>True) w v l→zae za2 6 (fun _=>True) w2 v l:=fun h=>
  Row.keepTo (P':=fun _=>True) (Row.keepTo (P':=fun g=>g≠mb∧g≠y) (Row.offmap h (by decide) hm) t1 (fun g hg hp=>⟨id,hp,by omega⟩)) t2 (fun g _ hp=>⟨fun e=>by rcases e with e|e;exact hp.1 e;exact hp.2 e,trivial⟩)
 exact⟨p,m,rfl,go h1,go h2⟩
end Go.Gk.V38
namespace Go.Proofs.YtoegobjnjljegaaGreatDoor
open Go.RowKit Go.Gk Go.Gk.V33 Go.Gk.V37 Go.Gk.V38
structure Desk (b:Bks) (of:FuncId) (T1 T2 T3:TypeId) (w0 w:World) (bv kb vb ob mb:Nat):Prop where
 known:∃m:List (Rt6×Value),MapIs zcq w mb m∧∀k v,zar m k=some v→v=vlV (zyq b k)
 kbox:Blk w kb T1 #[.map (some mb)]
 vbox:Blk w vb T2 #[.pointer (some ⟨bv,0,none⟩)]
 obox:Blk w ob T3 #[.func (.func of) #[] #[.pointer (some ⟨kb,0,none⟩),.pointer (some ⟨vb,0,none⟩),.pointer (some ⟨ob,0,none⟩)]]
 tch:Tf w0 w
 base:w0.heap.size≤mb
section
variable {b:Bks} {of:FuncId} {T1 T2 T3:TypeId} {w0 w w':World} {bv kb vb ob mb:Nat}
theorem Desk.lt (h:Desk b of T1 T2 T3 w0 w bv kb vb ob mb):mb<w.heap.size∧kb<w.heap.size∧vb<w.heap.size∧ob<w.heap.size:=let⟨_,h1,_⟩:=h.known;⟨h1.lt,h.kbox.lt,h.vbox.lt,h.obox.lt⟩
theorem Desk.apart (h:Desk b of T1 T2 T3 w0 w bv kb vb ob mb):kb≠mb∧vb≠mb∧ob≠mb:=by
 obtain⟨_,⟨es,c,h1,_⟩,_⟩:=h.known
 have hx:∀{g:Nat} {T:TypeId} {cs:Array Value},Blk w g T cs→g≠mb:=fun{g T cs} hb e=>by
  subst e;unfold Blk at hb;rw[hb]at h1
  cases h1
 exact⟨hx h.kbox,hx h.vbox,hx h.obox⟩
theorem Desk.keep (h:Desk b of T1 T2 T3 w0 w bv kb vb ob mb) {F:Nat→Prop} (t:Tch F w w') (hF:∀i,F i→w0.heap.size≤i∧i≠mb∧i≠kb∧i≠vb∧i≠ob):Desk b of T1 T2 T3 w0 w' bv kb vb ob mb:=
 let⟨m,h1,h2⟩:=h.known
 ⟨⟨m,h1.keep t (fun hf=>(hF _ hf).2.1 rfl),h2⟩,h.kbox.keep t (fun hf=>(hF _ hf).2.2.1 rfl),h.vbox.keep t (fun hf=>(hF _ hf).2.2.2.1 rfl),h.obox.keep t (fun hf=>(hF _ hf).2.2.2.2 rfl),h.tch.trans' t (fun i hi=>.inr (hF i hi).1),h.base⟩
theorem Desk.put (h:Desk b of T1 T2 T3 w0 w bv kb vb ob mb) (t:Tch (fun g=>g=mb) w w') {m:List (Rt6×Value)} (h1:MapIs zcq w' mb m) (h2:∀k v,zar m k=some v→v=vlV (zyq b k)):Desk b of T1 T2 T3 w0 w' bv kb vb ob mb:=
 have hn:=h.apart
 ⟨⟨m,h1,h2⟩,h.kbox.keep t hn.1,h.vbox.keep t hn.2.1,h.obox.keep t hn.2.2,h.tch.trans' t (fun i hi=>.inr (by have hi:i=mb:=hi;have:=h.base;omega)),h.base⟩
end
section
variable {w0:World} {bv bi B t mr mp:Nat} {e a s r l n lv:Value} {fs:List Value} {b:Bks} {us:List (Ent×Value)}
end
end Go.Proofs.YtoegobjnjljegaaGreatDoor
namespace Go.Gk
open Go.RowKit
theorem stP {P:Program} {ops:Array Oper} {rest:List Oper} {op:Oper} {a:Act} {w:World} {Q:Exit→Act→World→Prop} (b o:Nat) (u v:Value) {t:TypeId} {cs:Array Value} (hb:Blk w b t cs) (h:Hid (∀W,Blk W b t ((cs.setIfInBounds o u).setIfInBounds (o+1) v)→Tch (fun g=>g=b) w W→wpList P ops Q rest (a.put op.dst undef) W)) {ty:TypeId} {x y:Operand} (ho:op.op=.store ty x y:=by rfl) (hgd:op.guard=none:=by rfl)
 (hx:a.eval x=.pointer (some ⟨b,o,none⟩):=by rfl) (hy:a.eval y=.agg #[u,v]:=by rfl) (hi:(P.info? ty).map (·.size)=some 2:=by kernel_rfl) (h1:u.oneCell'=true:=by rfl) (h2:v.oneCell'=true:=by rfl) (hlt:o+1<cs.size:=by simp):wpList P ops Q (op::rest) a w:=by
 refine wpList_store_mid hgd ty x y ho b o #[u,v] hx hy (fun j hj=>⟨?_,hb.frozen _⟩) hi (by simp[h1,h2]) ?_
 ·have hj2:j<2:=hj;have hc:=hb.cell (o+j);rw[Array.getElem?_eq_getElem (by omega)]at hc;rw[hc];rfl
 ·exact h.out _ ((hb.set_ o u).set_ (o+1) v) ((Tch.setCell (F:=fun g=>g=b) w (p:=⟨b,o,none⟩) (.inl rfl) u).trans (Tch.setCell (F:=fun g=>g=b) _ (p:=⟨b,o+1,none⟩) (.inl rfl) v))
