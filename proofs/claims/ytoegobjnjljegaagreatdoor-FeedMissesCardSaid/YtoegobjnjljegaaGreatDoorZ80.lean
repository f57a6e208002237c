/-
  Plain: the values of all cells, by their recipes. No program in sight.
-/
import Derived.Test.YtoegobjnjljegaaGreatDoorRk
import Derived.Test.YtoegobjnjljegaaGreatDoorZ77
import Derived.Test.YtoegobjnjljegaaGreatDoorZ50
set_option maxRecDepth 100000
set_option maxHeartbeats 25600000
namespace Go.Gk.V38
open Go.RowKit Go.Gk.V33 Go.Gk.V37
theorem z0s {r:Rcp} {k:Rt6} (h:k∈zyk r):k∈zys r:=(z1j _).1 h
theorem zz8 {b:Bks} {c:Rt6}:(zfg b c).2=za3 c b.ents.length b.accs.length:=by
 unfold zfg;by_cases h:za3 c b.ents.length b.accs.length=0
 ·rw[if_pos h,h];split
  ·exact zxc h (by assumption)
  ·rfl
 ·rw[if_neg h]
def valN (b:Bks):Nat→Rt6→Vl
 |0,_=>(0,0)
 |n+1,c=>if(zfg b c).2≠0 then(0,(zfg b c).2)else zzv (zfg b c).1 ((zyk (zfg b c).1).map (valN b n))
theorem z0t {b:Bks} (hok:zba b=true):∀(n m:Nat) (c:Rt6),zzj b c<n→zzj b c<m→valN b n c=valN b m c
 |0,_,_,h,_=>by omega
 |_+1,0,_,_,h=>by omega
 |n+1,m+1,c,h1,h2=>by
  unfold valN;by_cases he:(zfg b c).2≠0
  ·rw[if_pos he,if_pos he]
  ·rw[if_neg he,if_neg he];congr 1;refine List.map_congr_left fun k hk=>?_
   have hc:za3 c b.ents.length b.accs.length=0:=by rw[←zz8];simpa using he
   have:=(zz9 hok hc (z0s hk)).2;exact z0t hok n m k (by omega) (by omega)
def zyq (b:Bks) (c:Rt6):Vl:=valN b (zzj b c+1) c
theorem val_at {b:Bks} (hok:zba b=true) {n:Nat} {c:Rt6} (h:zzj b c<n):valN b n c=zyq b c:=z0t hok _ _ _ h (Nat.lt_succ_self _)
theorem z4y {b:Bks} {c:Rt6} (h:za3 c b.ents.length b.accs.length≠0):zyq b c=(0,za3 c b.ents.length b.accs.length):=by
 unfold zyq valN;rw[zz8,if_pos h]
theorem z4z {b:Bks} (hok:zba b=true) {c:Rt6} (h:za3 c b.ents.length b.accs.length=0):zyq b c=zzv (zfg b c).1 ((zyk (zfg b c).1).map (zyq b)):=by
 unfold zyq;rw[valN,zz8,if_neg (by simpa using h)];congr 1;refine List.map_congr_left fun k hk=>?_
 exact val_at hok (zz9 hok h (z0s hk)).2
end Go.Gk.V38
namespace Go.Gk
open Go.RowKit
theorem share_bd {l:List zbv} {n:Int} (h:zan l n=true) (e p:Int):0≤zbb l e p∧zbb l e p≤10000∧(zam l e p=0→zbb l e p=10000):=by
 unfold zbb zam
 cases ha:zdc l e p with
 |none=>exact⟨by decide,by decide,fun _=>rfl⟩
 |some s=>
  rcases zp7 l none s ha with h1|h1
  ·obtain⟨i,hi,rfl⟩:=List.getElem_of_mem h1;have h2:=(zjq h hi).1;unfold zf2 at h2;simp only[Bool.and_eq_true,decide_eq_true_eq,Bool.not_eq_true',Bool.and_eq_false_iff,beq_eq_false_iff_ne,bne_eq_false_iff_eq]at h2;simp only[Option.map_some,Option.getD_some];obtain⟨⟨_,⟨⟨a1,a2⟩,a3⟩⟩,_⟩:=h2;exact⟨a1,a2,fun h0=>a3.elim (fun h3=>absurd h0 h3) id⟩
  ·cases h1
theorem z99 {b:Bks} (h:zan b.stakes b.ents.length=true) (c:Rt6):0≤zcg b c∧zcg b c≤10000:=by
 unfold zcg z5c;have:=share_bd h c.2.1 c.2.2.2.1;split
 ·split
  ·exact⟨this.1,this.2.1⟩
  ·decide
 ·decide
end Go.Gk
namespace Go.Gk.V38
open Go.RowKit Go.Gk.V32 Go.Gk.V33 Go.Gk.V37
theorem zz1 {b:Bks} (hok:zba b=true) {c:Rt6} (h:za3 c b.ents.length b.accs.length=0):
 zyq b c=zy4 ((zfg b c).1.base::((zfg b c).1.plus.map (zyq b)++(if(zfg b c).1.rated then[zyn (zyq b (zfg b c).1.scaled) (zfg b c).1.ratio (zfg b c).1.has]else[]))) ((zfg b c).1.minus.map (zyq b)):=by
 rw[z4z hok h,z0f]
theorem z40 {b:Bks} (hok:zba b=true) (c:Rt6):zz0 (zyq b c):=by
 by_cases h:za3 c b.ents.length b.accs.length=0
 ·rw[zz1 hok h];exact z8k _ _
 ·rw[z4y h];simp[zz0,I64]
theorem z1a {b:Bks} (hok:zba b=true) (c:Rt6):z2o (zfg b c).1.base∧zz0 (zfg b c).1.base∧((zfg b c).1.rated=true→(zfg b c).1.has=true→zb7 (zfg b c).1.ratio=true):=by
 have h0:z2o (0,0)∧zz0 (0,0):=⟨.inl rfl,by simp[zz0,I64]⟩
 have hn:z2o Rcp.none.base∧zz0 Rcp.none.base∧(Rcp.none.rated=true→Rcp.none.has=true→zb7 Rcp.none.ratio=true):=⟨h0.1,h0.2,fun h=>by cases h⟩
 unfold zfg;split
 ·split
  ·unfold zcz;split
   ·unfold zcr;split
    ·simp only;split
     ·exact⟨z0w _,z1k _,fun h=>by cases h⟩
     ·exact⟨h0.1,h0.2,fun h=>by cases h⟩
    ·exact hn
   ·split
    ·unfold zd1;split
     ·unfold zcp;simp only;split
      ·split
       ·exact hn
       ·exact⟨h0.1,h0.2,fun h=>by cases h⟩
      ·split
       ·exact⟨h0.1,h0.2,fun h=>by cases h⟩
       ·exact⟨h0.1,h0.2,fun _ h=>rate_ok (z2r hok) h⟩
     ·exact hn
    ·split
     ·unfold zcc;split
      ·unfold zc8;split
       ·exact⟨h0.1,h0.2,fun h=>by cases h⟩
       ·split
        ·exact⟨h0.1,h0.2,fun h=>by cases h⟩
        ·split
         ·rename_i hs
          have h1:=(z99 (zec hok).2.2 c).2;exact⟨h0.1,h0.2,fun _ _=>zbp.2 ⟨show 1≤zcg b c by omega,show(1:Int)≤10000 by decide,show zcg b c≤1000000000000 by omega,show(10000:Int)≤1000000000000 by decide⟩⟩
         ·exact hn
      ·exact hn
     ·split
      ·unfold zcf;split
       ·exact⟨h0.1,h0.2,fun h=>by cases h⟩
       ·exact hn
      ·unfold zfz;split
       ·exact⟨h0.1,h0.2,fun h=>by cases h⟩
       ·exact hn
  ·exact⟨h0.1,h0.2,fun h=>by cases h⟩
 ·exact hn
theorem z3x (l:List Acc):(zag l).length≤l.length:=by
 unfold zag;exact Nat.le_trans (List.length_filter_le _ _) (by rw[za5];omega)
theorem z1l {b:Bks} (hok:zba b=true) (hpo:(zay b.entries).length≤3000) (c:Rt6):(zfg b c).1.plus.length+(zfg b c).1.minus.length≤5000:=by
 have h60:=(z2q hok).1;have hl:=z3x b.accs;have hn:Rcp.none.plus.length+Rcp.none.minus.length≤5000:=by decide
 unfold zfg;split
 ·split
  ·unfold zcz;split
   ·unfold zcr;split
    ·simp only;split
     ·exact hn
     ·simp only[Rcp.none,List.length_nil];unfold zbo;split<;>simp
    ·exact hn
   ·split
    ·unfold zd1;split
     ·unfold zcp;simp only;split
      ·split
       ·exact hn
       ·simp only[Rcp.none,List.length_nil,List.length_map];have:=List.length_filter_le (fun a=>decide (a≠(1:Int))) (zag b.accs);omega
      ·split
       ·simp[Rcp.none]
       ·simp only[Rcp.none,List.length_nil];split<;>simp
     ·exact hn
    ·split
     ·unfold zcc;split
      ·unfold zc8;split
       ·simp
       ·split
        ·simp[Rcp.none]
        ·split<;>exact hn
      ·exact hn
     ·split
      ·exact elim_len hok hpo c
      ·unfold zfz;split
       ·have h1:(zgk b c.2.1 c.2.2.2.1).length≤40:=Nat.le_trans (Go.Gk.zi1 b _ _) (zec hok).1;have h2:=zni b
        have h3:(zd0 c (zgk b c.2.1 c.2.2.2.1) (zcn b)).length≤40*60:=by
         unfold zd0;rw[List.length_flatMap];simp only[List.length_map];rw[List.map_const',List.sum_replicate_nat];exact Nat.mul_le_mul h1 (by omega)
        simp only[Rcp.none,List.length_nil,zco,List.length_cons,List.length_append,List.length_map];split
        ·omega
        ·simp only[List.length_nil];omega
       ·exact hn
  ·have:=V37.zi1 b.accs c.2.2.1;simp only[zkh,Rcp.none,List.length_map,List.length_nil];omega
 ·exact hn
end Go.Gk.V38
namespace Go.Gk
open Go.RowKit
theorem al2 (w:World) (A B:Array Value) (a b:TypeId):∃W,(w.alloc (.cells A a)).alloc (.cells B b)=W∧Tf w W∧Blk W w.heap.size a A∧Blk W (w.heap.size+1) b B:=
 ⟨_,rfl,(tal _ _).trans (tal _ _),(Blk.new w a A).keep (tal _ _) id,Blk.new2 w _ b B⟩
theorem al3 (w:World) (A B C:Array Value) (a b c:TypeId):∃W,((w.alloc (.cells A a)).alloc (.cells B b)).alloc (.cells C c)=W∧Tf w W∧Blk W w.heap.size a A∧Blk W (w.heap.size+1) b B∧Blk W (w.heap.size+2) c C:=by
 obtain⟨W,rfl,t,h1,h2⟩:=al2 w A B a b;have hs:((w.alloc (.cells A a)).alloc (.cells B b)).heap.size=w.heap.size+2:=by simp
 exact⟨_,rfl,t.trans (tal _ _),h1.keep (tal _ _) id,h2.keep (tal _ _) id,hs▸Blk.new _ c C⟩
end Go.Gk
namespace Go.Gk.V38
open Go.RowKit
theorem Row.offmap {P:Nat→Prop} {w:World} {v:Value} {n size:Nat} {cs:List Value} (h:Row P w v n size cs) (hs:0<size) {mb:Nat} (hm:∃es c,w.heap[mb]?=some (.map es c)):Row (fun g=>g≠mb) w v n size cs:=by
 obtain⟨A,c,rfl,h1,h2,h3,h4,h5⟩:=h;refine⟨A,c,rfl,h1,h2,h3,h4,fun hn=>?_⟩;obtain⟨g,o,ha,⟨_,hlt⟩,hc⟩:=h5 hn;refine⟨g,o,ha,⟨fun e=>?_,hlt⟩,hc⟩;subst e;have hl:0<cs.length:=by rw[h3];exact Nat.mul_pos hn hs
 have h6:=hc 0 _ (List.getElem?_eq_getElem hl);obtain⟨es,c',hm⟩:=hm;unfold World.cell? at h6;simp[hm]at h6
theorem RcpIs.over {w w1 w2:World} {v:Value} {r:Rcp} (h:RcpIs w v r) {mb y:Nat} (hm:∃es c,w.heap[mb]?=some (.map es c)) (hy:w.heap.size≤y) (t1:Tf w w1) (t2:Tch (fun g=>g=mb∨g=y) w1 w2):RcpIs w2 v r:=by
 obtain⟨p,m,rfl,h1,h2⟩:=h
 have go:∀{v:Value} {l:List Rt6},zae za2 6 (fun _=>True) w v l→zae za2 6 (fun _=>True) w2 v l:=fun h=>
  Row.keepTo (P':=fun _=>True) (Row.keepTo (P':=fun g=>g≠mb∧g≠y) (Row.offmap h (by decide) hm) t1 (fun g hg hp=>⟨id,hp,by omega⟩)) t2 (fun g _ hp=>⟨fun e=>by rcases e with e|e;exact hp.1 e;exact hp.2 e,trivial⟩)
 exact⟨p,m,rfl,go h1,go h2⟩
end Go.Gk.V38
namespace Go.Proofs.YtoegobjnjljegaaGreatDoor
open Go.RowKit Go.Gk Go.Gk.V33 Go.Gk.V37 Go.Gk.V38
structure Desk (b:Bks) (of:FuncId) (T1 T2 T3:TypeId) (w0 w:World) (bv kb vb ob mb:Nat):Prop where
 known:∃m:List (Rt6×Value),MapIs zcq w mb m∧∀k v,zar m k=some v→v=vlV (zyq b k)
 kbox:Blk w kb T1 #[.map (some mb)]
 vbox:Blk w vb T2 #[.pointer (some ⟨bv,0,none⟩)]
 obox:Blk w ob T3 #[.func (.func of) #[] #[.pointer (some ⟨kb,0,none⟩),.pointer (some ⟨vb,0,none⟩),.pointer (some ⟨ob,0,none⟩)]]
 tch:Tf w0 w
 base:w0.heap.size≤mb
section
variable {b:Bks} {of:FuncId} {T1 T2 T3:TypeId} {w0 w w':World} {bv kb vb ob mb:Nat}
theorem Desk.lt (h:Desk b of T1 T2 T3 w0 w bv kb vb ob mb):mb<w.heap.size∧kb<w.heap.size∧vb<w.heap.size∧ob<w.heap.size:=let⟨_,h1,_⟩:=h.known;⟨h1.lt,h.kbox.lt,h.vbox.lt,h.obox.lt⟩
theorem Desk.ismap (h:Desk b of T1 T2 T3 w0 w bv kb vb ob mb):∃es c,w.heap[mb]?=some (.map es c):=let⟨_,⟨es,c,h1,_⟩,_⟩:=h.known;⟨es,c,h1⟩
theorem Desk.apart (h:Desk b of T1 T2 T3 w0 w bv kb vb ob mb):kb≠mb∧vb≠mb∧ob≠mb:=by
 obtain⟨_,⟨es,c,h1,_⟩,_⟩:=h.known
 have hx:∀{g:Nat} {T:TypeId} {cs:Array Value},Blk w g T cs→g≠mb:=fun{g T cs} hb e=>by
  subst e;unfold Blk at hb;rw[hb]at h1
  cases h1
 exact⟨hx h.kbox,hx h.vbox,hx h.obox⟩
theorem Desk.keep (h:Desk b of T1 T2 T3 w0 w bv kb vb ob mb) {F:Nat→Prop} (t:Tch F w w') (hF:∀i,F i→w0.heap.size≤i∧i≠mb∧i≠kb∧i≠vb∧i≠ob):Desk b of T1 T2 T3 w0 w' bv kb vb ob mb:=
 let⟨m,h1,h2⟩:=h.known
 ⟨⟨m,h1.keep t (fun hf=>(hF _ hf).2.1 rfl),h2⟩,h.kbox.keep t (fun hf=>(hF _ hf).2.2.1 rfl),h.vbox.keep t (fun hf=>(hF _ hf).2.2.2.1 rfl),h.obox.keep t (fun hf=>(hF _ hf).2.2.2.2 rfl),h.tch.trans' t (fun i hi=>.inr (hF i hi).1),h.base⟩
theorem Desk.put (h:Desk b of T1 T2 T3 w0 w bv kb vb ob mb) (t:Tch (fun g=>g=mb) w w') {m:List (Rt6×Value)} (h1:MapIs zcq w' mb m) (h2:∀k v,zar m k=some v→v=vlV (zyq b k)):Desk b of T1 T2 T3 w0 w' bv kb vb ob mb:=
 have hn:=h.apart
 ⟨⟨m,h1,h2⟩,h.kbox.keep t hn.1,h.vbox.keep t hn.2.1,h.obox.keep t hn.2.2,h.tch.trans' t (fun i hi=>.inr (by have hi:i=mb:=hi;have:=h.base;omega)),h.base⟩
end
section
variable {w0:World} {bv bi B t mr mp:Nat} {e a s r l n lv:Value} {fs:List Value} {b:Bks} {us:List (Ent×Value)}
abbrev Dsk (b:Bks) (w0 w:World) (bv kb vb ob mb:Nat):Prop:=Desk b 109 193 34 194 w0 w bv kb vb ob mb
theorem of38_any (h0:Vw w0 bv bi B t mr mp e a s r l n lv fs b us) (F:RuleFacts b) (hpl:(zay b.entries).length≤3000) (hT:Tab64 0 w0) (kb vb ob mb:Nat):∀(d:Nat) (w:World) (c1 c2 c3 c4 c5 c6:Int),zzj b (c1,c2,c3,c4,c5,c6)<d→Dsk b w0 w bv kb vb ob mb→
 Calls Tryz.prog 109 #[.agg #[iV c1,iV c2,iV c3,iV c4,iV c5,iV c6],.pointer (some ⟨kb,0,none⟩),.pointer (some ⟨vb,0,none⟩),.pointer (some ⟨ob,0,none⟩)] w fun y w'=>y=.returned (vlV (zyq b (c1,c2,c3,c4,c5,c6)))∧Dsk b w0 w' bv kb vb ob mb∧Tch (fun g=>g=mb) w w':=by
 intro d;induction d with
 |zero=>intro w _ _ _ _ _ _ h;omega
 |succ d ih=>
  intro w c1 c2 c3 c4 c5 c6 hd hD;have HIH:=Lib.hid ih;clear ih;have HV:=Lib.hid (fun w' (t9:Tf w0 w')=>h0.keep t9);have HTT:=Lib.hid (fun w' (t9:Tf w0 w')=>hT.keep t9);have hlt0:=hD.lt;have hapart:=hD.apart;obtain⟨W,hW,tw,bC,bO⟩:=al2 w #[iV c1,iV c2,iV c3,iV c4,iV c5,iV c6] #[iV 0,iV 0] 31 41;have hD1:=hD.keep tw (fun _ h=>h.elim);obtain⟨m,hm,hs⟩:=hD1.known;have n0:=hD1.kbox.at0;have HM:=Lib.hid hm;have HS:=Lib.hid (hs (c1,c2,c3,c4,c5,c6));have HVE:=Lib.hid (z4y (b:=b) (c:=(c1,c2,c3,c4,c5,c6)));have HVI:=Lib.hid (z4z F.hok (c:=(c1,c2,c3,c4,c5,c6)));have HRD:=Lib.hid (fun hc k hk=>zz9 F.hok (c:=(c1,c2,c3,c4,c5,c6)) hc (k:=k) (z0s hk));have HRE:=Lib.hid (zz8 (b:=b) (c:=(c1,c2,c3,c4,c5,c6)));have HRL:=Lib.hid (z1l F.hok hpl (c1,c2,c3,c4,c5,c6));have HRS:=Lib.hid (z1a F.hok (c1,c2,c3,c4,c5,c6)).2.1;have HV64:=Lib.hid (fun k=>z40 F.hok k);have HRK:=Lib.hid hd;have hfe:∀args w,(callFunc 109 args).run Tryz.prog w=.ok (.enter 109 args) w:=enters_of Tryz.func109 (by kernel_rfl) rfl;obtain⟨k0,k1,k2,k3,k4,k5⟩:=bC.f6;clear h0 hT hd hm hs;go_enter Tryz.func109,Tryz.ntmps109;go_wp2_with (refine zh6 rfl _ _ _ true rfl zym Tryz.underlying193 (z0b _) (k:=(c1,c2,c3,c4,c5,c6)) (by rfl) (by rfl) HM.out ?_;refine Hid.out ?_);refine Lib.hid ?_;generalize hzw:w.heap.size=z at *;have HZW:=Lib.hid hzw;clear hzw;rcases hfx:zar m (c1,c2,c3,c4,c5,c6)with _|v;rotate_left
  ·have hv:=HS.out v hfx;clear hfx HVE HVI HRD HRE HRL HRS HIH HRK;simp only[Option.getD_some,Option.isSome_some]
   obtain⟨⟨x1,x2⟩,hvx⟩:∃vx,zyq b (c1,c2,c3,c4,c5,c6)=vx:=⟨_,rfl⟩
   rw[hvx]at hv;have HVX:=Lib.hid hvx;subst hv;unfold vlV;simp only;have tX:=tal W (.cells #[iV x1,iV x2] 41);have bX:=Blk.new W 41 #[iV x1,iV x2];have bO1:=bO.keep tX id;obtain⟨x0,x3⟩:=bX.f2;clear bX hvx;go_wp2_with (refine stH (z+1) #[iV x1,iV x2] bO1 ?_);intro w9 HF HTF;clear bO1;go_wp2;(try simp only[exS]);refine zfe HF.out ?_;have tt:=((Exn.touch (F:=fun g=>g=mb) (tw.trans tX))).trans' HTF.out (fun i hi=>.inr (by have hi:i=z+1:=hi;have:=HZW.out;omega));rw[HVX.out];exact⟨rfl,(hD1.keep tX (fun _ h=>h.elim)).keep HTF.out (fun i hi=>by have hi:i=z+1:=hi;have h9:=HZW.out;have:=hD.tch.size;omega),tt⟩
  clear hfx;simp only[Option.getD_none,Option.isSome_none];unfold vlV;simp only;have tX:=tal W (.cells #[iV 0,iV 0] 41);have hD2:=hD1.keep tX (fun _ h=>h.elim);have bC2:=bC.keep tX id;have bO2:=bO.keep tX id;have t2:=tw.trans tX;have v0:=hD2.vbox.at0;have HREC:=Lib.hid (zga (HV.out _ hD2.tch) F (HTT.out _ hD2.tch) c1 c2 c3 c4 c5 c6);obtain⟨q0,q1,q2,q3,q4,q5⟩:=bC2.f6;clear k0 k1 k2 k3 k4 k5 bC bO tw hD1 HM HS n0;go_wp2_with fail;generalize W.alloc _=W2 at *;refine HREC.out.mono ?_;rintro _ w1 ⟨v1,rfl,hr1,t1⟩;clear HREC;have HE0:=HRE.out;generalize zfg b (c1,c2,c3,c4,c5,c6)=RR at *;obtain⟨⟨⟨b1,b2⟩,pl,mi,⟨s1,s2,s3,s4,s5,s6⟩,rd,⟨r1,r2⟩,hs⟩,er⟩:=RR;simp only at HE0 hr1 HVI HRD HRL HRS;rw[←HE0]at HVE HVI HRD;obtain⟨p1,m1,rfl,hp1,hm1⟩:=hr1;obtain⟨P1,k1,rfl,_,_⟩:=hp1.form;obtain⟨M1,d1,rfl,_,_⟩:=hm1.form;unfold z4g;simp only at hp1 hm1⊢;have tG:=tal w1 (.cells #[iV b1,iV b2,.slice P1 pl.length k1,.slice M1 mi.length d1,iV s1,iV s2,iV s3,iV s4,iV s5,iV s6,.bool rd,iV r1,iV r2,.bool hs] 48);have bG:=Blk.new w1 48 #[iV b1,iV b2,.slice P1 pl.length k1,.slice M1 mi.length d1,iV s1,iV s2,iV s3,iV s4,iV s5,iV s6,.bool rd,iV r1,iV r2,.bool hs];have t1G:=t1.trans tG;have hD3:=hD2.keep t1G (fun _ h=>h.elim);have bC3:=bC2.keep t1G id;have bO3:=bO2.keep t1G id;have t3:=t2.trans t1G;have HP:=Lib.hid (hp1.keep tG);have HMM:=Lib.hid (hm1.keep tG);have hsz1:=(t2.trans t1).size;clear q0 q1 q2 q3 q4 q5 HE0 HRE hp1 hm1 bC2 bO2 hD2 t1 tG t1G t2 tX v0;by_cases he:er=0
  rotate_left
  ·have heb:(er !=0)=true:=by simpa using he
   have HVV:=Lib.hid (HVE.out he);clear he HVE HVI HRD HRL HRS HIH HRK HP HMM bC3;go_wp2_with (refine stH (z+1) #[iV 0,iV er] bO3 ?_);intro w9 HF HTF;clear bO3;go_wp2;(try simp only[exS]);refine zfe HF.out ?_;rw[HVV.out];exact⟨rfl,hD3.keep HTF.out (fun i hi=>by have hi:i=z+1:=hi;have h9:=HZW.out;have:=hD.tch.size;omega),(Exn.touch (F:=fun g=>g=mb) t3).trans' HTF.out (fun i hi=>.inr (by have hi:i=z+1:=hi;have:=HZW.out;omega))⟩
  subst he;have HVV:=Lib.hid (HVI.out rfl);have HRD2:=Lib.hid (HRD.out rfl);have HRI:=Lib.hid (fun(w':World) (t9:Tf (w1.alloc (.cells #[iV b1,iV b2,.slice P1 pl.length k1,.slice M1 mi.length d1,iV s1,iV s2,iV s3,iV s4,iV s5,iV s6,.bool rd,iV r1,iV r2,.bool hs] 48)) w')=>(show RcpIs w' (.agg #[iV b1,iV b2,.slice P1 pl.length k1,.slice M1 mi.length d1,iV s1,iV s2,iV s3,iV s4,iV s5,iV s6,.bool rd,iV r1,iV r2,.bool hs]) ⟨(b1,b2),pl,mi,(s1,s2,s3,s4,s5,s6),rd,(r1,r2),hs⟩from⟨_,_,rfl,HP.out.keep t9,HMM.out.keep t9⟩));have HRR:=Lib.hid (zz5 (HRI.out _ (Tch.refl _ _)) (show pl.length+mi.length≤50000 by have:=HRL.out;omega))
  obtain⟨R,hR⟩:∃R:Rcp,R=⟨(b1,b2),pl,mi,(s1,s2,s3,s4,s5,s6),rd,(r1,r2),hs⟩:=⟨_,rfl⟩
  have HLE:=Lib.hid (show R.plus.length+R.minus.length≤5000 by rw[hR];exact HRL.out);have HBS:=Lib.hid (show zz0 R.base by rw[hR];exact HRS.out);rw[←hR]at HVV HRD2 HRI HRR
  have HLN:=Lib.hid (show(zyk R).length≤5001 by
   unfold zyk zys;refine Nat.le_trans (zzr _) ?_;rw[List.length_append,List.length_append];have:=HLE.out
   split<;>simp <;>omega)
  obtain⟨f0,f1,f2,f3,f4,f5,f6,f7,f8,f9,f10,f11,f12,f13⟩:=bG.f14;clear hR HVE HVI HRD HP HMM HRL HRS;go_wp2_with fail;generalize hyG:w1.heap.size=yG at *;generalize w1.alloc _=W3 at *;have hd3:=hD3.lt.1;refine HRR.out.mono ?_;rintro _ w5 ⟨u,rfl,hrow,t5⟩;have bG5:=bG.keep t5 id;have bC5:=bC3.keep t5 id;have bO5:=bO3.keep t5 id;have hD5:=hD3.keep t5 (fun _ h=>h.elim);have T5:=t3.trans t5;have HRI5:=Lib.hid (fun(w':World) (t9:Tf w5 w')=>HRI.out w' (t5.trans t9))
  obtain⟨LL,hLL⟩:∃LL,zyk R=LL:=⟨_,rfl⟩
  rw[hLL]at hrow HVV HRD2 HLN;have hln:=HLN.out;obtain⟨U,cu,rfl,hu1,hu2⟩:=hrow.form;clear f0 f1 f2 f3 f4 f5 f6 f7 f8 f9 f10 f11 f12 f13 HRR HRI hLL bG bC3 bO3 hD3 t3;have l6:16*LL.length≤281474976710656:=by omega
  have l7:LL.length≤9223372036854775807:=by omega
  go_wp2_with (refine zmd rfl _ _ _ rfl zz2 (N:=(LL.length:Int)) (n:=LL.length) rfl (by rfl) (by rfl) l6 l7 ?_;refine Hid.out ?_);refine Lib.hid ?_;intro cells w6 hcl bN tN hlN;generalize hyy:w5.heap.size=y at *;have hb5:=bO5.lt;have hc5:=bC5.lt;have hg5:=bG5.lt;have hd5:=hD5.lt;have h35:=t5.size;have HSZ:=Lib.hid (show z+1<y∧mb<z∧kb<z∧vb<z∧ob<z∧yG<y∧w0.heap.size≤z∧mb<W3.heap.size∧z≤yG by have:=hD.tch.size;have h9:=HZW.out;omega);have bG6:=bG5.keep tN id;have bC6:=bC5.keep tN id;have bO6:=bO5.keep tN id;have hD6:=hD5.keep tN (fun _ h=>h.elim);have T6:=T5.trans tN;have HROW:=Lib.hid (fun(wr:World) (ht:Tch (fun g=>g=mb∨g=y) w6 wr)=>Row.keepTo (P':=fun _=>True) (Row.keepTo (P':=fun g=>g≠mb∧g≠y) hrow tN (fun g hg hp=>⟨id,by have hp:W3.heap.size≤g:=hp;have:=HSZ.out;omega⟩)) ht (fun g _ hp=>⟨fun e=>by rcases e with e|e;exact hp.1 e;exact hp.2 e,trivial⟩));have HRI6:=Lib.hid (fun(wr:World) (ht:Tch (fun g=>g=mb∨g=y) w6 wr)=>RcpIs.over (HRI5.out w5 (Tch.refl _ _)) hD5.ismap (by omega) tN ht);clear hyy hrow bG5 bC5 bO5 hD5 T5 t5 tN HRI5 hb5 hc5 hg5 hd5 h35 hu1 hu2 hlN l6 l7;go_wp2_with fail;go_loopw [39] (fun i wr=>∃(j:Nat) (xs:List Vl) (rest:List Value),j≤LL.length∧i=.int .i64 j∧(LL.take j).map (zyq b)=xs∧rest.length=(LL.length-j)*2∧Blk wr y 41 (xs.flatMap zzb++rest).toArray∧Dsk b w0 wr bv kb vb ob mb∧Tch (fun g=>g=mb∨g=y) w6 wr) (fun i _=>LL.length-(intOf i).toNat)
  case atStart=>exact⟨0,[],cells,Nat.zero_le _,rfl,rfl,by simpa using hcl,by simpa using bN,hD6,Tch.refl _ _⟩
  case round=>
   obtain⟨j,xs,rest,hj,rfl,hxs,hrl,hB,hDr,ht⟩:=hrel;have HXS:=Lib.hid hxs;have HXL:=Lib.hid (show xs.length=j by rw[←hxs,List.length_map,List.length_take];omega);have hj0:=znn j;clear hxs;by_cases hlt:j<LL.length
   ·have hlt':(j:Int)<(LL.length:Int):=by omega
    have hl9:=HROW.out wr ht;obtain⟨g,o9,rfl⟩:=hl9.head (by omega);obtain⟨q0,q1,q2,q3,q4,q5⟩:=Row.six hl9 zd3 hlt rfl;have HXN:=Lib.hid (show(LL.take (j+1)).map (zyq b)=xs++[zyq b LL[j]] by rw[List.take_succ_eq_append_getElem hlt,List.map_append,HXS.out];rfl);have HRJ:=Lib.hid (show zzj b LL[j]<d by have:=(HRD2.out LL[j] (List.getElem_mem hlt)).2;have:=HRK.out;omega);generalize LL[j]=cc at *;obtain⟨e1,e2,e3,e4,e5,e6⟩:=cc;simp only at q0 q1 q2 q3 q4 q5;have tA:=tal wr (.cells #[iV e1,iV e2,iV e3,iV e4,iV e5,iV e6] 31);have bz:=Blk.new wr 31 #[iV e1,iV e2,iV e3,iV e4,iV e5,iV e6];have hDA:=hDr.keep tA (fun _ h=>h.elim);have hBA:=hB.keep tA id;have o0:=hDA.obox.at0;have HI:=Lib.hid (HIH.out _ e1 e2 e3 e4 e5 e6 HRJ.out hDA);generalize zyq b (e1,e2,e3,e4,e5,e6)=sv at *;obtain⟨sx,sy⟩:=sv;unfold vlV at HI;simp only at HI;obtain⟨g0,g1,g2,g3,g4,g5⟩:=bz.f6;have HTA:=Lib.hid (ht.trans (Exn.touch tA))
    obtain⟨u1,u2,r2,hu,hr2⟩:∃u1 u2 r2,rest=u1::u2::r2∧r2.length=(LL.length-(j+1))*2:=by
     rcases rest with _|⟨u1,_|⟨u2,r2⟩⟩
     ·simp at hrl;omega
     ·simp at hrl;omega
     ·exact⟨u1,u2,r2,rfl,by simp at hrl;omega⟩
    subst hu;have hoff:j*2=(xs.flatMap zzb).length:=by rw[zc5 zyt,HXL.out]
    have HOF:=Lib.hid hoff;have HR2:=Lib.hid hr2;clear hl9 HXS hDr hB ht tA bz hrl hoff hr2;go_wp2_with fail;generalize wr.alloc _=wA at *;refine HI.out.mono ?_;rintro _ wB ⟨rfl,hDB,tB⟩;have hBB:=hBA.keep tB (by have:=HSZ.out;omega);have HTB:=Lib.hid (HTA.out.trans (tB.mono fun i _ h=>.inl h));clear HI q0 q1 q2 q3 q4 q5 g0 g1 g2 g3 g4 g5 o0 hBA hDA HTA tB;go_wp2_with (refine zdp rfl _ _ _ rfl y (j*2) (xs.flatMap zzb) [u1,u2] [iV sx,iV sy] r2 HOF.out (by rfl) (by rfl) (by simp[Value.oneCell']) (by kernel_rfl) rfl (by simpa using hBB) ?_;refine Hid.out ?_);refine Lib.hid ?_;intro wC bYC tC;have hDC:=hDB.keep tC (fun i hi=>by have hi:i=y:=hi;have:=HSZ.out;omega);have HTC:=Lib.hid (HTB.out.trans (tC.mono fun i _ h=>.inr h));have HBY:=Lib.hid bYC;clear hBB hDB tC bYC;go_wp2;go_roundw
    case rel=>exact⟨j+1,_,r2,by omega,by go_num,HXN.out,HR2.out,by simpa[zzb]using HBY.out,hDC,HTC.out⟩
    case measure=>simp[intOf]<;>omega
   ·obtain rfl:j=LL.length:=by omega
    have hxs:=HXS.out;rw[List.take_length]at hxs;have hlt':¬(LL.length:Int)<(LL.length:Int):=by omega
    obtain rfl:rest=[]:=List.eq_nil_of_length_eq_zero (by rw[hrl];simp);rw[List.append_nil]at hB
    have hin:zae zzb 2 (fun _=>True) wr (.slice (some ⟨y,0,none⟩) LL.length LL.length) xs:=by
     have h9:=z0z (base:=0) (size:=2) (n:=LL.length) hB (Nat.zero_le _) (by rw[List.size_toArray,zc5 zyt,HXL.out]) (by unfold maxLen;omega);rw[←HXL.out]at h9⊢;exact Row.own (by simpa using h9) (fun _ _=>trivial)
    have HEV:=Lib.hid (fun(w':World) (t9:Tf wr w')=>z5v ((HRI6.out wr ht).keep t9) (hin.keep t9) (fun v hv=>by rw[←hxs]at hv;obtain⟨k9,_,rfl⟩:=List.mem_map.1 hv;exact HV64.out k9) HBS.out HLE.out (by have:=HXL.out;omega) (fun _=>z5u _ _ _ _));have HVL:=Lib.hid (show zyq b (c1,c2,c3,c4,c5,c6)=zzv R xs from HVV.out.trans (by rw[hxs]));have bG7:=bG6.keep ht (by have:=HSZ.out;omega);have bC7:=bC6.keep ht (by have:=HSZ.out;omega);have bO7:=bO6.keep ht (by have:=HSZ.out;omega);have T7:=(Exn.touch (F:=fun g=>g=mb) T6).trans' ht (fun i hi=>by rcases hi with hi|hi;exact .inl hi;exact .inr (by have:=HSZ.out;omega));clear hxs HXS HRI6 HROW hlt bG6 bC6 bO6 hD6 T6 bN hin hB HVV HRD2 HIH HBS HLE ht hcl hfe;generalize hev:zzv R xs=ev at *;obtain⟨ev1,ev2⟩:=ev;unfold vlV at HEV;simp only at HEV;have Y0:=wc0 hDr.kbox.at0;obtain⟨C0,C1,C2,C3,C4,C5⟩:=bC7.w6;obtain⟨G0,G1,G2,G3,G4,G5,G6,G7,G8,G9,G10,G11,G12,G13⟩:=bG7.w14;clear hev;go_wp2_with fail;refine zai (fun _=>False) [] 5 [(4,.inl (.agg #[iV ev1,iV ev2]))] [] ?_ ?_
    ·exact trivial
    intro bef _;iterate 4 (refine zbt ?_;(try simp only[zaw]))
    refine zb3 (.agg #[iV ev1,iV ev2]) (by rfl) (by rfl) (fun w7 hr hf=>?_) ?_
    ·refine zaa (d:=55) rfl (by simp) (fun K hK=>?_);go_step;refine(HEV.out w7 ((Tch.drew _ wr).trans hr)).mono ?_;rintro _ w8 ⟨rfl,t8⟩;exact hK _ _ ⟨⟨rfl,t8⟩,zaf⟩
    simp only[zaw];refine za6 ?_;intro w7 hr hp9 hap;have t7:=(Tch.drew (fun _=>False) wr).trans hr;have hD7:=hDr.keep t7 (fun _ h=>h.elim);have bC8:=bC7.keep t7 id;have bO8:=bO7.keep t7 id;have T8:=T7.trans (Exn.touch t7);obtain⟨m7,hm7,hs7⟩:=hD7.known;have HM7:=Lib.hid hm7;have HS7:=Lib.hid hs7;have HVV:=Lib.hid (show vlV (zyq b (c1,c2,c3,c4,c5,c6))=.agg #[iV ev1,iV ev2] by rw[HVL.out];rfl);clear Y0 C0 C1 C2 C3 C4 C5 G0 G1 G2 G3 G4 G5 G6 G7 G8 G9 G10 G11 G12 G13 HEV hr hp9 hap t7 hDr bG7 bC7 bO7 T7 hm7 hs7;go_wp2_with (refine z02 rfl _ _ _ _ rfl zym Tryz.underlying193 (k:=(c1,c2,c3,c4,c5,c6)) (u:=.agg #[iV ev1,iV ev2]) (by rfl) (by rfl) (by rfl) HM7.out ?_;refine Hid.out ?_);refine Lib.hid ?_;intro w9 hM9 t9
    have hs9:∀k v,zar (z2d m7 (c1,c2,c3,c4,c5,c6) (.agg #[iV ev1,iV ev2])) k=some v→v=vlV (zyq b k):=fun k v hkv=>by
     rw[zlh]at hkv;by_cases hk:k=(c1,c2,c3,c4,c5,c6)
     ·rw[if_pos hk]at hkv;subst hk;rw[HVV.out];exact(Option.some.inj hkv).symm
     ·rw[if_neg hk]at hkv;exact HS7.out k v hkv
    have HFD:zar (z2d m7 (c1,c2,c3,c4,c5,c6) (.agg #[iV ev1,iV ev2])) (c1,c2,c3,c4,c5,c6)=some (.agg #[iV ev1,iV ev2]):=by rw[zlh,if_pos rfl]
    generalize z2d m7 (c1,c2,c3,c4,c5,c6) (.agg #[iV ev1,iV ev2])=m9 at *;have HFD:=Lib.hid HFD;have HM9:=Lib.hid hM9;have hD9:=hD7.put t9 hM9 hs9;have bC9:=bC8.keep t9 (by have:=HSZ.out;omega);have bO9:=bO8.keep t9 (by have:=HSZ.out;omega);have T9:=T8.trans t9;have n9:=hD9.kbox.at0;obtain⟨k0,k1,k2,k3,k4,k5⟩:=bC9.f6;clear hM9 t9 hs9 hD7 bC8 bO8 T8 HM7 HS7;go_wp2_with (refine zh6 rfl _ _ _ false rfl zym Tryz.underlying193 (z0b _) (k:=(c1,c2,c3,c4,c5,c6)) (by rfl) (by rfl) HM9.out ?_;refine Hid.out ?_);refine Lib.hid ?_;(try rw[HFD.out]);(try simp only[Option.getD_some]);go_wp2_with (refine stH (z+1) #[iV ev1,iV ev2] bO9 ?_);intro wF HF HTF;clear bO9;go_wp2;(try simp only[exS]);refine zfe HF.out ?_;rw[HVV.out];exact⟨rfl,hD9.keep HTF.out (fun i hi=>by have hi:i=z+1:=hi;have:=HSZ.out;omega),T9.trans' HTF.out (fun i hi=>.inr (by have hi:i=z+1:=hi;have:=HZW.out;omega))⟩
theorem z1d (w:World) (pv u:Value) (T1 T2 T3:TypeId):∃W,(((w.alloc (.cells #[pv] T2)).alloc (.map #[] 0)).alloc (.cells #[.map (some (w.heap.size+1))] T1)).alloc (.cells #[u] T3)=W∧Tf w W∧MapIs zcq W (w.heap.size+1) []∧Blk W w.heap.size T2 #[pv]∧Blk W (w.heap.size+2) T1 #[.map (some (w.heap.size+1))]∧Blk W (w.heap.size+3) T3 #[u]:=by
 have ta:=tal w (.cells #[pv] T2);have tb:=tal (w.alloc (.cells #[pv] T2)) (.map #[] 0);have tc:=tal ((w.alloc (.cells #[pv] T2)).alloc (.map #[] 0)) (.cells #[.map (some (w.heap.size+1))] T1);have td:=tal (((w.alloc (.cells #[pv] T2)).alloc (.map #[] 0)).alloc (.cells #[.map (some (w.heap.size+1))] T1)) (.cells #[u] T3);have m:=(((MapB.new zcq (w.alloc (.cells #[pv] T2))).keep tc id).keep td id).is;have bK:=(Blk.new ((w.alloc (.cells #[pv] T2)).alloc (.map #[] 0)) T1 #[.map (some (w.heap.size+1))]).keep td id;have bO:=Blk.new (((w.alloc (.cells #[pv] T2)).alloc (.map #[] 0)).alloc (.cells #[.map (some (w.heap.size+1))] T1)) T3 #[u];simp only[World.size_alloc]at m bK bO;exact⟨_,rfl,((ta.trans tb).trans tc).trans td,m,(((Blk.new w T2 #[pv]).keep tb id).keep tc id).keep td id,bK,bO⟩
theorem z0i {w:World} (h:Vw w bv bi B t mr mp e a s r l n lv fs b us) (F:RuleFacts b) (hpl:(zay b.entries).length≤3000) (hT:Tab64 0 w) {v:Value} {cl:List Rt6} (hl:zae za2 6 (fun _=>True) w v cl) (hn:cl.length≤100000):
 Calls Tryz.prog 47 #[.pointer (some ⟨bv,0,none⟩),v] w fun x w'=>∃u,x=.returned u∧zae zzb 2 (fun g=>w.heap.size≤g) w' u (cl.map (zyq b))∧Tf w w':=by
 obtain⟨A,c,rfl,hc1,hc2⟩:=hl.form;have HOF:=Lib.hid (fun kb vb ob mb d w' c1 c2 c3 c4 c5 c6=>of38_any h F hpl hT kb vb ob mb d w' c1 c2 c3 c4 c5 c6);have hmm:=@run_makeMap Tryz.prog;have hfe:∀args w,(callFunc 109 args).run Tryz.prog w=.ok (.enter 109 args) w:=enters_of Tryz.func109 (by kernel_rfl) rfl;obtain⟨W,hW,tw,hM,bV,bK,bF⟩:=z1d w (.pointer (some ⟨bv,0,none⟩)) Value.nilFunc 193 34 194;have hl1:=Row.keepTo (P':=fun g=>g<w.heap.size) hl tw (fun g hg _=>⟨id,hg⟩);have l6:16*cl.length≤281474976710656:=by omega
 have l7:cl.length≤9223372036854775807:=by omega
 have hc0:(cl.length:Int)≤100000:=by omega
 clear h hT hl;go_enter Tryz.func47,Tryz.ntmps47;go_wp2_with (refine zab rfl _ _ _ rfl (w.heap.size+3) 0 (.func (.func 109) #[] #[.pointer (some ⟨w.heap.size+2,0,none⟩),.pointer (some ⟨w.heap.size,0,none⟩),.pointer (some ⟨w.heap.size+3,0,none⟩)]) (by rfl) (by rfl) rfl (by rfl) bF (by simp) ?_;refine Hid.out ?_);refine Lib.hid ?_;intro w5 bO ts;have bO:Blk w5 (w.heap.size+3) 194 #[.func (.func 109) #[] #[.pointer (some ⟨w.heap.size+2,0,none⟩),.pointer (some ⟨w.heap.size,0,none⟩),.pointer (some ⟨w.heap.size+3,0,none⟩)]]:=by simpa using bO
 have hD:Dsk b w w5 bv (w.heap.size+2) w.heap.size (w.heap.size+3) (w.heap.size+1):=
  ⟨⟨[],hM.keep ts (by omega),fun k v hk=>by cases hk⟩,bK.keep ts (by omega),bV.keep ts (by omega),bO,tw.trans' ts (fun i hi=>.inr (by have hi:i=w.heap.size+3:=hi;omega)),by omega⟩
 have hl5:=Row.keepTo (P':=fun g=>g<w.heap.size) hl1 ts (fun g _ hg=>⟨fun e=>by have e:g=w.heap.size+3:=e;omega,hg⟩);have HDL:=Lib.hid hD.lt;generalize hz:w.heap.size=z at *;have HZ:=Lib.hid hz;clear hW tw hM bV bK bF hl1 ts bO hz;go_wp2_with (refine zmd rfl _ _ _ rfl zz2 (N:=(cl.length:Int)) (n:=cl.length) rfl (by rfl) (by rfl) l6 l7 ?_;refine Hid.out ?_);refine Lib.hid ?_;intro cells w6 hcl bN tN hlN;have hD6:=hD.keep tN (fun _ h=>h.elim);have HYL:=Lib.hid (show z+3<w5.heap.size from HDL.out.2.2.2);generalize hyy:w5.heap.size=y at *;have HROW:=Lib.hid (fun(wr:World) (ht:Tch (fun g=>g=z+1∨g=y) w6 wr)=>Row.keepTo (P':=fun _=>True) (Row.keepTo (P':=fun g=>g<z) hl5 tN (fun g _ hg=>⟨id,hg⟩)) ht (fun g _ hp=>⟨fun e=>by have e:g=z+1∨g=y:=e;have:=HYL.out;omega,trivial⟩));clear hl5 hD tN hlN hyy;go_wp2_with fail;go_loopw [17] (fun i wr=>∃(j:Nat) (xs:List Vl) (rest:List Value),j≤cl.length∧i=.int .i64 j∧(cl.take j).map (zyq b)=xs∧rest.length=(cl.length-j)*2∧Blk wr y 41 (xs.flatMap zzb++rest).toArray∧Dsk b w wr bv (z+2) z (z+3) (z+1)∧Tch (fun g=>g=z+1∨g=y) w6 wr) (fun i _=>cl.length-(intOf i).toNat)
 case atStart=>exact⟨0,[],cells,Nat.zero_le _,rfl,rfl,by simpa using hcl,by simpa using bN,hD6,Tch.refl _ _⟩
 case round=>
  obtain⟨j,xs,rest,hj,rfl,hxs,hrl,hB,hDr,ht⟩:=hrel;have HXS:=Lib.hid hxs;have HXL:=Lib.hid (show xs.length=j by rw[←hxs,List.length_map,List.length_take];omega);have hj0:=znn j;clear hxs;by_cases hlt:j<cl.length
  ·have hlt':(j:Int)<(cl.length:Int):=by omega
   have hl9:=HROW.out wr ht;obtain⟨g,o9,rfl⟩:=hl9.head (by omega);obtain⟨q0,q1,q2,q3,q4,q5⟩:=Row.six hl9 zd3 hlt rfl;have HXN:=Lib.hid (show(cl.take (j+1)).map (zyq b)=xs++[zyq b cl[j]] by rw[List.take_succ_eq_append_getElem hlt,List.map_append,HXS.out];rfl);generalize cl[j]=cc at *;obtain⟨e1,e2,e3,e4,e5,e6⟩:=cc;simp only at q0 q1 q2 q3 q4 q5;have tA:=tal wr (.cells #[iV e1,iV e2,iV e3,iV e4,iV e5,iV e6] 31);have bz:=Blk.new wr 31 #[iV e1,iV e2,iV e3,iV e4,iV e5,iV e6];have hDA:=hDr.keep tA (fun _ h=>h.elim);have hBA:=hB.keep tA id;have o0:=hDA.obox.at0;have HI:=Lib.hid (HOF.out _ _ _ _ _ _ e1 e2 e3 e4 e5 e6 (Nat.lt_succ_self _) hDA);generalize zyq b (e1,e2,e3,e4,e5,e6)=sv at *;obtain⟨sx,sy⟩:=sv;unfold vlV at HI;simp only at HI;obtain⟨g0,g1,g2,g3,g4,g5⟩:=bz.f6;have HTA:=Lib.hid (ht.trans (Exn.touch tA))
   obtain⟨u1,u2,r2,hu,hr2⟩:∃u1 u2 r2,rest=u1::u2::r2∧r2.length=(cl.length-(j+1))*2:=by
    rcases rest with _|⟨u1,_|⟨u2,r2⟩⟩
    ·simp at hrl;omega
    ·simp at hrl;omega
    ·exact⟨u1,u2,r2,rfl,by simp at hrl;omega⟩
   subst hu;have hoff:j*2=(xs.flatMap zzb).length:=by rw[zc5 zyt,HXL.out]
   have HOFF:=Lib.hid hoff;have HR2:=Lib.hid hr2;clear hl9 HXS hDr hB ht tA bz hrl hoff hr2;go_wp2_with fail;generalize wr.alloc _=wA at *;refine HI.out.mono ?_;rintro _ wB ⟨rfl,hDB,tB⟩;have hBB:=hBA.keep tB (by have:=HYL.out;omega);have HTB:=Lib.hid (HTA.out.trans (tB.mono fun i _ h=>.inl h));clear HI q0 q1 q2 q3 q4 q5 g0 g1 g2 g3 g4 g5 o0 hBA hDA HTA tB;go_wp2_with (refine zdp rfl _ _ _ rfl y (j*2) (xs.flatMap zzb) [u1,u2] [iV sx,iV sy] r2 HOFF.out (by rfl) (by rfl) (by simp[Value.oneCell']) (by kernel_rfl) rfl (by simpa using hBB) ?_;refine Hid.out ?_);refine Lib.hid ?_;intro wC bYC tC;have hDC:=hDB.keep tC (fun i hi=>by have hi:i=y:=hi;have:=HYL.out;have:=HZ.out;omega);have HTC:=Lib.hid (HTB.out.trans (tC.mono fun i _ h=>.inr h));have HBY:=Lib.hid bYC;clear hBB hDB tC bYC;go_wp2;go_roundw
   case rel=>exact⟨j+1,_,r2,by omega,by go_num,HXN.out,HR2.out,by simpa[zzb]using HBY.out,hDC,HTC.out⟩
   case measure=>simp[intOf]<;>omega
  ·obtain rfl:j=cl.length:=by omega
   have hxs:=HXS.out;rw[List.take_length]at hxs;have hlt':¬(cl.length:Int)<(cl.length:Int):=by omega
   obtain rfl:rest=[]:=List.eq_nil_of_length_eq_zero (by rw[hrl];simp);rw[List.append_nil]at hB
   have HRW:=Lib.hid (show zae zzb 2 (fun g=>z≤g) wr (.slice (some ⟨y,0,none⟩) cl.length cl.length) (cl.map (zyq b)) by
    have h9:=z0z (base:=z) (size:=2) (n:=cl.length) hB (by have:=HYL.out;omega) (by rw[List.size_toArray,zc5 zyt,HXL.out]) (by unfold maxLen;omega);rw[hxs];rw[←HXL.out]at h9⊢
    exact Row.own (by simpa using h9) (fun g hg=>(h9.lt g hg).1))
   have HTT:=Lib.hid hDr.tch;clear hxs HXS hB hDr ht HROW hlt;go_wp2;go_ret;refine⟨_,rfl,?_,HTT.out⟩;rw[HZ.out];exact HRW.out
theorem z5q {w:World} (h:Vw w bv bi B t mr mp e a s r l n lv fs b us) (F:RuleFacts b) (hpl:(zay b.entries).length≤3000) (hT:Tab64 0 w) (c1 c2 c3 c4 c5 c6:Int):
 Calls Tryz.prog 35 #[.pointer (some ⟨bv,0,none⟩),.agg #[iV c1,iV c2,iV c3,iV c4,iV c5,iV c6]] w fun x w'=>x=.returned (vlV (zyq b (c1,c2,c3,c4,c5,c6)))∧Tf w w':=by
 obtain⟨W,hW,tw,bC,bO,bL⟩:=al3 w #[iV c1,iV c2,iV c3,iV c4,iV c5,iV c6] #[iV 0,iV 0] #[iV c1,iV c2,iV c3,iV c4,iV c5,iV c6] 31 41 31;have HVS:=Lib.hid (z0i (cl:=[(c1,c2,c3,c4,c5,c6)]) (h.keep tw) F hpl (hT.keep tw) (Row.blk (B:=fun _=>True) (n:=1) (size:=6) bL trivial rfl (by decide)) (by simp));have q:=Blk.new w 31 #[iV c1,iV c2,iV c3,iV c4,iV c5,iV c6];obtain⟨k0,k1,k2,k3,k4,k5⟩:=(q.keep (tal _ (.cells #[iV 0,iV 0] 41)) id).f6;simp only[List.map_cons,List.map_nil]at HVS
 obtain⟨⟨x1,x2⟩,hvx⟩:∃vx,zyq b (c1,c2,c3,c4,c5,c6)=vx:=⟨_,rfl⟩
 rw[hvx]at HVS⊢;have HZ:=Lib.hid (show w.heap.size+3≤W.heap.size from bL.lt);clear h hT bC bL q hvx;go_enter Tryz.func35,Tryz.ntmps35;go_wp2_with fail;refine HVS.out.mono ?_;rintro _ w1 ⟨u,rfl,hr,t1⟩;have hr0:=hr.weak (P':=fun _=>True) (fun _ _=>trivial);obtain⟨U,cu,rfl,_,_⟩:=hr0.form;obtain⟨gg,oo,rfl⟩:=hr0.head (by simp);obtain⟨y0,y1⟩:=Row.two (l:=[(x1,x2)]) hr0 zyt (show 0<1 by decide) rfl;have bO1:=bO.keep t1 id;have T1:=tw.trans t1;clear HVS hr hr0 bO k0 k1 k2 k3 k4 k5 hW tw t1;simp only[Nat.zero_mul,Nat.add_zero,List.getElem_cons_zero]at y0 y1;(try simp only[List.length_singleton]);go_wp2_with (refine stH (w.heap.size+1) #[iV x1,iV x2] bO1 ?_);intro w9 HF HTF;clear bO1;go_wp2;(try simp only[exS]);refine zfe HF.out ?_;exact⟨rfl,T1.trans' HTF.out (fun i hi=>.inr (by have hi:i=w.heap.size+1:=hi;omega))⟩
end
end Go.Proofs.YtoegobjnjljegaaGreatDoor
namespace Go.Gk
open Go.RowKit
theorem stP {P:Program} {ops:Array Oper} {rest:List Oper} {op:Oper} {a:Act} {w:World} {Q:Exit→Act→World→Prop} (b o:Nat) (u v:Value) {t:TypeId} {cs:Array Value} (hb:Blk w b t cs) (h:Hid (∀W,Blk W b t ((cs.setIfInBounds o u).setIfInBounds (o+1) v)→Tch (fun g=>g=b) w W→wpList P ops Q rest (a.put op.dst undef) W)) {ty:TypeId} {x y:Operand} (ho:op.op=.store ty x y:=by rfl) (hgd:op.guard=none:=by rfl)
 (hx:a.eval x=.pointer (some ⟨b,o,none⟩):=by rfl) (hy:a.eval y=.agg #[u,v]:=by rfl) (hi:(P.info? ty).map (·.size)=some 2:=by kernel_rfl) (h1:u.oneCell'=true:=by rfl) (h2:v.oneCell'=true:=by rfl) (hlt:o+1<cs.size:=by simp):wpList P ops Q (op::rest) a w:=by
 refine wpList_store_mid hgd ty x y ho b o #[u,v] hx hy (fun j hj=>⟨?_,hb.frozen _⟩) hi (by simp[h1,h2]) ?_
 ·have hj2:j<2:=hj;have hc:=hb.cell (o+j);rw[Array.getElem?_eq_getElem (by omega)]at hc;rw[hc];rfl
 ·exact h.out _ ((hb.set_ o u).set_ (o+1) v) ((Tch.setCell (F:=fun g=>g=b) w (p:=⟨b,o,none⟩) (.inl rfl) u).trans (Tch.setCell (F:=fun g=>g=b) _ (p:=⟨b,o+1,none⟩) (.inl rfl) v))
