/-
  Tallies: a line is put in.
-/
import Derived.Test.YtoegobjnjljegaaGreatDoorZ16
set_option maxRecDepth 100000
set_option maxHeartbeats 12800000
namespace Go.Gk
open Go.RowKit
def TF (w:World) (B t mr mp:Nat) (g:Nat):Prop:=g=t∨g=mr∨g=mp∨(B≤g∧∃cs T fr,w.heap[g]?=some (.cells cs T fr)∧(T=290∨T=3))
theorem ziy {w:World} {base k:Nat} {e:TypeId} {size n:Nat} {v:Value} {xs:List Value} (he:e=290∨e=3) (h:w.ownsRow base e size v n xs) (hk:v.ownBlock=some k):base≤k∧∃cs T fr,w.heap[k]?=some (.cells cs T fr)∧(T=290∨T=3):=by
 rcases h.2 with⟨h1,_⟩|⟨g,cap,cur,h1,hb,h3,_⟩
 ·rw[h1]at hk;cases hk
 ·rw[h1]at hk;have e1:g=k:=zaz hk;subst e1;exact⟨hb,_,_,_,h3,he⟩
abbrev PN (ps:List Pst) (p xe xa xq xm:Int):zgm→Nat:=fun s=>if s.2.2=0 then(zcd (ps++[(p,xe,xa,xq,xm)]) s.1 s.2.1).length else 0
abbrev PC (ps:List Pst) (p xe xa xq xm:Int):zgm→List Value:=fun s=>if s.2.2=0 then(zcd (ps++[(p,xe,xa,xq,xm)]) s.1 s.2.1).flatMap zby else[]
theorem PN_new {ps:List Pst} {p xe xa:Int} (xq xm:Int) (h:zbf ps (xe,xa,p)=[]) (k:zgm):(if k=(xe,xa,0)then(zcd ps xe xa).length+1 else if k.2.2=0 then(zcd ps k.1 k.2.1).length else 0)=PN ps p xe xa xq xm k:=by
 obtain⟨a,b,c⟩:=k;by_cases hc:c=0
 ·subst hc;by_cases he:xe=a∧xa=b
  ·obtain⟨rfl,rfl⟩:=he;simp[PN,zde,zbd,h]
  ·have h1:¬(a=xe∧b=xa):=fun e=>he ⟨e.1.symm,e.2.symm⟩
   simp[PN,zde,he,h1]
 ·simp[PN,hc]
theorem PC_new {ps:List Pst} {p xe xa:Int} (xq xm:Int) (h:zbf ps (xe,xa,p)=[]) (k:zgm):(if k=(xe,xa,0)then(zcd ps xe xa).flatMap zby++[iV p]else if k.2.2=0 then(zcd ps k.1 k.2.1).flatMap zby else[])=PC ps p xe xa xq xm k:=by
 obtain⟨a,b,c⟩:=k;by_cases hc:c=0
 ·subst hc;by_cases he:xe=a∧xa=b
  ·obtain⟨rfl,rfl⟩:=he;simp[PC,zde,zbd,h,zby]
  ·have h1:¬(a=xe∧b=xa):=fun e=>he ⟨e.1.symm,e.2.symm⟩
   simp[PC,zde,he,h1]
 ·simp[PC,hc]
theorem PN_old {ps:List Pst} {p xe xa:Int} (xq xm:Int) (h:zbf ps (xe,xa,p)≠[]) (k:zgm):(if k.2.2=0 then(zcd ps k.1 k.2.1).length else 0)=PN ps p xe xa xq xm k:=by
 simp[PN,zde,zbd,h]
theorem PC_old {ps:List Pst} {p xe xa:Int} (xq xm:Int) (h:zbf ps (xe,xa,p)≠[]) (k:zgm):(if k.2.2=0 then(zcd ps k.1 k.2.1).flatMap zby else[])=PC ps p xe xa xq xm k:=by
 simp[PC,zde,zbd,h]
end Go.Gk
namespace Go.Proofs.YtoegobjnjljegaaGreatDoor
open Go.RowKit Go.Gk
theorem zeroInts (w:World):(zeroValue 22).run Tryz.prog w=.ok (.slice none 0 0) w:=Tryz.zeroValue22 w
theorem put_any {w:World} {B t mr mp:Nat} {ps:List Pst} {n:Int} (h:Tly w B t mr mp ps n) (hne:mr≠mp) (hn:ps.length<10000) {bt:Nat} (hbt:w.cell? ⟨bt,0,none⟩=some (.pointer (some ⟨t,0,none⟩))) (hbt1:bt≠t) (hbB:bt<B) (hBw:B≤w.heap.size) (p xe xa xq xm:Int):
 Calls Tryz.prog 209 #[iV p,.agg #[iV xe,iV xa,iV xq,iV xm],.pointer (some ⟨bt,0,none⟩)] w fun e w'=>e=.returned (.tuple #[])∧Tly w' B t mr mp (ps++[(p,xe,xa,xq,xm)]) n∧Tch (TF w B t mr mp) w w':=by
 obtain⟨htB,hmrB,hmpB⟩:=h.lt;obtain⟨R,M,ow,m1,m2,f1,f2,o1,o2⟩:=h.ex;have n_t_mr:=zes h.blk m1;have n_t_mp:=zes h.blk m2
 have n_bt_mr:bt≠mr:=fun e=>by
  subst e;obtain⟨es,c,h1,_⟩:=m1;simp[World.cell?,h1]at hbt
 have n_bt_mp:bt≠mp:=fun e=>by
  subst e;obtain⟨es,c,h1,_⟩:=m2;simp[World.cell?,h1]at hbt
 have hown:=f1.at (xe,xa,p);obtain⟨A,c,hv,hc1,hc2,_⟩:=zac hown;have hob:∀g,(Value.slice A (zbf ps (xe,xa,p)).length c).ownBlock=some g→B≤g∧g<w.heap.size:=fun g hg=>hown.lt g (by rw[hv];exact hg)
 have hownP:=f2.at (xe,xa,0);simp only[if_true]at hownP;obtain⟨AP,cP,hvP,hcP1,hcP2,_⟩:=zac hownP;have hobP:∀g,(Value.slice AP (zcd ps xe xa).length cP).ownBlock=some g→B≤g∧g<w.heap.size:=fun g hg=>hownP.lt g (by rw[hvP];exact hg)
 rw[hv]at hown;rw[hvP]at hownP;have hlen:=zfx ps (xe,xa,p);have hlenP:=znb ps xe xa;have hown0:=hown;have hownP0:=hownP
 have HFIN:∀(w2:World) (R' M':List (zgm×Value)) (ow':Nat→Option (Bool×zgm)),Blk w2 t 233 #[.map (some mr),.map (some mp),iV n,iV ((ps.length:Int)+1)]→MapB zez w2 mr R'→MapB zez w2 mp M'→
  Fam 290 3 w2 B R' (fun i=>if i=(xe,xa,p)then(zbf ps (xe,xa,p)).length+1 else(zbf ps i).length) (fun i=>if i=(xe,xa,p)then(zbf ps (xe,xa,p)).flatMap zjk++zjk ((ps.length:Int)+1,xq,xm)else(zbf ps i).flatMap zjk)→
  Fam 3 1 w2 B M' (PN ps p xe xa xq xm) (PC ps p xe xa xq xm)→OwBy true id R' ow'→OwBy false id M' ow'→Tch (TF w B t mr mp) w w2→Ending.returned (.tuple #[])=Ending.returned (.tuple #[])∧Tly w2 B t mr mp (ps++[(p,xe,xa,xq,xm)]) n∧Tch (TF w B t mr mp) w w2:=fun w2 R' M' ow' g1 g2 g3 g4 g5 g6 g7 g8=>
  ⟨rfl,⟨by rw[List.length_append,List.length_singleton];simpa using g1,h.lt,R',M',ow',g2,g3,g4.congr (fun k=>by
   rw[zln];by_cases e:k=(xe,xa,p)
   ·subst e;simp[zbd]
   ·rw[if_neg e,if_neg (show¬zbd (p,xe,xa,xq,xm)=k from fun h=>e h.symm)];simp) (fun k=>by
   rw[zln];by_cases e:k=(xe,xa,p)
   ·subst e;simp[zbd]
   ·rw[if_neg e,if_neg (show¬zbd (p,xe,xa,xq,xm)=k from fun h=>e h.symm)];simp),g5,g6,g7⟩,g8⟩
 have hPN:=fun h=>PN_new (ps:=ps) (p:=p) (xe:=xe) (xa:=xa) xq xm h
 have hPC:=fun h=>PC_new (ps:=ps) (p:=p) (xe:=xe) (xa:=xa) xq xm h
 have hPNo:=fun h=>PN_old (ps:=ps) (p:=p) (xe:=xe) (xa:=xa) xq xm h
 have hPCo:=fun h=>PC_old (ps:=ps) (p:=p) (xe:=xe) (xa:=xa) xq xm h
 generalize hl:zbf ps (xe,xa,p)=l at *;generalize hpl:zcd ps xe xa=pl at *;have HL:=Lib.hid hl;have HPL:=Lib.hid hpl;have HV:=Lib.hid hv;have HVP:=Lib.hid hvP;clear hl hpl hv hvP;have hone:∀g,(Value.slice A l.length c).ownBlock=some g→g=mr→False:=fun g hg e=>by have:=(hob g hg).1;omega
 have honeP:∀g,(Value.slice AP pl.length cP).ownBlock=some g→g=mp→False:=fun g hg e=>by have:=(hobP g hg).1;omega
 have hlenz:(ps.length:Int)<10000:=by omega
 obtain⟨W2,hW2⟩:∃W2,((w.alloc (.cells #[iV xe,iV xa,iV xq,iV xm] 60)).alloc (.cells #[iV xe,iV xa,iV p] 287)).setCell ⟨t,3,none⟩ (iV ((ps.length:Int)+1))=W2:=⟨_,rfl⟩
 have tw2:Tch (fun g=>g=t) w W2:=hW2▸(((Tch.alloc _ _ _).trans (Tch.alloc _ _ _)).trans (Tch.setCell (F:=fun g=>g=t) _ (p:=⟨t,3,none⟩) (.inl rfl) _))
 have bz2:Blk W2 w.heap.size 60 #[iV xe,iV xa,iV xq,iV xm]:=hW2▸((Blk.new w 60 _).alloc _).far (p:=⟨t,3,none⟩) (by show w.heap.size≠t;omega) _;have bs2:Blk W2 (w.heap.size+1) 287 #[iV xe,iV xa,iV p]:=hW2▸(Blk.new2 w _ 287 _).far (p:=⟨t,3,none⟩) (by show w.heap.size+1≠t;omega) _
 have bt2:Blk W2 t 233 #[.map (some mr),.map (some mp),iV n,iV ((ps.length:Int)+1)]:=by
  have:=((h.blk.alloc (.cells #[iV xe,iV xa,iV xq,iV xm] 60)).alloc (.cells #[iV xe,iV xa,iV p] 287)).set_ 3 (iV ((ps.length:Int)+1));rw[hW2]at this;simpa using this
 have bb2:W2.cell? ⟨bt,0,none⟩=some _:=tw2.cell_some hbt hbt1;have hrt:∀k v g,zar R k=some v→v.ownBlock=some g→¬(g=t):=fun k v g hk hg e=>by have:=(f1.lt hk hg).1;omega
 have hmt:∀k v g,zar M k=some v→v.ownBlock=some g→¬(g=t):=fun k v g hk hg e=>by have:=(f2.lt hk hg).1;omega
 have f12:=f1.keep tw2 hrt;have f22:=f2.keep tw2 hmt;have m12:=m1.keep tw2 (fun e=>n_t_mr e.symm);have m22:=m2.keep tw2 (fun e=>n_t_mp e.symm);have hbtl:bt<w.heap.size:=World.block_lt_of_cell? w _ hbt
 have c3b:=((h.blk.alloc (.cells #[iV xe,iV xa,iV xq,iV xm] 60)).alloc (.cells #[iV xe,iV xa,iV p] 287))
 have c3:=c3b.at3;have c3f:=c3b.frozen 3;clear c3b;have cbt:((w.alloc (.cells #[iV xe,iV xa,iV xq,iV xm] 60)).alloc (.cells #[iV xe,iV xa,iV p] 287)).cell? ⟨bt,0,none⟩=some (.pointer (some ⟨t,0,none⟩)):=((tal _ _).trans (Tch.alloc _ _ _)).cell_some hbt id;have HW2:=Lib.hid hW2;have HFN:=Lib.hid HFIN;have HPN:=Lib.hid hPN;have HPC:=Lib.hid hPC;have HPNo:=Lib.hid hPNo;have HPCo:=Lib.hid hPCo;clear hW2 HFIN hPN hPC hPNo hPCo m1 m2 f1 f2 h hrt hmt hown hownP hbt;go_enter Tryz.func209,Tryz.ntmps209;go_wp2_with fail;rw[HW2.out];generalize hzw:w.heap.size=z at *;clear c3 c3f cbt HW2;have y0:=wc0 bb2;have y1:=wc0 bt2.at0;obtain⟨y2,y3,y4⟩:=bs2.w3;refine zai (fun _=>False) [] 5 [] [] ?_ ?_
 ·exact trivial
 intro bef _;iterate 5 (refine zbt ?_;(try simp only[zaw]))
 refine za6 ?_;intro W hr hp1 hap;have t3:=(Tch.drew (fun _=>False) W2).trans hr;refine zh6 rfl _ _ _ false rfl zjn Tryz.underlying230 (zk3 W) (k:=(xe,xa,p)) (by rfl) (by rfl) (m12.keep t3 id).is ?_;simp only[Bool.false_eq_true,if_false];rw[show(zar R (xe,xa,p)).getD (.slice none 0 0)=.slice A l.length c from HV.out];have t5:Tch (TF w B t mr mp) w W:=(tw2.mono fun g _ e=>.inl e).trans (t3.mono fun _ _ e=>e.elim);have f1W:=f12.keep t3 (fun _ _ _ _ _=>id);have f2W:=f22.keep t3 (fun _ _ _ _ _=>id);have m1W:=m12.keep t3 id;have m2W:=m22.keep t3 id;have hbTW:=bt2.keep t3 id;have bzW:=bz2.keep t3 id;have bsW:=bs2.keep t3 id;have bbW:=t3.cell_some bb2 id;clear y0 y1 y2 y3 y4 hap hp1 hr f12 f22 m12 m22 bt2 bz2 bs2 bb2 t3 tw2;by_cases hl0:l.length=0
 case' neg=>
  have h0:((l.length:Int)==0)=false:=by simpa using hl0
  have PM5a:=HPNo.out (fun e=>hl0 (by rw[e];rfl));have PM5b:=HPCo.out (fun e=>hl0 (by rw[e];rfl));clear hl0;go_wp2_with fail;clear h0
  obtain⟨W6,hW6⟩:∃W6,W6=W:=⟨_,rfl⟩
  subst hW6
  obtain⟨M',hMq⟩:∃M',M'=M:=⟨_,rfl⟩
  subst hMq;have f2':=f2W.congr PM5a PM5b;have hbT':=hbTW;have m1':=m1W;have m2':=m2W;have bz':=bzW;have bs':=bsW;have bb':=bbW;have tA:=t5;have f1':=f1W;have o1':=o1;have o2':=o2;clear hbTW m1W m2W bzW bsW bbW t5 f1W f2W
 case' pos=>
  have h0:((l.length:Int)==0)=true:=by simpa using hl0
  have PM5a:=HPN.out (List.eq_nil_of_length_eq_zero hl0);have PM5b:=HPC.out (List.eq_nil_of_length_eq_zero hl0);clear hl0;have tN:=tal W (.cells #[iV xe,iV xa,iV 0] 287);have bnW:=Blk.new W 287 #[iV xe,iV xa,iV 0];obtain⟨g0,g1⟩:=bzW.f2;go_wp2_with fail;have hNz:z≤W.heap.size:=by have:=t5.size;omega
  replace t5:Tch (TF w B t mr mp) w (W.alloc (.cells #[iV xe,iV xa,iV 0] 287)):=t5.trans (tN.mono fun _ _ e=>e.elim)
  replace f1W:=f1W.keep tN (fun _ _ _ _ _=>id)
  replace f2W:=f2W.keep tN (fun _ _ _ _ _=>id)
  replace m1W:=m1W.keep tN id
  replace m2W:=m2W.keep tN id
  replace hbTW:=hbTW.keep tN id
  replace bzW:=bzW.keep tN id
  replace bsW:=bsW.keep tN id
  replace bbW:=tN.cell_some bbW id
  clear g0 g1 tN h0;generalize W.alloc (.cells #[iV xe,iV xa,iV 0] 287)=W5 at *;generalize W.heap.size=N at *;have hownW:W5.ownsRow 0 3 1 (.slice AP pl.length cP) pl.length (pl.flatMap zby):=by have:=zb8 (f2W.at (xe,xa,0));rw[show(zar M (xe,xa,0)).getD ze0=.slice AP pl.length cP from HVP.out]at this;simpa only[HPL.out,if_true]using this
  have hmM:=m2W;obtain⟨es,ck,e1,e2,e3⟩:=hmM;obtain⟨es',ck',st,m',X1,X2,X3⟩:=zlt zjn Tryz.underlying231 zeroInts e2 e3 mp (xe,xa,0);rw[show(zar M (xe,xa,0)).getD (.slice none 0 0)=.slice AP pl.length cP from HVP.out]at X1;by_cases hroom:pl.length+1≤cP
  case' pos=>
   obtain⟨J,hJ⟩:∃J:Nat→World→Prop,J=fun s w'=>(w'.heap[(mp:Nat)]?=some (.map (if s=0 then es else es') (if s=0 then ck else ck')))∧(if s=2 then w'.ownsRow 0 3 1 (.slice AP (pl.length+1) cP) (pl.length+1) ((pl.flatMap zby)++[iV p])else w'.ownsRow 0 3 1 (.slice AP pl.length cP) pl.length (pl.flatMap zby)):=⟨_,rfl⟩
   have HJ:=Lib.hid hJ;clear hJ
   have hFlt:∀g,(fun g=>g=mp∨(Value.slice AP pl.length cP).ownBlock=some g) g→g<W5.heap.size:=fun g hg=>by
    rcases hg with e|e
    ·rw[show g=mp from e];exact m2W.lt
    ·exact(hownW.lt g e).2
   have y0:=zad (F:=fun g=>g=mp∨(Value.slice AP pl.length cP).ownBlock=some g) bbW (fun hf=>by rcases hf with e|e;exact n_bt_mp e;have:=hobP (bt) e;omega);have y1:=zad (F:=fun g=>g=mp∨(Value.slice AP pl.length cP).ownBlock=some g) hbTW.at1 (fun hf=>by rcases hf with e|e;exact n_t_mp e;have:=hobP (t) e;omega);have y2:=zad (F:=fun g=>g=mp∨(Value.slice AP pl.length cP).ownBlock=some g) bnW.at0 (fun hf=>by rcases hf with e|e;have e:N=mp:=e;omega;have:=hobP (N) e;omega);have y3:=zad (F:=fun g=>g=mp∨(Value.slice AP pl.length cP).ownBlock=some g) bnW.at1 (fun hf=>by rcases hf with e|e;have e:N=mp:=e;omega;have:=hobP (N) e;omega);have y4:=zad (F:=fun g=>g=mp∨(Value.slice AP pl.length cP).ownBlock=some g) bnW.at2 (fun hf=>by rcases hf with e|e;have e:N=mp:=e;omega;have:=hobP (N) e;omega);refine zcv (fun g=>g=mp∨(Value.slice AP pl.length cP).ownBlock=some g) [] 11 [(6,.inr (fun u w'=>∃g,u=.slice (some ⟨g,0,none⟩) 1 1∧W5.heap.size≤g∧Blk w' g 3 #[iV p])),(7,.inl (.tuple #[.slice AP pl.length cP,iV (st:Int)])),(9,(.inl (.slice AP (pl.length+1) cP)))] [(7,0),(9,1)] 2 J (by kernel_rfl) rfl (by kernel_rfl) (by kernel_rfl) rfl (fun d _ _ _ _ h=>by cases d<;>exact h) ?_ ?_ (fun s w1 w2 ht hj=>?_) ?_
   ·exact⟨fun v a b hr ⟨g,h1,h2,h3⟩=>⟨g,h1,h2,h3.keep hr (fun hf=>by have:=hFlt g hf;omega)⟩,trivial⟩
   ·rw[HJ.out];exact⟨e1,hownW⟩
   ·rw[HJ.out]at hj⊢;refine⟨(ht.block _ (Array.getElem?_eq_some_iff.1 hj.1).1 id).trans hj.1,?_⟩;have hj2:=hj.2;split at hj2<;>rename_i h0
    ·rw[if_pos h0];exact ht.own hj2 (fun _ _=>id)
    ·rw[if_neg h0];exact ht.own hj2 (fun _ _=>id)
   intro bef ops hbef hops;have hbt':(bef.getD 9 0).testBit 6=true:=by rw[hbef];kernel_rfl
   clear hbef;subst hops;simp only[List.take_succ_cons,List.take_zero,List.drop_succ_cons,List.drop_zero];iterate 6 (refine zib (by rfl) (by rfl) (by rfl) (by rfl) (fun K hK=>?_);go_big_quiet_op;(first|refine hK _ ?_|refine⟨_,fun _=>rfl,hK _ ?_⟩);clear hK K;(try simp only[Act.put,List.setIfInBounds_toArray,List.set_cons_succ,List.set_cons_zero]))
   refine zog (by rfl) (by rfl) (by rfl) (fun w1 hr hf=>?_) (fun vb=>?_)
   ·refine zaa (d:=40) rfl (by simp) (fun K hK=>?_);go_step;exact hK _ _ ⟨⟨_,rfl,hr.size,Blk.new w1 3 _⟩,Tch.alloc _ _ _⟩
   simp only[Act.put,List.setIfInBounds_toArray,List.set_cons_succ,List.set_cons_zero];refine s_fix _ 0 (by rfl) (by rfl) (by rfl) (fun w1 hr hj=>?_) ?_
   ·rw[HJ.out]at hj;obtain⟨w2,hrun,hh,t2⟩:=X1 w1 hj.1;refine zdm (enc:=zez) _ _ _ rfl (k:=(xe,xa,0)) (by rfl) (by rfl) hrun ⟨rfl,t2.mono (fun g _ e=>.inl e),?_⟩;rw[HJ.out];exact⟨hh,t2.own hj.2 (fun g hg e=>honeP g hg e)⟩
   simp only[Act.put,List.setIfInBounds_toArray,List.set_cons_succ,List.set_cons_zero];iterate 1 (refine zib (by rfl) (by rfl) (by rfl) (by rfl) (fun K hK=>?_);go_big_quiet_op;(first|refine hK _ ?_|refine⟨_,fun _=>rfl,hK _ ?_⟩);clear hK K;(try simp only[Act.put,List.setIfInBounds_toArray,List.set_cons_succ,List.set_cons_zero]))
   refine z4v _ 1 (by rfl) (by rfl) (by rfl) (fun w1 hr hj hf=>?_) ?_
   ·obtain⟨gb,rfl,hgb0,hgb⟩:=hf _ (List.mem_singleton.2 rfl) hbt';rw[HJ.out]at hj;refine zg0 _ _ _ rfl zaj hj.2 (by rfl) (Go.Gk.Src.one (news:=[iV p]) rfl (fun k9 u9 hu9=>by rw[hgb.cell k9];first|simpa[zjk]using hu9|simpa using hu9)) (by rfl) (by simp;rfl) hroom (by unfold maxLen;omega) (by omega) (fun w2 ho hg=>⟨rfl,Tch.grown hg (fun k hk=>.inl (.inr hk)),?_⟩);rw[HJ.out];refine⟨((Tch.grown (F:=fun g=>(Value.slice AP pl.length cP).ownBlock=some g) hg (fun k hk=>.inl hk)).block _ (Array.getElem?_eq_some_iff.1 hj.1).1 (fun hk=>honeP _ hk rfl)).trans hj.1,ho⟩
   simp only[Act.put,List.setIfInBounds_toArray,List.set_cons_succ,List.set_cons_zero];iterate 1 (refine zib (by rfl) (by rfl) (by rfl) (by rfl) (fun K hK=>?_);go_big_quiet_op;(first|refine hK _ ?_|refine⟨_,fun _=>rfl,hK _ ?_⟩);clear hK K;(try simp only[Act.put,List.setIfInBounds_toArray,List.set_cons_succ,List.set_cons_zero]))
   refine zxa ?_;intro w1 hr hj hp;rw[HJ.out]at hj;have hva:=hj.2;have hvb:∀g,(Value.slice AP (pl.length+1) cP).ownBlock=some g→(Value.slice AP pl.length cP).ownBlock=some g∨W5.heap.size≤g:=fun g hg=>.inl (by cases AP with |none=>exact hg|some a=>exact hg)
   have hS:=X2 w1 hj.1;clear hp hj hbt' y0 y1 y2 y3 y4;refine zem rfl _ _ _ _ rfl (k:=(xe,xa,0)) (u:=(Value.slice AP (pl.length+1) cP)) (by rfl) (by rfl) (by rfl) hS (fun w2 mm hM hA t2=>?_)
   have hAF:∀k',zar mm k'=if k'=(xe,xa,0)then some (Value.slice AP (pl.length+1) cP)else zar M k':=fun k'=>by
    rw[hA];by_cases e:k'=(xe,xa,0)
    ·rw[if_pos e,if_pos e]
    ·rw[if_neg e,if_neg e];exact X3 k' e
   have t1:=(Tch.drew (fun g=>g=mp∨(Value.slice AP pl.length cP).ownBlock=some g) W5).trans hr;have t1':Tch (fun g=>g=mp∨((zar M (xe,xa,0)).getD ze0).ownBlock=some g) W5 w1:=t1.mono (fun g _ hg=>by rw[show(zar M (xe,xa,0)).getD ze0=.slice AP pl.length cP from HVP.out];exact hg);have hvb':∀g,(Value.slice AP (pl.length+1) cP).ownBlock=some g→((zar M (xe,xa,0)).getD ze0).ownBlock=some g∨W5.heap.size≤g:=fun g hg=>by rw[show(zar M (xe,xa,0)).getD ze0=.slice AP pl.length cP from HVP.out];exact hvb g hg
   have FS:=Fam.step (tag:=false) (f:=id) (fun _ _ h=>h) f2W o2 (by have:=t5.size;omega) hmpB t1' (fun g hg=>hg) hva hvb' t2 hAF;have tt:Tch (fun g=>g=mp∨((zar M (xe,xa,0)).getD ze0).ownBlock=some g) W5 w2:=t1'.trans (t2.mono fun g _ e=>.inl e);have FA:=Fam.aside (tag:=false) (tag':=true) (by decide) f1W o1 o2 hmpB tt (fun g hg=>hg)
   have nF:∀g,g<B→g≠mp→¬(g=mp∨((zar M (xe,xa,0)).getD ze0).ownBlock=some g):=fun g h1 h2 hf=>by
    rcases hf with e|e
    ·exact h2 e
    ·rw[show(zar M (xe,xa,0)).getD ze0=.slice AP pl.length cP from HVP.out]at e;have:=hobP _ e;omega
   have nZ:∀g,z≤g→¬(g=mp∨((zar M (xe,xa,0)).getD ze0).ownBlock=some g):=fun g h1 hf=>by
    rcases hf with e|e
    ·omega
    ·rw[show(zar M (xe,xa,0)).getD ze0=.slice AP pl.length cP from HVP.out]at e;have:=hobP _ e;omega
   have hbT':=hbTW.keep tt (nF t htB n_t_mp);have m1':=m1W.keep tt (nF mr hmrB hne);have bz':=bzW.keep tt (nZ z (Nat.le_refl _));have bs':=bsW.keep tt (nZ (z+1) (by omega));have bb':w2.cell? ⟨bt,0,none⟩=some _:=tt.cell_some bbW (nF bt hbB n_bt_mp)
   have tA:Tch (TF w B t mr mp) w w2:=t5.trans (tt.mono fun g _ hg=>by
    rcases hg with e|e
    ·exact .inr (.inr (.inl e))
    ·rw[show(zar M (xe,xa,0)).getD ze0=.slice AP pl.length cP from HVP.out]at e
     exact .inr (.inr (.inr (ziy (.inr rfl) hownP0 e))))
   have m2':=hM;have f1':=FA.1;have o1':=FA.2;have f2':=FS.1.congr PM5a PM5b;have o2':=FS.2;clear FS FA nF nZ tt t1' hva hvb hvb' hAF t2 t1 hS hM f1W f2W m1W m2W hbTW bzW bsW bbW t5 e1 X1 X2 X3 hroom hownW HJ hFlt hr;(try simp only[Act.put]);go_wp2_with fail
   obtain⟨W6,hW6⟩:∃W6,W6=w2:=⟨_,rfl⟩
   subst hW6
   obtain⟨M',hMq⟩:∃M',M'=mm:=⟨_,rfl⟩
   subst hMq
  case' neg=>
   obtain⟨J,hJ⟩:∃J:Nat→World→Prop,J=fun s w'=>(w'.heap[(mp:Nat)]?=some (.map (if s=0 then es else es') (if s=0 then ck else ck')))∧(if s=2 then True else w'.ownsRow 0 3 1 (.slice AP pl.length cP) pl.length (pl.flatMap zby)):=⟨_,rfl⟩
   have HJ:=Lib.hid hJ;clear hJ
   have hFlt:∀g,(fun g=>g=mp) g→g<W5.heap.size:=fun g hg=>by
    rw[show g=mp from hg];exact m2W.lt
   have y0:=zad (F:=fun g=>g=mp) bbW (fun hf=>by exact n_bt_mp hf);have y1:=zad (F:=fun g=>g=mp) hbTW.at1 (fun hf=>by exact n_t_mp hf);have y2:=zad (F:=fun g=>g=mp) bnW.at0 (fun hf=>by have e:N=mp:=hf;omega);have y3:=zad (F:=fun g=>g=mp) bnW.at1 (fun hf=>by have e:N=mp:=hf;omega);have y4:=zad (F:=fun g=>g=mp) bnW.at2 (fun hf=>by have e:N=mp:=hf;omega);refine zcv (fun g=>g=mp) [] 11 [(6,.inr (fun u w'=>∃g,u=.slice (some ⟨g,0,none⟩) 1 1∧W5.heap.size≤g∧Blk w' g 3 #[iV p])),(7,.inl (.tuple #[.slice AP pl.length cP,iV (st:Int)])),(9,.inr (fun u w'=>w'.ownsRow 0 3 1 u (pl.length+1) ((pl.flatMap zby)++[iV p])∧∀g,u.ownBlock=some g→W5.heap.size≤g))] [(7,0),(9,1)] 2 J (by kernel_rfl) rfl (by kernel_rfl) (by kernel_rfl) rfl (fun d _ _ _ _ h=>by cases d<;>exact h) ?_ ?_ (fun s w1 w2 ht hj=>?_) ?_
   ·exact⟨fun v a b hr ⟨g,h1,h2,h3⟩=>⟨g,h1,h2,h3.keep hr (fun hf=>by have:=hFlt g hf;omega)⟩,fun v a b hr h=>⟨hr.own h.1 (fun g hg hf=>by have:=hFlt g hf;have:=h.2 g hg;omega),h.2⟩,trivial⟩
   ·rw[HJ.out];exact⟨e1,hownW⟩
   ·rw[HJ.out]at hj⊢;refine⟨(ht.block _ (Array.getElem?_eq_some_iff.1 hj.1).1 id).trans hj.1,?_⟩;have hj2:=hj.2;split at hj2<;>rename_i h0
    ·rw[if_pos h0];trivial
    ·rw[if_neg h0];exact ht.own hj2 (fun _ _=>id)
   intro bef ops hbef hops;have hbt':(bef.getD 9 0).testBit 6=true:=by rw[hbef];kernel_rfl
   clear hbef;subst hops;simp only[List.take_succ_cons,List.take_zero,List.drop_succ_cons,List.drop_zero];iterate 6 (refine zib (by rfl) (by rfl) (by rfl) (by rfl) (fun K hK=>?_);go_big_quiet_op;(first|refine hK _ ?_|refine⟨_,fun _=>rfl,hK _ ?_⟩);clear hK K;(try simp only[Act.put,List.setIfInBounds_toArray,List.set_cons_succ,List.set_cons_zero]))
   refine zog (by rfl) (by rfl) (by rfl) (fun w1 hr hf=>?_) (fun vb=>?_)
   ·refine zaa (d:=40) rfl (by simp) (fun K hK=>?_);go_step;exact hK _ _ ⟨⟨_,rfl,hr.size,Blk.new w1 3 _⟩,Tch.alloc _ _ _⟩
   simp only[Act.put,List.setIfInBounds_toArray,List.set_cons_succ,List.set_cons_zero];refine s_fix _ 0 (by rfl) (by rfl) (by rfl) (fun w1 hr hj=>?_) ?_
   ·rw[HJ.out]at hj;obtain⟨w2,hrun,hh,t2⟩:=X1 w1 hj.1;refine zdm (enc:=zez) _ _ _ rfl (k:=(xe,xa,0)) (by rfl) (by rfl) hrun ⟨rfl,t2.mono (fun g _ e=>e),?_⟩;rw[HJ.out];exact⟨hh,t2.own hj.2 (fun g hg e=>honeP g hg e)⟩
   simp only[Act.put,List.setIfInBounds_toArray,List.set_cons_succ,List.set_cons_zero];iterate 1 (refine zib (by rfl) (by rfl) (by rfl) (by rfl) (fun K hK=>?_);go_big_quiet_op;(first|refine hK _ ?_|refine⟨_,fun _=>rfl,hK _ ?_⟩);clear hK K;(try simp only[Act.put,List.setIfInBounds_toArray,List.set_cons_succ,List.set_cons_zero]))
   refine ztd 1 (by rfl) (by rfl) (by rfl) (fun w1 hr hj hf=>?_) (fun va=>?_)
   ·obtain⟨gb,rfl,hgb0,hgb⟩:=hf _ (List.mem_singleton.2 rfl) hbt';rw[HJ.out]at hj;refine zg1 _ _ _ rfl zaj hj.2 (by rfl) (Go.Gk.Src.one (news:=[iV p]) rfl (fun k9 u9 hu9=>by rw[hgb.cell k9];first|simpa[zjk]using hu9|simpa using hu9)) (by rfl) (by simp;rfl) (by omega) (by unfold maxLen;omega) (by omega) (fun v2 w2 ho hnb ht2=>⟨⟨ho,fun g hg=>Nat.le_trans hr.size (hnb g hg)⟩,ht2.mono (fun _ _ h=>h.elim),?_⟩);rw[HJ.out];exact⟨(ht2.block _ (Array.getElem?_eq_some_iff.1 hj.1).1 id).trans hj.1,trivial⟩
   simp only[Act.put,List.setIfInBounds_toArray,List.set_cons_succ,List.set_cons_zero];iterate 1 (refine zib (by rfl) (by rfl) (by rfl) (by rfl) (fun K hK=>?_);go_big_quiet_op;(first|refine hK _ ?_|refine⟨_,fun _=>rfl,hK _ ?_⟩);clear hK K;(try simp only[Act.put,List.setIfInBounds_toArray,List.set_cons_succ,List.set_cons_zero]))
   refine zxa ?_;intro w1 hr hj hp;rw[HJ.out]at hj;obtain⟨hva,hvn⟩:=hp _ (List.Mem.head _);have hvb:∀g,va.ownBlock=some g→(Value.slice AP pl.length cP).ownBlock=some g∨W5.heap.size≤g:=fun g hg=>.inr (hvn g hg)
   have hS:=X2 w1 hj.1;clear hp hj hbt' y0 y1 y2 y3 y4;refine zem rfl _ _ _ _ rfl (k:=(xe,xa,0)) (u:=va) (by rfl) (by rfl) (by rfl) hS (fun w2 mm hM hA t2=>?_)
   have hAF:∀k',zar mm k'=if k'=(xe,xa,0)then some va else zar M k':=fun k'=>by
    rw[hA];by_cases e:k'=(xe,xa,0)
    ·rw[if_pos e,if_pos e]
    ·rw[if_neg e,if_neg e];exact X3 k' e
   have t1:=(Tch.drew (fun g=>g=mp) W5).trans hr;have t1':Tch (fun g=>g=mp∨((zar M (xe,xa,0)).getD ze0).ownBlock=some g) W5 w1:=t1.mono (fun g _ hg=>by rw[show(zar M (xe,xa,0)).getD ze0=.slice AP pl.length cP from HVP.out];exact .inl hg);have hvb':∀g,va.ownBlock=some g→((zar M (xe,xa,0)).getD ze0).ownBlock=some g∨W5.heap.size≤g:=fun g hg=>by rw[show(zar M (xe,xa,0)).getD ze0=.slice AP pl.length cP from HVP.out];exact hvb g hg
   have FS:=Fam.step (tag:=false) (f:=id) (fun _ _ h=>h) f2W o2 (by have:=t5.size;omega) hmpB t1' (fun g hg=>hg) hva hvb' t2 hAF;have tt:Tch (fun g=>g=mp∨((zar M (xe,xa,0)).getD ze0).ownBlock=some g) W5 w2:=t1'.trans (t2.mono fun g _ e=>.inl e);have FA:=Fam.aside (tag:=false) (tag':=true) (by decide) f1W o1 o2 hmpB tt (fun g hg=>hg)
   have nF:∀g,g<B→g≠mp→¬(g=mp∨((zar M (xe,xa,0)).getD ze0).ownBlock=some g):=fun g h1 h2 hf=>by
    rcases hf with e|e
    ·exact h2 e
    ·rw[show(zar M (xe,xa,0)).getD ze0=.slice AP pl.length cP from HVP.out]at e;have:=hobP _ e;omega
   have nZ:∀g,z≤g→¬(g=mp∨((zar M (xe,xa,0)).getD ze0).ownBlock=some g):=fun g h1 hf=>by
    rcases hf with e|e
    ·omega
    ·rw[show(zar M (xe,xa,0)).getD ze0=.slice AP pl.length cP from HVP.out]at e;have:=hobP _ e;omega
   have hbT':=hbTW.keep tt (nF t htB n_t_mp);have m1':=m1W.keep tt (nF mr hmrB hne);have bz':=bzW.keep tt (nZ z (Nat.le_refl _));have bs':=bsW.keep tt (nZ (z+1) (by omega));have bb':w2.cell? ⟨bt,0,none⟩=some _:=tt.cell_some bbW (nF bt hbB n_bt_mp)
   have tA:Tch (TF w B t mr mp) w w2:=t5.trans (tt.mono fun g _ hg=>by
    rcases hg with e|e
    ·exact .inr (.inr (.inl e))
    ·rw[show(zar M (xe,xa,0)).getD ze0=.slice AP pl.length cP from HVP.out]at e
     exact .inr (.inr (.inr (ziy (.inr rfl) hownP0 e))))
   have m2':=hM;have f1':=FA.1;have o1':=FA.2;have f2':=FS.1.congr PM5a PM5b;have o2':=FS.2;clear FS FA nF nZ tt t1' hva hvb hvb' hAF t2 t1 hS hM f1W f2W m1W m2W hbTW bzW bsW bbW t5 e1 X1 X2 X3 hroom hownW HJ hFlt hr;(try simp only[Act.put]);go_wp2_with fail
   obtain⟨W6,hW6⟩:∃W6,W6=w2:=⟨_,rfl⟩
   subst hW6
   obtain⟨M',hMq⟩:∃M',M'=mm:=⟨_,rfl⟩
   subst hMq
 all_goals
  have hownW:W6.ownsRow 0 290 3 (.slice A l.length c) l.length (l.flatMap zjk):=by have:=zb8 (f1'.at (xe,xa,p));rw[show(zar R (xe,xa,p)).getD ze0=.slice A l.length c from HV.out]at this;simpa only[HL.out]using this
  have hmM:=m1';obtain⟨es,ck,e1,e2,e3⟩:=hmM;obtain⟨es',ck',st,m',X1,X2,X3⟩:=zlt zjn Tryz.underlying230 zk3 e2 e3 mr (xe,xa,p);rw[show(zar R (xe,xa,p)).getD (.slice none 0 0)=.slice A l.length c from HV.out]at X1;by_cases hroom:l.length+1≤c
  ·skip
   obtain⟨J,hJ⟩:∃J:Nat→World→Prop,J=fun s w'=>(w'.heap[(mr:Nat)]?=some (.map (if s=0 then es else es') (if s=0 then ck else ck')))∧(if s=2 then w'.ownsRow 0 290 3 (.slice A (l.length+1) c) (l.length+1) ((l.flatMap zjk)++(zjk ((ps.length:Int)+1,xq,xm)))else w'.ownsRow 0 290 3 (.slice A l.length c) l.length (l.flatMap zjk)):=⟨_,rfl⟩
   have HJ:=Lib.hid hJ;clear hJ
   have hFlt:∀g,(fun g=>g=mr∨(Value.slice A l.length c).ownBlock=some g) g→g<W6.heap.size:=fun g hg=>by
    rcases hg with e|e
    ·rw[show g=mr from e];exact m1'.lt
    ·exact(hownW.lt g e).2
   have y0:=zad (F:=fun g=>g=mr∨(Value.slice A l.length c).ownBlock=some g) bb' (fun hf=>by rcases hf with e|e;exact n_bt_mr e;have:=hob (bt) e;omega);have y1:=zad (F:=fun g=>g=mr∨(Value.slice A l.length c).ownBlock=some g) (show W6.cell? ⟨t,0,none⟩=some _ from hbT'.cell 0) (fun hf=>by rcases hf with e|e;exact n_t_mr e;have:=hob (t) e;omega);have y2:=zad (F:=fun g=>g=mr∨(Value.slice A l.length c).ownBlock=some g) (show W6.cell? ⟨t,3,none⟩=some _ from hbT'.cell 3) (fun hf=>by rcases hf with e|e;exact n_t_mr e;have:=hob (t) e;omega);have y3:=zad (F:=fun g=>g=mr∨(Value.slice A l.length c).ownBlock=some g) (show W6.cell? ⟨z+1,0,none⟩=some _ from bs'.cell 0) (fun hf=>by rcases hf with e|e;have e:z+1=mr:=e;omega;have:=hob (z+1) e;omega);have y4:=zad (F:=fun g=>g=mr∨(Value.slice A l.length c).ownBlock=some g) (show W6.cell? ⟨z+1,1,none⟩=some _ from bs'.cell 1) (fun hf=>by rcases hf with e|e;have e:z+1=mr:=e;omega;have:=hob (z+1) e;omega);have y5:=zad (F:=fun g=>g=mr∨(Value.slice A l.length c).ownBlock=some g) (show W6.cell? ⟨z+1,2,none⟩=some _ from bs'.cell 2) (fun hf=>by rcases hf with e|e;have e:z+1=mr:=e;omega;have:=hob (z+1) e;omega);have y6:=zad (F:=fun g=>g=mr∨(Value.slice A l.length c).ownBlock=some g) (show W6.cell? ⟨z,2,none⟩=some _ from bz'.cell 2) (fun hf=>by rcases hf with e|e;have e:z=mr:=e;omega;have:=hob (z) e;omega);have y7:=zad (F:=fun g=>g=mr∨(Value.slice A l.length c).ownBlock=some g) (show W6.cell? ⟨z,3,none⟩=some _ from bz'.cell 3) (fun hf=>by rcases hf with e|e;have e:z=mr:=e;omega;have:=hob (z) e;omega);refine zcv (fun g=>g=mr∨(Value.slice A l.length c).ownBlock=some g) [] 19 [(14,.inr (fun u w'=>∃g,u=.slice (some ⟨g,0,none⟩) 1 1∧W6.heap.size≤g∧Blk w' g 290 #[iV ((ps.length:Int)+1),iV xq,iV xm])),(15,.inl (.tuple #[.slice A l.length c,iV (st:Int)])),(17,(.inl (.slice A (l.length+1) c)))] [(15,0),(17,1)] 2 J (by kernel_rfl) rfl (by kernel_rfl) (by kernel_rfl) rfl (fun d _ _ _ _ h=>by cases d<;>exact h) ?_ ?_ (fun s w1 w2 ht hj=>?_) ?_
   ·exact⟨fun v a b hr ⟨g,h1,h2,h3⟩=>⟨g,h1,h2,h3.keep hr (fun hf=>by have:=hFlt g hf;omega)⟩,trivial⟩
   ·rw[HJ.out];exact⟨e1,hownW⟩
   ·rw[HJ.out]at hj⊢;refine⟨(ht.block _ (Array.getElem?_eq_some_iff.1 hj.1).1 id).trans hj.1,?_⟩;have hj2:=hj.2;split at hj2<;>rename_i h0
    ·rw[if_pos h0];exact ht.own hj2 (fun _ _=>id)
    ·rw[if_neg h0];exact ht.own hj2 (fun _ _=>id)
   intro bef ops hbef hops;have hbt':(bef.getD 17 0).testBit 14=true:=by rw[hbef];kernel_rfl
   clear hbef;subst hops;simp only[List.take_succ_cons,List.take_zero,List.drop_succ_cons,List.drop_zero];iterate 14 (refine zib (by rfl) (by rfl) (by rfl) (by rfl) (fun K hK=>?_);go_big_quiet_op;(first|refine hK _ ?_|refine⟨_,fun _=>rfl,hK _ ?_⟩);clear hK K;(try simp only[Act.put,List.setIfInBounds_toArray,List.set_cons_succ,List.set_cons_zero]))
   refine zog (by rfl) (by rfl) (by rfl) (fun w1 hr hf=>?_) (fun vb=>?_)
   ·refine zaa (d:=59) rfl (by simp) (fun K hK=>?_);go_step;exact hK _ _ ⟨⟨_,rfl,hr.size,Blk.new w1 290 _⟩,Tch.alloc _ _ _⟩
   simp only[Act.put,List.setIfInBounds_toArray,List.set_cons_succ,List.set_cons_zero];refine s_fix _ 0 (by rfl) (by rfl) (by rfl) (fun w1 hr hj=>?_) ?_
   ·rw[HJ.out]at hj;obtain⟨w2,hrun,hh,t2⟩:=X1 w1 hj.1;refine zdm (enc:=zez) _ _ _ rfl (k:=(xe,xa,p)) (by rfl) (by rfl) hrun ⟨rfl,t2.mono (fun g _ e=>.inl e),?_⟩;rw[HJ.out];exact⟨hh,t2.own hj.2 (fun g hg e=>hone g hg e)⟩
   simp only[Act.put,List.setIfInBounds_toArray,List.set_cons_succ,List.set_cons_zero];iterate 1 (refine zib (by rfl) (by rfl) (by rfl) (by rfl) (fun K hK=>?_);go_big_quiet_op;(first|refine hK _ ?_|refine⟨_,fun _=>rfl,hK _ ?_⟩);clear hK K;(try simp only[Act.put,List.setIfInBounds_toArray,List.set_cons_succ,List.set_cons_zero]))
   refine z4v _ 1 (by rfl) (by rfl) (by rfl) (fun w1 hr hj hf=>?_) ?_
   ·obtain⟨gb,rfl,hgb0,hgb⟩:=hf _ (List.mem_singleton.2 rfl) hbt';rw[HJ.out]at hj;refine zg0 _ _ _ rfl ziu hj.2 (by rfl) (Go.Gk.Src.one (news:=(zjk ((ps.length:Int)+1,xq,xm))) rfl (fun k9 u9 hu9=>by rw[hgb.cell k9];first|simpa[zjk]using hu9|simpa using hu9)) (by rfl) (by simpa using zk4 [((ps.length:Int)+1,xq,xm)]) hroom (by unfold maxLen;omega) (by omega) (fun w2 ho hg=>⟨rfl,Tch.grown hg (fun k hk=>.inl (.inr hk)),?_⟩);rw[HJ.out];refine⟨((Tch.grown (F:=fun g=>(Value.slice A l.length c).ownBlock=some g) hg (fun k hk=>.inl hk)).block _ (Array.getElem?_eq_some_iff.1 hj.1).1 (fun hk=>hone _ hk rfl)).trans hj.1,ho⟩
   simp only[Act.put,List.setIfInBounds_toArray,List.set_cons_succ,List.set_cons_zero];iterate 1 (refine zib (by rfl) (by rfl) (by rfl) (by rfl) (fun K hK=>?_);go_big_quiet_op;(first|refine hK _ ?_|refine⟨_,fun _=>rfl,hK _ ?_⟩);clear hK K;(try simp only[Act.put,List.setIfInBounds_toArray,List.set_cons_succ,List.set_cons_zero]))
   refine zxa ?_;intro w1 hr hj hp;rw[HJ.out]at hj;have hva:=hj.2;have hvb:∀g,(Value.slice A (l.length+1) c).ownBlock=some g→(Value.slice A l.length c).ownBlock=some g∨W6.heap.size≤g:=fun g hg=>.inl (by cases A with |none=>exact hg|some a=>exact hg)
   have hS:=X2 w1 hj.1;clear hp hj hbt' y0 y1 y2 y3 y4 y5 y6 y7;refine zem rfl _ _ _ _ rfl (k:=(xe,xa,p)) (u:=(Value.slice A (l.length+1) c)) (by rfl) (by rfl) (by rfl) hS (fun w2 mm hM hA t2=>?_)
   have hAF:∀k',zar mm k'=if k'=(xe,xa,p)then some (Value.slice A (l.length+1) c)else zar R k':=fun k'=>by
    rw[hA];by_cases e:k'=(xe,xa,p)
    ·rw[if_pos e,if_pos e]
    ·rw[if_neg e,if_neg e];exact X3 k' e
   have t1:=(Tch.drew (fun g=>g=mr∨(Value.slice A l.length c).ownBlock=some g) W6).trans hr;have t1':Tch (fun g=>g=mr∨((zar R (xe,xa,p)).getD ze0).ownBlock=some g) W6 w1:=t1.mono (fun g _ hg=>by rw[show(zar R (xe,xa,p)).getD ze0=.slice A l.length c from HV.out];exact hg);have hvb':∀g,(Value.slice A (l.length+1) c).ownBlock=some g→((zar R (xe,xa,p)).getD ze0).ownBlock=some g∨W6.heap.size≤g:=fun g hg=>by rw[show(zar R (xe,xa,p)).getD ze0=.slice A l.length c from HV.out];exact hvb g hg
   have t6:Tch (TF w B t mr mp) w W6:=tA;have FS:=Fam.step (tag:=true) (f:=id) (fun _ _ h=>h) f1' o1' (by have:=tA.size;omega) hmrB t1' (fun g hg=>hg) hva hvb' t2 hAF;have tt:Tch (fun g=>g=mr∨((zar R (xe,xa,p)).getD ze0).ownBlock=some g) W6 w2:=t1'.trans (t2.mono fun g _ e=>.inl e);have FA:=Fam.aside (tag:=true) (tag':=false) (by decide) f2' o2' o1' hmrB tt (fun g hg=>hg)
   have hbF:Blk w2 t 233 _:=hbT'.keep tt (fun hf=>by
    rcases hf with e|e
    ·exact n_t_mr e
    ·rw[show(zar R (xe,xa,p)).getD ze0=.slice A l.length c from HV.out]at e;have:=hob _ e;omega)
   have m2F:MapB zez w2 mp M':=m2'.keep tt (fun hf=>by
    rcases hf with e|e
    ·exact hne e.symm
    ·rw[show(zar R (xe,xa,p)).getD ze0=.slice A l.length c from HV.out]at e;have:=hob _ e;omega)
   have tF:Tch (TF w B t mr mp) w w2:=tA.trans (tt.mono fun g _ hg=>by
    rcases hg with e|e
    ·exact .inr (.inl e)
    ·rw[show(zar R (xe,xa,p)).getD ze0=.slice A l.length c from HV.out]at e
     exact .inr (.inr (.inr (ziy (.inl rfl) hown0 e))))
   have HRES:=Lib.hid (HFN.out w2 mm M' _ hbF hM m2F FS.1 FA.1 FS.2 FA.2 tF);clear tF tt FS FA hbF m2F;go_wp2;go_end0
   exact⟨rfl,HRES.out.2⟩
  ·skip
   obtain⟨J,hJ⟩:∃J:Nat→World→Prop,J=fun s w'=>(w'.heap[(mr:Nat)]?=some (.map (if s=0 then es else es') (if s=0 then ck else ck')))∧(if s=2 then True else w'.ownsRow 0 290 3 (.slice A l.length c) l.length (l.flatMap zjk)):=⟨_,rfl⟩
   have HJ:=Lib.hid hJ;clear hJ
   have hFlt:∀g,(fun g=>g=mr) g→g<W6.heap.size:=fun g hg=>by
    rw[show g=mr from hg];exact m1'.lt
   have y0:=zad (F:=fun g=>g=mr) bb' (fun hf=>by exact n_bt_mr hf);have y1:=zad (F:=fun g=>g=mr) (show W6.cell? ⟨t,0,none⟩=some _ from hbT'.cell 0) (fun hf=>by exact n_t_mr hf);have y2:=zad (F:=fun g=>g=mr) (show W6.cell? ⟨t,3,none⟩=some _ from hbT'.cell 3) (fun hf=>by exact n_t_mr hf);have y3:=zad (F:=fun g=>g=mr) (show W6.cell? ⟨z+1,0,none⟩=some _ from bs'.cell 0) (fun hf=>by have e:z+1=mr:=hf;omega);have y4:=zad (F:=fun g=>g=mr) (show W6.cell? ⟨z+1,1,none⟩=some _ from bs'.cell 1) (fun hf=>by have e:z+1=mr:=hf;omega);have y5:=zad (F:=fun g=>g=mr) (show W6.cell? ⟨z+1,2,none⟩=some _ from bs'.cell 2) (fun hf=>by have e:z+1=mr:=hf;omega);have y6:=zad (F:=fun g=>g=mr) (show W6.cell? ⟨z,2,none⟩=some _ from bz'.cell 2) (fun hf=>by have e:z=mr:=hf;omega);have y7:=zad (F:=fun g=>g=mr) (show W6.cell? ⟨z,3,none⟩=some _ from bz'.cell 3) (fun hf=>by have e:z=mr:=hf;omega);refine zcv (fun g=>g=mr) [] 19 [(14,.inr (fun u w'=>∃g,u=.slice (some ⟨g,0,none⟩) 1 1∧W6.heap.size≤g∧Blk w' g 290 #[iV ((ps.length:Int)+1),iV xq,iV xm])),(15,.inl (.tuple #[.slice A l.length c,iV (st:Int)])),(17,.inr (fun u w'=>w'.ownsRow 0 290 3 u (l.length+1) ((l.flatMap zjk)++(zjk ((ps.length:Int)+1,xq,xm)))∧∀g,u.ownBlock=some g→W6.heap.size≤g))] [(15,0),(17,1)] 2 J (by kernel_rfl) rfl (by kernel_rfl) (by kernel_rfl) rfl (fun d _ _ _ _ h=>by cases d<;>exact h) ?_ ?_ (fun s w1 w2 ht hj=>?_) ?_
   ·exact⟨fun v a b hr ⟨g,h1,h2,h3⟩=>⟨g,h1,h2,h3.keep hr (fun hf=>by have:=hFlt g hf;omega)⟩,fun v a b hr h=>⟨hr.own h.1 (fun g hg hf=>by have:=hFlt g hf;have:=h.2 g hg;omega),h.2⟩,trivial⟩
   ·rw[HJ.out];exact⟨e1,hownW⟩
   ·rw[HJ.out]at hj⊢;refine⟨(ht.block _ (Array.getElem?_eq_some_iff.1 hj.1).1 id).trans hj.1,?_⟩;have hj2:=hj.2;split at hj2<;>rename_i h0
    ·rw[if_pos h0];trivial
    ·rw[if_neg h0];exact ht.own hj2 (fun _ _=>id)
   intro bef ops hbef hops;have hbt':(bef.getD 17 0).testBit 14=true:=by rw[hbef];kernel_rfl
   clear hbef;subst hops;simp only[List.take_succ_cons,List.take_zero,List.drop_succ_cons,List.drop_zero];iterate 14 (refine zib (by rfl) (by rfl) (by rfl) (by rfl) (fun K hK=>?_);go_big_quiet_op;(first|refine hK _ ?_|refine⟨_,fun _=>rfl,hK _ ?_⟩);clear hK K;(try simp only[Act.put,List.setIfInBounds_toArray,List.set_cons_succ,List.set_cons_zero]))
   refine zog (by rfl) (by rfl) (by rfl) (fun w1 hr hf=>?_) (fun vb=>?_)
   ·refine zaa (d:=59) rfl (by simp) (fun K hK=>?_);go_step;exact hK _ _ ⟨⟨_,rfl,hr.size,Blk.new w1 290 _⟩,Tch.alloc _ _ _⟩
   simp only[Act.put,List.setIfInBounds_toArray,List.set_cons_succ,List.set_cons_zero];refine s_fix _ 0 (by rfl) (by rfl) (by rfl) (fun w1 hr hj=>?_) ?_
   ·rw[HJ.out]at hj;obtain⟨w2,hrun,hh,t2⟩:=X1 w1 hj.1;refine zdm (enc:=zez) _ _ _ rfl (k:=(xe,xa,p)) (by rfl) (by rfl) hrun ⟨rfl,t2.mono (fun g _ e=>e),?_⟩;rw[HJ.out];exact⟨hh,t2.own hj.2 (fun g hg e=>hone g hg e)⟩
   simp only[Act.put,List.setIfInBounds_toArray,List.set_cons_succ,List.set_cons_zero];iterate 1 (refine zib (by rfl) (by rfl) (by rfl) (by rfl) (fun K hK=>?_);go_big_quiet_op;(first|refine hK _ ?_|refine⟨_,fun _=>rfl,hK _ ?_⟩);clear hK K;(try simp only[Act.put,List.setIfInBounds_toArray,List.set_cons_succ,List.set_cons_zero]))
   refine ztd 1 (by rfl) (by rfl) (by rfl) (fun w1 hr hj hf=>?_) (fun va=>?_)
   ·obtain⟨gb,rfl,hgb0,hgb⟩:=hf _ (List.mem_singleton.2 rfl) hbt';rw[HJ.out]at hj;refine zg1 _ _ _ rfl ziu hj.2 (by rfl) (Go.Gk.Src.one (news:=(zjk ((ps.length:Int)+1,xq,xm))) rfl (fun k9 u9 hu9=>by rw[hgb.cell k9];first|simpa[zjk]using hu9|simpa using hu9)) (by rfl) (by simpa using zk4 [((ps.length:Int)+1,xq,xm)]) (by omega) (by unfold maxLen;omega) (by omega) (fun v2 w2 ho hnb ht2=>⟨⟨ho,fun g hg=>Nat.le_trans hr.size (hnb g hg)⟩,ht2.mono (fun _ _ h=>h.elim),?_⟩);rw[HJ.out];exact⟨(ht2.block _ (Array.getElem?_eq_some_iff.1 hj.1).1 id).trans hj.1,trivial⟩
   simp only[Act.put,List.setIfInBounds_toArray,List.set_cons_succ,List.set_cons_zero];iterate 1 (refine zib (by rfl) (by rfl) (by rfl) (by rfl) (fun K hK=>?_);go_big_quiet_op;(first|refine hK _ ?_|refine⟨_,fun _=>rfl,hK _ ?_⟩);clear hK K;(try simp only[Act.put,List.setIfInBounds_toArray,List.set_cons_succ,List.set_cons_zero]))
   refine zxa ?_;intro w1 hr hj hp;rw[HJ.out]at hj;obtain⟨hva,hvn⟩:=hp _ (List.Mem.head _);have hvb:∀g,va.ownBlock=some g→(Value.slice A l.length c).ownBlock=some g∨W6.heap.size≤g:=fun g hg=>.inr (hvn g hg)
   have hS:=X2 w1 hj.1;clear hp hj hbt' y0 y1 y2 y3 y4 y5 y6 y7;refine zem rfl _ _ _ _ rfl (k:=(xe,xa,p)) (u:=va) (by rfl) (by rfl) (by rfl) hS (fun w2 mm hM hA t2=>?_)
   have hAF:∀k',zar mm k'=if k'=(xe,xa,p)then some va else zar R k':=fun k'=>by
    rw[hA];by_cases e:k'=(xe,xa,p)
    ·rw[if_pos e,if_pos e]
    ·rw[if_neg e,if_neg e];exact X3 k' e
   have t1:=(Tch.drew (fun g=>g=mr) W6).trans hr;have t1':Tch (fun g=>g=mr∨((zar R (xe,xa,p)).getD ze0).ownBlock=some g) W6 w1:=t1.mono (fun g _ hg=>by rw[show(zar R (xe,xa,p)).getD ze0=.slice A l.length c from HV.out];exact .inl hg);have hvb':∀g,va.ownBlock=some g→((zar R (xe,xa,p)).getD ze0).ownBlock=some g∨W6.heap.size≤g:=fun g hg=>by rw[show(zar R (xe,xa,p)).getD ze0=.slice A l.length c from HV.out];exact hvb g hg
   have t6:Tch (TF w B t mr mp) w W6:=tA;have FS:=Fam.step (tag:=true) (f:=id) (fun _ _ h=>h) f1' o1' (by have:=tA.size;omega) hmrB t1' (fun g hg=>hg) hva hvb' t2 hAF;have tt:Tch (fun g=>g=mr∨((zar R (xe,xa,p)).getD ze0).ownBlock=some g) W6 w2:=t1'.trans (t2.mono fun g _ e=>.inl e);have FA:=Fam.aside (tag:=true) (tag':=false) (by decide) f2' o2' o1' hmrB tt (fun g hg=>hg)
   have hbF:Blk w2 t 233 _:=hbT'.keep tt (fun hf=>by
    rcases hf with e|e
    ·exact n_t_mr e
    ·rw[show(zar R (xe,xa,p)).getD ze0=.slice A l.length c from HV.out]at e;have:=hob _ e;omega)
   have m2F:MapB zez w2 mp M':=m2'.keep tt (fun hf=>by
    rcases hf with e|e
    ·exact hne e.symm
    ·rw[show(zar R (xe,xa,p)).getD ze0=.slice A l.length c from HV.out]at e;have:=hob _ e;omega)
   have tF:Tch (TF w B t mr mp) w w2:=tA.trans (tt.mono fun g _ hg=>by
    rcases hg with e|e
    ·exact .inr (.inl e)
    ·rw[show(zar R (xe,xa,p)).getD ze0=.slice A l.length c from HV.out]at e
     exact .inr (.inr (.inr (ziy (.inl rfl) hown0 e))))
   have HRES:=Lib.hid (HFN.out w2 mm M' _ hbF hM m2F FS.1 FA.1 FS.2 FA.2 tF);clear tF tt FS FA hbF m2F;go_wp2;go_end0
   exact⟨rfl,HRES.out.2⟩
