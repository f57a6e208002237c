/-
  Plain: how many cells there may be in small books; where a fault comes from. No program in sight.
-/
import Derived.Test.YtoegobjnjljegaaGreatDoorZ83
import Derived.ChangeKeysEq
set_option maxRecDepth 100000
set_option maxHeartbeats 6400000
namespace Go.Gk.V38
open Go.RowKit Go.Gk.V32 Go.Gk.V33 Go.Gk.V37
open Go.RowKit Go.Sort Go.Gk.V33
theorem z67 (d:Array (Int×Int)):flatK f2 2 d=(d.toList.flatMap f2).toArray:=by
 refine ext_get! (by simp[zc5 z6p]) fun t ht=>?_
 have ht:t<d.size*2:=by simpa using ht
 have h1:t/2<d.size:=by omega
 rw[get_flatK _ _ _ _ ht];have h2:=zfp z6p d.toList (t/2) (by simpa using h1) (t%2) (Nat.mod_lt _ (by decide));rw[show t/2*2+t%2=t by omega,Array.getElem_toList]at h2;have h3:t<(d.toList.flatMap f2).length:=by rw[zc5 z6p];simpa using ht
 rw[getElem!_pos d (t/2) h1,getElem!_pos (d.toList.flatMap f2).toArray t (by simpa using h3),List.getElem_toArray];have h4:t%2<(f2 d[t/2]).length:=by rw[z6p];exact Nat.mod_lt _ (by decide)
 (try simp only[Array.getElem_toList]);rw[getElem!_pos (f2 d[t/2]) _ h4];rw[List.getElem?_eq_getElem h3,List.getElem?_eq_getElem h4]at h2;exact(Option.some.inj h2).symm
theorem z7l {w:World} {base c g:Nat} {e:TypeId} {l:List (Int×Int)} (h:w.ownsRow base e 2 (.slice (some ⟨g,0,none⟩) l.length c) l.length (l.flatMap f2)):HoldsK f2 2 w g 0 l.toArray:=by
 unfold HoldsK;rw[z67];intro j hj;have hj:j<(l.flatMap f2).length:=by simpa using hj
 rw[Nat.zero_add,id_eq,getElem!_pos (l.flatMap f2).toArray j (by simpa using hj),List.getElem_toArray];refine⟨zk0 h rfl (List.getElem?_eq_getElem hj),?_⟩
 rcases h.2 with⟨hv,_⟩|⟨g',cap,cur,hv,_,hg,_⟩
 ·cases hv
 ·injection hv with e1;injection e1 with e1;injection e1 with e1;subst e1;simp[World.frozen?,hg]
def z68 (x y:Int×Int):Int:=z2k [Lib.compareInt x.1 y.1,Lib.compareInt x.2 y.2]
theorem z64 (x y:Int×Int):z68 x y<0↔x.1<y.1∨(x.1=y.1∧x.2<y.2):=by
 unfold z68;simp only[z7j];simp[z2k]
theorem swoP:SWO (Go.Proofs.ltOf z68) where
 irrefl x:=by
  unfold Go.Proofs.ltOf;rw[decide_eq_false_iff_not,z64];omega
 trans x y z h1 h2:=by
  unfold Go.Proofs.ltOf at *;rw[decide_eq_true_eq,z64]at *;omega
 ntrans x y z h1 h2:=by
  unfold Go.Proofs.ltOf at *;rw[decide_eq_false_iff_not,z64]at *;omega
theorem totP (x y:Int×Int) (h1:Go.Proofs.ltOf z68 x y=false) (h2:Go.Proofs.ltOf z68 y x=false):x=y:=by
 unfold Go.Proofs.ltOf at *;rw[decide_eq_false_iff_not,z64]at *;obtain⟨x1,x2⟩:=x;obtain⟨y1,y2⟩:=y;simp only at h1 h2;simp only[Prod.mk.injEq];omega
def z6s (l:List (Int×Int)):List (Int×Int):=l.mergeSort fun x y=>!(Go.Proofs.ltOf z68) y x
theorem z62 (l:List (Int×Int)):(z6s l).Perm l:=List.mergeSort_perm _ _
theorem z6t (l:List (Int×Int)):(z6s l).length=l.length:=(z62 l).length_eq
theorem z7g (l:List (Int×Int)):(z6s l).Pairwise fun x y=>Go.Proofs.ltOf z68 y x=false:=by
 have h1:(z6s l).Pairwise fun x y=>(!(Go.Proofs.ltOf z68) y x)=true:=List.pairwise_mergeSort (fun a b c h1 h2=>by
  simp only[Bool.not_eq_true']at *
  exact swoP.ntrans _ _ _ h2 h1) (fun a b=>by
  simp only[Bool.or_eq_true,Bool.not_eq_true'];by_cases h:Go.Proofs.ltOf z68 b a=true
  ·right
   cases h9:Go.Proofs.ltOf z68 a b with
   |false=>rfl
   |true=>have:=swoP.trans _ _ _ h h9;rw[swoP.irrefl]at this;cases this
  ·left;simpa using h) l
 exact h1.imp fun h=>by simpa using h
def ded (l:List (Int×Int)):List (Int×Int):=l.foldl (fun o x=>if o.getLast?=some x then o else o++[x]) []
theorem z7h (l:List (Int×Int)) (x:Int×Int):ded (l++[x])=if(ded l).getLast?=some x then ded l else ded l++[x]:=by
 unfold ded;rw[List.foldl_append];rfl
theorem z7m:∀(n:Nat) {l:List (Int×Int)},l.length=n→(l.Pairwise fun x y=>Go.Proofs.ltOf z68 y x=false)→((ded l).Pairwise fun x y=>Go.Proofs.ltOf z68 x y=true)∧(∀x,x∈ded l↔x∈l)∧(ded l).getLast?=l.getLast?
 |0,l,h,_=>by
  obtain rfl:=List.eq_nil_of_length_eq_zero h;simp[ded]
 |n+1,l,h,hs=>by
  obtain⟨r,x,rfl⟩:∃r x,l=r++[x]:=⟨l.dropLast,l.getLast (fun e=>by rw[e]at h;cases h),(List.dropLast_concat_getLast _).symm⟩
  rw[List.length_append,List.length_singleton]at h;rw[List.pairwise_append]at hs;obtain⟨h1,h2,h3⟩:=z7m n (l:=r) (by omega) hs.1;have hx:∀y∈r,Go.Proofs.ltOf z68 x y=false:=fun y hy=>hs.2.2 y hy x (List.mem_singleton.2 rfl)
  rw[z7h,List.getLast?_concat];by_cases hl:(ded r).getLast?=some x
  ·rw[if_pos hl];refine⟨h1,fun y=>?_,hl⟩;rw[h2,List.mem_append,List.mem_singleton];refine⟨.inl,fun h9=>h9.elim id fun h9=>?_⟩;subst h9;rw[h3]at hl;exact List.mem_of_getLast? hl
  ·rw[if_neg hl];refine⟨List.pairwise_append.2 ⟨h1,List.pairwise_singleton _ _,fun a ha c hc=>?_⟩,fun y=>?_,List.getLast?_concat⟩
   ·rw[List.mem_singleton]at hc;subst hc;have ha':=(h2 a).1 ha
    cases h9:Go.Proofs.ltOf z68 a c with
    |true=>rfl
    |false=>
     obtain rfl:=totP a c h9 (hx a ha');exfalso
     apply hl
     rw[h3]
     obtain⟨q,z,rfl⟩:∃q z,r=q++[z]:=⟨r.dropLast,r.getLast (fun e=>by rw[e]at ha';cases ha'),(List.dropLast_concat_getLast _).symm⟩
     rw[List.getLast?_concat];rcases List.mem_append.1 ha' with h8|h8
     ·rw[List.pairwise_append]at hs;have h7:=hs.1.2.2 a h8 z (List.mem_singleton.2 rfl);have h6:=hx z (List.mem_append_right _ (List.mem_singleton.2 rfl));rw[totP z a h7 h6]
     ·rw[List.mem_singleton.1 h8]
   ·rw[List.mem_append,List.mem_append,h2]
end Go.Gk.V38
namespace Go.Proofs.YtoegobjnjljegaaGreatDoor
open Go.RowKit Go.Gk Go.Sort Go.Gk.V33 Go.Gk.V38
theorem or2_any {w:World} {g:Nat} {t:TypeId} {a1 a2:Int} (h:Blk w g t #[iV a1,iV a2]):
 Calls Tryz.prog 183 #[.slice (some ⟨g,0,none⟩) 2 2] w fun x w'=>x=.returned (iV (z2k [a1,a2]))∧w'=w:=by
 obtain⟨f0,f1⟩:=h.f2
 obtain⟨r,hr⟩:∃r,z2k [a1,a2]=r:=⟨_,rfl⟩
 rw[hr];have HR:=Lib.hid hr;clear hr h;go_enter Tryz.func183,Tryz.ntmps183;go_wp2_with fail;go_loopw [8] (fun i wr=>∃j:Nat,j≤2∧i=.int .i64 j∧w=wr∧z2k ([a1,a2].drop j)=r) (fun i _=>2-(intOf i).toNat)
 case atStart=>exact⟨0,by omega,rfl,rfl,HR.out⟩
 case round=>
  obtain⟨j,hj,rfl,rfl,hc⟩:=hrel;have HC:=Lib.hid hc;clear hc;rcases(by omega:j=0∨j=1∨j=2)with rfl|rfl|rfl
  ·have HC:=Lib.hid (show(if a1≠0 then a1 else z2k [a2])=r from HC.out);by_cases hz:a1=0
   ·subst hz;go_wp2;go_roundw
    case rel=>exact⟨1,by omega,by go_num,by trivial,HC.out⟩
    case measure=>simp[intOf]
   ·have hzb:(a1 !=0)=true:=by simpa using hz
    have HZ:=Lib.hid hz;clear hz;go_wp2;(try simp only[Exit.inBlock,Exit.then]);(try rw[Exit.noGoto_ret]);go_ret;exact⟨by rw[←HC.out,if_pos HZ.out];rfl,rfl⟩
  ·have HC:=Lib.hid (show(if a2≠0 then a2 else z2k [])=r from HC.out);by_cases hz:a2=0
   ·subst hz;go_wp2;go_roundw
    case rel=>exact⟨2,by omega,by go_num,by trivial,HC.out⟩
    case measure=>simp[intOf]
   ·have hzb:(a2 !=0)=true:=by simpa using hz
    have HZ:=Lib.hid hz;clear hz;go_wp2;(try simp only[Exit.inBlock,Exit.then]);(try rw[Exit.noGoto_ret]);go_ret;exact⟨by rw[←HC.out,if_pos HZ.out];rfl,rfl⟩
  ·have HC:=Lib.hid (show(0:Int)=r from HC.out);go_wp2;go_ret;exact⟨by rw[←HC.out];rfl,rfl⟩
theorem cmpP_any (x y:Int×Int) (w:World):
 Calls Tryz.prog 108 #[.agg (f2 x).toArray,.agg (f2 y).toArray] w fun e w'=>e=.returned (iV (z68 x y))∧Grw w w':=by
 obtain⟨a1,a2⟩:=x;obtain⟨b1,b2⟩:=y;have HC:=Lib.hid (fun x y w'=>Tryz.cmp_Compare_int x y w');unfold f2 z68;simp only
 obtain⟨r1,hr1⟩:∃r,Lib.compareInt a1 b1=r:=⟨_,rfl⟩
 obtain⟨r2,hr2⟩:∃r,Lib.compareInt a2 b2=r:=⟨_,rfl⟩
 rw[hr1,hr2];have HR:=Lib.hid (⟨hr1,hr2⟩:_∧_);clear hr1 hr2;have bA:=(Blk.new w 110 #[iV a1,iV a2]).keep (tal _ (.cells #[iV b1,iV b2] 110)) id;have bB:=Blk.new2 w (.cells #[iV a1,iV a2] 110) 110 #[iV b1,iV b2];have gW:Grw w ((w.alloc (.cells #[iV a1,iV a2] 110)).alloc (.cells #[iV b1,iV b2] 110)):=(Grw.alloc _ _).trans (Grw.alloc _ _);go_enter Tryz.func108,Tryz.ntmps108;go_wp2_with fail;generalize(w.alloc (.cells #[iV a1,iV a2] 110)).alloc _=W at *;generalize w.heap.size=z at *;have x0:=grc bA.at0;have x1:=grc bA.at1;have y0:=grc bB.at0;have y1:=grc bB.at1;refine z1h 9 [(4,.inl (iV r1))] (by kernel_rfl) rfl (by kernel_rfl) (fun d _ _ _ _ h=>by cases d<;>exact h) trivial ?_;intro bef ops hbef hops;clear hbef;subst hops;simp only[tkS];iterate 4 (refine z3m (by rfl) (by rfl) (by rfl) (by rfl) (fun K hK=>?_);go_big_quiet_op;(first|refine hK _ ?_|refine⟨_,fun _=>rfl,hK _ ?_⟩);clear hK K;(try simp only[zaw]))
 refine z4q (iV r1) (by rfl) (by rfl) (fun wa hr=>?_) ?_
 ·refine zaa (d:=9) rfl (by simp) (fun K hK=>?_);go_step;refine(HC.out a1 b1 wa).mono ?_;rintro _ wb ⟨rfl,rfl⟩;exact hK _ _ ⟨by rw[HR.out.1],Grw.refl _⟩
 simp only[zaw];iterate 4 (refine z3m (by rfl) (by rfl) (by rfl) (by rfl) (fun K hK=>?_);go_big_quiet_op;(first|refine hK _ ?_|refine⟨_,fun _=>rfl,hK _ ?_⟩);clear hK K;(try simp only[zaw]))
 refine q_nil ?_;intro w3 hr;have HC6:=Lib.hid (HC.out a2 b2 w3);rw[HR.out.2]at HC6;have HO:=Lib.hid (or2_any (Blk.new w3 3 #[iV r1,iV r2]));have HG:=Lib.hid (gW.trans ((Grw.drew W).trans hr));clear x0 x1 y0 y1 bA bB gW hr HC;go_wp2_with fail;refine HC6.out.mono ?_;rintro _ _ ⟨rfl,rfl⟩;clear HC6;go_wp2_with fail;refine HO.out.mono ?_;rintro _ _ ⟨rfl,rfl⟩;clear HO;go_wp2;go_ret;exact⟨rfl,HG.out.trans (Grw.alloc _ _)⟩
theorem z7n {w0 w:World} {v:Value} {l:List (Int×Int)} (hO:Outs f2 2 110 w0 w v l) (hn:l.length≤200000):
 Calls Tryz.prog 107 #[v,.func (.func 108) #[] #[]] w fun e w'=>e=.returned (.tuple #[])∧Outs f2 2 110 w0 w' v (z6s l):=by
 obtain⟨A,c,rfl,h1,h2⟩:=hO.form;by_cases h0:0<l.length
 ·obtain⟨g,rfl⟩:=ziq hO.own h0;have hg:=hO.own.lt g rfl;have hcon:=AnyQ.slices_SortFunc_total Tryz.sortPairs 2 Tryz.isAgg110 Tryz.sizeOf110 f2 z6p z7a z68 swoP 108 #[] g 0 c l.toArray w (enters_of Tryz.func108 (by kernel_rfl) rfl) (fun m os dk _ x y=>cmpP_any x y _) (z7l hO.own) hg.2 (by simp;omega) totP;refine(show Calls Tryz.prog 107 _ w _ from hcon).mono ?_;rintro e w' ⟨rfl,n,os,rfl⟩
  have hw:sortWorldK f2 2 w g 0 n (z6s l).toArray os=Go.Sort.grow (putRow id (Go.Sort.ahead w n) g 0 ((z6s l).flatMap f2).toArray) os:=by
   unfold sortWorldK putRowK;rw[z67]
  have ho:=z3n (F:=((z6s l).flatMap f2).toArray) hO.own (by rw[List.size_toArray,zc5 z6p,zc5 z6p,z6t]) n os;have ht:=Tch.putrow id w n g 0 ((z6s l).flatMap f2).toArray os;rw[←hw]at ho ht;refine⟨rfl,⟨?_,hO.tch.trans' ht (fun i hi=>.inr (by have hi:i=g:=hi;omega))⟩⟩;rw[z6t];exact ho
 ·obtain rfl:l=[]:=List.eq_nil_of_length_eq_zero (by omega);refine(show Calls Tryz.prog 107 _ w _ from AnyF.slices_SortFunc_none Tryz.sortPairs A c (.func (.func 108) #[] #[]) w).mono ?_;rintro e w' ⟨rfl,rfl⟩;exact⟨rfl,by simpa[z6s]using hO⟩
end Go.Proofs.YtoegobjnjljegaaGreatDoor
namespace Go.Gk.V38
open Go.RowKit Go.Gk.V33
def mm (q:Int×Int):Int×Int:=(min q.1 q.2,max q.1 q.2)
def z6q (b:Bks) (node p:Int):List (Int×Int):=ded (z6s ((zen b).flatMap fun a=>(zeb b node a p).map mm))
end Go.Gk.V38
namespace Go.Proofs.YtoegobjnjljegaaGreatDoor
open Go.RowKit Go.Gk Go.Gk.V33 Go.Gk.V38
theorem eqPair (a0 a1 b0 b1:Int) (w:World):(Op.equalIn 10000 110 (.agg #[iV a0,iV a1]) (.agg #[iV b0,iV b1])).run Tryz.prog w=.ok (a0==b0&&a1==b1) w:=by
 have u_int:=Tryz.underlying3;have a_int:=Tryz.isAgg3;have z_int:=Tryz.sizeOf3;have hi:Tryz.prog.info? 3=some (Tryz.prog.info? 3).get!:=by kernel_rfl
 have hc:Tryz.prog.cellsOf 3=1:=by kernel_rfl
 rw[show(10000:Nat)=9999+1 from rfl,run_equalIn_array w 9999 _ _ Tryz.underlying110 hi,hc];simp only[List.range,List.range.loop,Op.eqItems];go_simp
 by_cases h0:a0=b0<;>by_cases h1:a1=b1<;>simp[h0,h1]
theorem z6x (a0 a1 b0 b1:Int) (w:World):(binOp .neq 110 (.agg #[iV a0,iV a1]) (.agg #[iV b0,iV b1])).run Tryz.prog w=.ok (.bool (!(a0==b0&&a1==b1))) w:=by
 rw[run_neq_struct,eqPair];rfl
section
variable {w:World} {bv bi B t mr mp:Nat} {e a s r l n lv:Value} {fs:List Value} {b:Bks} {us:List (Ent×Value)}
theorem z7b (h:Vw w bv bi B t mr mp e a s r l n lv fs b us) (hn:(zag b.accs).length≤65) (hpo:(zay b.entries).length≤10000) (hok:zba b=true) {p:Nat} (hp:p<24) (node:Int) (hnode:1≤node∧node≤b.ents.length):
 Calls Tryz.prog 46 #[.pointer (some ⟨bv,0,none⟩),iV node,iV (p:Int)] w fun x w'=>∃u:Value,x=.returned u∧Outs f2 2 110 w w' u (z6q b node p):=by
 have HAC:=Lib.hid (zsg h (by omega));have HPO:=Lib.hid (fun w' (t9:Tf w w') acc=>zx3 (h.keep t9) hpo hok hp node acc hnode);have HPL:=Lib.hid (fun acc=>show(zeb b node acc p).length≤1600 from zl0 (zec hok).1 _ _ _);have HBT:=Lib.hid (show z6q b node p=ded (z6s ((zen b).flatMap fun a=>(zeb b node a p).map mm))from rfl);have hal:(zen b).length≤65:=Nat.le_trans (List.length_filter_le _ _) hn
 obtain⟨PD,hPD⟩:∃PD:Int→List (Int×Int),(fun acc=>zeb b node acc p)=PD:=⟨_,rfl⟩
 have HPD:∀acc,zeb b node acc p=PD acc:=fun acc=>by rw[←hPD]
 simp only[HPD]at HPO HPL HBT;generalize zen b=L at *;generalize z6q b node p=BT at *;clear h hPD HPD;go_enter Tryz.func46,Tryz.ntmps46;go_wp2_with fail;refine HAC.out.mono ?_;rintro _ w1 ⟨u,rfl,hU⟩;have HR:=Lib.hid (fun w' (t9:Tf w1 w')=>hU.row.keep t9);have t1:=hU.tch;obtain⟨O,co,rfl,ho1,ho2⟩:=hU.form;clear HAC hU;go_wp2_with fail;go_loopw [7,18] (fun o i wr=>∃(j:Nat) (xs:List (Int×Int)),j≤L.length∧i=.int .i64 (j:Int)∧xs.length≤1600*j∧((L.take j).flatMap fun a=>(PD a).map mm)=xs∧Outs f2 2 110 w1 wr o xs) (fun _ i _=>L.length-(intOf i).toNat)
 case atStart=>exact⟨0,[],Nat.zero_le _,rfl,Nat.le_refl _,rfl,Outs.start _ _ _ (Tch.refl _ _)⟩
 case round=>
  obtain⟨j,xs,hj,rfl,hxl,hlo,hO⟩:=hrel
  obtain⟨wj,hwj⟩:∃x,x=wr:=⟨_,rfl⟩
  subst hwj;obtain⟨Q,cq,rfl,hq1,hq2⟩:=hO.form;have HLO:=Lib.hid hlo;have hj0:=znn j;clear hlo;by_cases hlt:j<L.length
  ·have hlt':(j:Int)<(L.length:Int):=by omega
   have hl9:=HR.out wj hO.tch;obtain⟨g9,o9,rfl⟩:=hl9.head (by omega);have q0:=Row.one hl9 zap hlt rfl;have HNX:=Lib.hid (show((L.take (j+1)).flatMap fun a=>(PD a).map mm)=xs++(PD L[j]).map mm by rw[List.take_succ_eq_append_getElem hlt,List.flatMap_append,HLO.out];simp);generalize L[j]=x at *;have HPX:=Lib.hid (HPO.out wj (t1.trans hO.tch) x);have hpl:=HPL.out x;generalize PD x=zs at *;clear hl9;go_wp2_with fail;refine HPX.out.mono ?_;rintro _ w2 ⟨u2,rfl,hz⟩;have hzr:=hz.rowN;obtain⟨Z,cz,rfl,hz1,hz2⟩:=hz.form;have hO2:=hO.keep hz.tch;have hsz2:=hz.tch.size;have HZR:=Lib.hid (fun w' (t9:Tch (fun g=>g<wj.heap.size∨w2.heap.size≤g) w2 w')=>Row.keepTo (P':=fun _=>True) (Row.own hz.own (P:=fun g=>wj.heap.size≤g∧g<w2.heap.size) (fun g hg=>hz.own.lt g hg)) t9 (fun g _ hg=>⟨fun e=>by have e:g<wj.heap.size∨w2.heap.size≤g:=e;have hg:wj.heap.size≤g∧g<w2.heap.size:=hg;omega,trivial⟩));have HOB0:=Lib.hid (fun g (hg:(Value.slice Q xs.length cq).ownBlock=some g)=>(hO.own.lt g hg).2);clear HPX q0 hz hzr hO;go_wp2_with fail;go_loopw [7,28] (fun o i wr=>∃(k:Nat) (ys:List (Int×Int)),k≤zs.length∧i=.int .i64 (k:Int)∧ys.length=xs.length+k∧xs++(zs.take k).map mm=ys∧Outs f2 2 110 w1 wr o ys∧(∀g,o.ownBlock=some g→g<wj.heap.size∨w2.heap.size≤g)∧Tch (fun g=>g<wj.heap.size∨w2.heap.size≤g) w2 wr) (fun _ i _=>zs.length-(intOf i).toNat)
   case atStart=>exact⟨0,xs,Nat.zero_le _,rfl,rfl,by simp,hO2,(fun g hg=>.inl (HOB0.out g hg)),Tch.refl _ _⟩
   case round=>
    obtain⟨k,ys,hk,rfl,hyl,hylo,hOy,hob,hty⟩:=hrel
    obtain⟨wk,hwk⟩:∃x,x=wr:=⟨_,rfl⟩
    subst hwk;obtain⟨Qy,cqy,rfl,hqy1,hqy2⟩:=hOy.form;have HYL:=Lib.hid hylo;have HOB:=Lib.hid hob;have hk0:=znn k;clear hylo hob;by_cases hkt:k<zs.length
    ·have hkt':(k:Int)<(zs.length:Int):=by omega
     have hz9:=HZR.out wk hty;obtain⟨g8,o8,rfl⟩:=hz9.head (by omega);obtain⟨q0,q1⟩:=Row.two hz9 z6p hkt rfl;have HNY:=Lib.hid (show xs++(zs.take (k+1)).map mm=ys++[mm zs[k]] by rw[List.take_succ_eq_append_getElem hkt,List.map_append,←List.append_assoc,HYL.out];rfl);generalize zs[k]=q at *;obtain⟨y1,y2⟩:=q;simp only at q0 q1;have tA:=tal wk (.cells #[iV y1,iV y2] 110);have bz:=Blk.new wk 110 #[iV y1,iV y2];have tB:=tal (wk.alloc (.cells #[iV y1,iV y2] 110)) (.cells #[iV (min y1 y2),iV (max y1 y2)] 110);have HBE:=Lib.hid (fun m9=>(Blk.new2 wk (.cells #[iV y1,iV y2] 110) 110 #[iV (min y1 y2),iV (max y1 y2)]).cell m9);have hO3:=hOy.keep (tA.trans tB);have hty3:=hty.trans (Exn.touch (tA.trans tB));have hsk:=(hty.trans (Exn.touch tA)).size;have hyb:ys.length≤110000:=by omega
     have HYN:=Lib.hid hyl;obtain⟨z0,z1⟩:=bz.f2;clear hz9 hOy hty bz tA tB hyl;go_wp2_with (at_builtin;refine apd rowP2 hO3.own (Go.Gk.Src.one (news:=f2 (mm (y1,y2))) rfl (fun m9 u9 hu9=>by rw[HBE.out m9];simpa[f2,mm]using hu9)) (z7a _) ?_ (h63:=by unfold maxLen;omega) (hbytes:=by omega);refine Hid.out ?_);refine Lib.hid ?_;intro v2 w4 ho2 hg2 hl2;have hO4:=hO3.step (x:=mm (y1,y2)) (Tch.refl _ _) ho2 hg2 (fun g hg=>by simpa using hl2 g hg);have hty5:=hty3.trans' (F':=fun g=>g<wj.heap.size∨w2.heap.size≤g) (Tch.grown hg2 (fun k9 e9=>.inl (HOB.out k9 e9))) (fun i hi=>.inl hi)
     have HOB4:=Lib.hid (show∀g,v2.ownBlock=some g→g<wj.heap.size∨w2.heap.size≤g from fun g hg=>by
      rcases hl2 g hg with h9|h9
      ·exact HOB.out g h9
      ·have hs3:=hty3.size;simp only[World.size_alloc]at hs3
       exact .inr (by omega))
     obtain⟨O2,co2,rfl,_,_⟩:=zac ho2;clear hO3 hty3 ho2 hg2 hl2 HBE q0 q1 z0 z1;go_wp2;go_roundw
     case rel=>exact⟨k+1,ys++[mm (y1,y2)],by omega,by go_num,by rw[List.length_append,HYN.out,List.length_singleton];omega,HNY.out,by simpa using hO4,HOB4.out,hty5⟩
     case measure=>simp[intOf]<;>omega
    ·obtain rfl:k=zs.length:=by omega
     have hkt':¬(zs.length:Int)<(zs.length:Int):=by omega
     have HYZ:=Lib.hid (show((L.take (j+1)).flatMap fun a=>(PD a).map mm)=ys by
      rw[HNX.out];have h9:=HYL.out;rw[List.take_length]at h9
      exact h9)
     have hyc:ys.length≤1600*(j+1):=by omega
     clear hkt hyl;go_wp2;go_roundw
     case rel=>exact⟨j+1,ys,by omega,by go_num,hyc,HYZ.out,hOy⟩
     case measure=>simp[intOf]<;>omega
  ·obtain rfl:j=L.length:=by omega
   have hlt':¬(L.length:Int)<(L.length:Int):=by omega
   have hxs:=HLO.out;rw[List.take_length]at hxs;rw[hxs]at HBT;have HSO:=Lib.hid (z7n hO (by omega));have hsl:(z6s xs).length≤110000:=by rw[z6t];omega
   have hsn:=z6t xs;clear hxs HLO HR;rw[←hsn]at HSO⊢;generalize z6s xs=SS at *;have HSN:=Lib.hid hsn;clear hO hsn hxl hq1;go_wp2_with fail;refine HSO.out.mono ?_;rintro _ w9 ⟨rfl,hO9⟩;have HRW:=Lib.hid (fun w' (t9:Tf w9 w')=>hO9.row.keep t9);have T9:=Lib.hid (t1.trans hO9.tch);clear HSO hO9;go_wp2_with fail;go_loopw [12,52] (fun o i wr=>∃(j:Nat) (ys:List (Int×Int)),j≤SS.length∧i=.int .i64 (j:Int)∧ys.length≤j∧ded (SS.take j)=ys∧Outs f2 2 110 w9 wr o ys) (fun _ i _=>SS.length-(intOf i).toNat)
   case atStart=>exact⟨0,[],Nat.zero_le _,rfl,Nat.le_refl _,rfl,Outs.start _ _ _ (Tch.refl _ _)⟩
   case round=>
    obtain⟨j,ys,hj,rfl,hyl,hdd,hO⟩:=hrel;have HDD:=Lib.hid hdd;have hj0:=znn j;clear hdd;obtain⟨Y,cy,rfl,hy1,hy2⟩:=hO.form;by_cases hlt:j<SS.length
    ·have hlt':(j:Int)<(SS.length:Int):=by omega
     have hl9:=HRW.out wr hO.tch;obtain⟨g9,o9,rfl⟩:=hl9.head (by omega);obtain⟨q0,q1⟩:=Row.two hl9 z6p hlt rfl;have HNX:=Lib.hid (show ded (SS.take (j+1))=if ys.getLast?=some SS[j]then ys else ys++[SS[j]] by rw[List.take_succ_eq_append_getElem hlt,z7h,HDD.out]);generalize SS[j]=q at *;obtain⟨x1,x2⟩:=q;simp only at q0 q1;have tA:=tal wr (.cells #[iV x1,iV x2] 110);have bz:=Blk.new wr 110 #[iV x1,iV x2];have hOA:=hO.keep tA;obtain⟨z0,z1⟩:=bz.f2;clear hl9 hO tA;by_cases h0:ys.length=0
     ·obtain rfl:ys=[]:=List.eq_nil_of_length_eq_zero h0;clear h0;simp only[List.length_nil]at hOA hyl hy1⊢;go_wp2_with fail;generalize wr.alloc _=W at *;generalize wr.heap.size=zb at *;go_quiet (fail)
      rename_i nq
      have t4:Tf W (W.drewN nq):=Tch.drewN _ _ _;have bz4:=bz.keep t4 id;have tB:=tal (W.drewN nq) (.cells #[iV x1,iV x2] 110);have HBE:=Lib.hid (fun m9=>(Blk.new (W.drewN nq) 110 #[iV x1,iV x2]).cell m9);have hO4:=(hOA.keep t4).keep tB;clear z0 z1 q0 q1 hOA bz t4 tB;obtain⟨z0,z1⟩:=bz4.f2;generalize W.drewN nq=W4 at *;go_wp2_with (at_builtin;refine Hid.out ?_);refine Lib.hid ?_;refine apd rowP2 hO4.own (Go.Gk.Src.one (news:=f2 (x1,x2)) rfl (fun m9 u9 hu9=>by rw[HBE.out m9];simpa[f2]using hu9)) (z7a _) ?_ (h63:=by unfold maxLen;simp) (hbytes:=by simp);intro v2 w5 ho2 hg2 hl2;have hO5:=hO4.step (x:=(x1,x2)) (Tch.refl _ _) ho2 hg2 (fun g hg=>by simpa using hl2 g hg);obtain⟨O2,co2,rfl,_,_⟩:=zac ho2;clear hO4 ho2 hg2 hl2 HBE;go_wp2;go_roundw
      case rel=>exact⟨j+1,[(x1,x2)],by omega,by go_num,by simp,by rw[HNX.out];rfl,by simpa using hO5⟩
      case measure=>simp[intOf]<;>omega
     ·obtain⟨yi,lq,rfl⟩:∃yi lq,ys=yi++[lq]:=⟨ys.dropLast,ys.getLast (fun e=>h0 (by rw[e];rfl)),(List.dropLast_concat_getLast _).symm⟩
      obtain⟨gy,rfl⟩:=ziq hOA.own (by omega);have hlN:(yi++[lq]).length=yi.length+1:=by simp
      obtain⟨p0,p1⟩:=Row.two (i:=yi.length) hOA.row z6p (by omega) (by rw[List.getElem_concat_length rfl];rfl);obtain⟨l1,l2⟩:=lq;simp only at p0 p1;rw[List.getLast?_concat]at HNX
      obtain⟨N,hN⟩:∃N,yi.length+1=N:=⟨_,rfl⟩
      have hN1:yi.length=N-1:=by omega
      have hOB:Outs f2 2 110 w9 (wr.alloc (.cells #[iV x1,iV x2] 110)) (.slice (some ⟨gy,0,none⟩) N cy) (yi++[(l1,l2)]):=by rw[←hN,←hlN];exact hOA
      rw[hlN,hN]at hyl hy1⊢;rw[hN1]at p0 p1;simp only[Nat.zero_add]at p0 p1;have HN:=Lib.hid hN;have HNL:=Lib.hid (show(yi++[(l1,l2)]).length=N by rw[hlN,hN]);have hN0:((N:Int)==0)=false:=by rw[beq_eq_false_iff_ne];omega
      have hNp:(N:Int)>0:=by omega
      have hNq:(0:Int)≤(N:Int)-1:=by omega
      have hNk:(N:Int)≤(cy:Int):=by omega
      have hk63:(cy:Int)≤9223372036854775807:=by unfold maxLen at hy2;omega
      have hNs:N≤110000:=by omega
      clear hN hN1 hlN hOA h0;by_cases he:((l1,l2):Int×Int)=(x1,x2)
      ·have HNZ:=Lib.hid (show ded (SS.take (j+1))=yi++[(l1,l2)] by rw[HNX.out,if_pos (by rw[he])])
       have hcmp:∀w':World,(binOp .neq 110 (.agg #[iV l1,iV l2]) (.agg #[iV x1,iV x2])).run Tryz.prog w'=.ok (.bool false) w':=fun w'=>by
        simp only[Prod.mk.injEq]at he;obtain⟨rfl,rfl⟩:=he;rw[z6x];simp
       clear he HNX;go_wp2_with fail;generalize wr.alloc _=W at *;generalize wr.heap.size=zb at *;go_quiet (fail)
       rename_i nq
       have t4:Tf W (W.drewN nq):=Tch.drewN _ _ _;have hO4:=hOB.keep t4;clear z0 z1 q0 q1 p0 p1 hOB bz t4;generalize W.drewN nq=W4 at *;go_wp2;go_roundw
       case rel=>exact⟨j+1,yi++[(l1,l2)],by omega,by go_num,by rw[HNL.out];omega,HNZ.out,hO4⟩
       case measure=>simp[intOf]<;>omega
      ·have HNZ:=Lib.hid (show ded (SS.take (j+1))=(yi++[(l1,l2)])++[(x1,x2)] by rw[HNX.out,if_neg (fun h9=>he (Option.some.inj h9))])
       have hcmp:∀w':World,(binOp .neq 110 (.agg #[iV l1,iV l2]) (.agg #[iV x1,iV x2])).run Tryz.prog w'=.ok (.bool true) w':=fun w'=>by
        rw[z6x];congr 2;rw[Bool.not_eq_true'];refine Bool.eq_false_iff.2 fun h9=>he ?_
        simp only[Bool.and_eq_true,beq_iff_eq]at h9;simp only[h9]
       clear he HNX;go_wp2_with fail;generalize wr.alloc _=W at *;generalize wr.heap.size=zb at *;go_quiet (fail)
       rename_i nq
       have t4:Tf W (W.drewN nq):=Tch.drewN _ _ _;have bz4:=bz.keep t4 id;have tB:=tal (W.drewN nq) (.cells #[iV x1,iV x2] 110);have HBE:=Lib.hid (fun m9=>(Blk.new (W.drewN nq) 110 #[iV x1,iV x2]).cell m9);have hO4:=(hOB.keep t4).keep tB;have HOW:=Lib.hid (show((W.drewN nq).alloc (.cells #[iV x1,iV x2] 110)).ownsRow w9.heap.size 110 2 (.slice (some ⟨gy,0,none⟩) N cy) N ((yi++[(l1,l2)]).flatMap f2)from by have h9:=hO4.own;rw[HNL.out]at h9;exact h9);clear z0 z1 q0 q1 p0 p1 hOB bz t4 tB;obtain⟨z0,z1⟩:=bz4.f2;generalize W.drewN nq=W4 at *;go_wp2_with (at_builtin;refine Hid.out ?_);refine Lib.hid ?_;refine apd rowP2 HOW.out (Go.Gk.Src.one (news:=f2 (x1,x2)) rfl (fun m9 u9 hu9=>by rw[HBE.out m9];simpa[f2]using hu9)) (z7a _) ?_ (h63:=by unfold maxLen;omega) (hbytes:=by omega);intro v2 w5 ho2 hg2 hl2;have hO5:=hO4.step (x:=(x1,x2)) (Tch.refl _ _) (by rw[HNL.out];exact ho2) hg2 hl2;obtain⟨O2,co2,rfl,_,_⟩:=zac ho2;clear hO4 ho2 hg2 hl2 HBE HOW;go_wp2;go_roundw
       case rel=>exact⟨j+1,(yi++[(l1,l2)])++[(x1,x2)],by omega,by go_num,by rw[List.length_append,HNL.out,List.length_singleton];omega,HNZ.out,by first|exact hO5|simpa using hO5⟩
       case measure=>simp[intOf]<;>omega
    ·obtain rfl:j=SS.length:=by omega
     have hlt':¬(SS.length:Int)<(SS.length:Int):=by omega
     have hdd:=HDD.out;rw[List.take_length]at hdd;have HEN:=Lib.hid (hO.base T9.out);have HBB:=Lib.hid (HBT.out.trans hdd);clear hlt hyl hO;go_wp2;go_ret;refine⟨_,rfl,?_⟩;rw[HBB.out];exact HEN.out
end
end Go.Proofs.YtoegobjnjljegaaGreatDoor
namespace Go.Gk.V33
section
variable {l:List zbv} {n:Int} {p:Nat}
theorem zvo (hp:p<24) (hok:zan l n=true) (e:Int):∃out,Chain (fun y=>zam l y p) e out 0:=by
 have h:∀k:Nat,(∃out,Chain (fun y=>zam l y p) e out 0)∨∃out x,Chain (fun y=>zam l y p) e out x∧out.length=k∧x≠0:=by
  intro k;induction k with
  |zero=>
   have hs:Chain (fun y=>zam l y p) e [] (zam l e p):=.start;by_cases h0:zam l e p=0
   ·rw[h0]at hs;exact .inl ⟨_,hs⟩
   ·exact .inr ⟨_,_,hs,rfl,h0⟩
  |succ k ih=>
   rcases ih with h|⟨out,x,hc,hl,h0⟩
   ·exact .inl h
   ·have hs:Chain (fun y=>zam l y p) e (out++[x]) (zam l x p):=.step hc h0 (zl2 hp hok hc);by_cases h1:zam l x p=0
    ·rw[h1]at hs;exact .inl ⟨_,hs⟩
    ·exact .inr ⟨_,_,hs,by simp[hl],h1⟩
 rcases h (l.length+1)with h|⟨out,x,hc,hl,_⟩
 ·exact h
 ·have:=zf0 hc;omega
def zbw (l:List zbv) (p:Int) (e:Int):List Int:=e::zds l p e
theorem zjc (l:List zbv) (p e:Int):e∈zbw l p e:=List.mem_cons_self ..
theorem zq0 {p t e:Int}:zbm l p t e=true↔t∈zbw l p e:=by
 unfold zbm zbw;rw[Bool.or_eq_true,beq_iff_eq,List.contains_iff_mem,List.mem_cons]
theorem ztt (hp:p<24) (hok:zan l n=true) (e:Int):zds l p e=if zam l e p=0 then[]else zbw l p (zam l e p):=by
 by_cases h0:zam l e p=0
 ·unfold zds;rw[h0,zg3,if_pos rfl]
 ·rw[if_neg h0];obtain⟨out,hc⟩:=zvo hp hok (zam l e p);have hL:=zf0 hc;have e1:=zp5 hc (l.length-out.length);rw[show out.length+(l.length-out.length)=l.length by omega,zg3,List.append_nil]at e1;have e2:=zl3 hc;unfold zbw;rw[e2,←e1];unfold zds;conv=>lhs;unfold zq4
  rw[if_neg h0]
theorem zyd (hp:p<24) (hok:zan l n=true):∀(m:Nat) (e t:Int),(zds l p e).length=m→t∈zbw l p e→zbw l p t<:+zbw l p e:=by
 intro m;induction m with
 |zero=>
  intro e t hm ht;unfold zbw at ht;rw[List.eq_nil_of_length_eq_zero hm,List.mem_singleton]at ht;subst ht;exact List.suffix_refl _
 |succ m ih=>
  intro e t hm ht;rcases List.mem_cons.1 ht with rfl|ht
  ·exact List.suffix_refl _
  ·have hs:=ztt hp hok e;by_cases h0:zam l e p=0
   ·rw[if_pos h0]at hs;rw[hs]at ht
    cases ht
   ·rw[if_neg h0]at hs;rw[hs]at ht
    have hl:(zds l p (zam l e p)).length=m:=by
     have h9:=congrArg List.length hs;unfold zbw at h9;rw[hm,List.length_cons]at h9;omega
    have h1:=ih _ t hl ht;refine h1.trans ?_;show zbw l p (zam l e p)<:+e::zds l p e;rw[hs];exact List.suffix_cons ..
theorem zmh (hp:p<24) (hok:zan l n=true) {e t:Int} (h:t∈zbw l p e):zbw l p t<:+zbw l p e:=zyd hp hok _ e t rfl h
theorem zye (hp:p<24) (hok:zan l n=true) {e t x:Int} (h1:t∈zbw l p e) (h2:e∈zbw l p x):t∈zbw l p x:=(zmh hp hok h2).subset h1
theorem way_anti (hp:p<24) (hok:zan l n=true) {e t:Int} (h1:t∈zbw l p e) (h2:e∈zbw l p t):t=e:=by
 have s1:=zmh hp hok h1;have s2:=zmh hp hok h2;have h:=s1.eq_of_length (Nat.le_antisymm s1.length_le s2.length_le);unfold zbw at h;exact(List.cons.inj h).1
theorem way_comp (hp:p<24) (hok:zan l n=true) {a i j:Int} (h1:i∈zbw l p a) (h2:j∈zbw l p a):i∈zbw l p j∨j∈zbw l p i:=by
 rcases List.suffix_or_suffix_of_suffix (zmh hp hok h1) (zmh hp hok h2)with h|h
 ·exact .inl (h.subset (zjc ..))
 ·exact .inr (h.subset (zjc ..))
theorem zyf (hp:p<24) (hok:zan l n=true) (F:Int→Bool) {best:Int} (h1:F best=true):∀(m:Nat) (a:Int),(zds l p a).length=m→best∈zbw l p a→(∀t∈zbw l p a,F t=true→t∈zbw l p best)→(zbw l p a).find? F=some best:=by
 intro m;induction m with
 |zero=>
  intro a hm hb hall;have hb2:=hb;unfold zbw at hb⊢;rw[List.eq_nil_of_length_eq_zero hm]at hb⊢;rw[List.mem_singleton]at hb;subst hb;rw[List.find?_cons_of_pos h1]
 |succ m ih=>
  intro a hm hb hall;by_cases ha:F a=true
  ·have:=way_anti hp hok (hall a (zjc ..) ha) hb;subst this;unfold zbw;rw[List.find?_cons_of_pos ha]
  ·have hs:=ztt hp hok a;by_cases h0:zam l a p=0
   ·rw[if_pos h0]at hs;rw[hs]at hm
    cases hm
   ·rw[if_neg h0]at hs
    have hl:(zds l p (zam l a p)).length=m:=by
     have h9:=congrArg List.length hs;unfold zbw at h9;rw[hm,List.length_cons]at h9;omega
    have hbu:best∈zds l p a:=by
     rcases List.mem_cons.1 hb with e|e
     ·exact absurd (e▸h1) ha
     ·exact e
    rw[hs]at hbu;have:=ih _ hl hbu (fun t ht=>hall t (List.mem_cons_of_mem _ (by rw[hs];exact ht)));show(a::zds l p a).find? F=some best;rw[List.find?_cons_of_neg ha,hs];exact this
def zc3 (l:List zbv) (p:Int) (n:Nat) (top x:Int):Bool:=((decide (1≤top)&&decide (top≤n))&&(decide (1≤x)&&decide (x≤n)))&&zbm l p top x
def zgi (l:List zbv) (p:Int) (n:Nat) (a b best i:Int):Int:=if(zc3 l p n i a&&zc3 l p n i b&&(best==0||zc3 l p n best i))=true then i else best
def zq1 (l:List zbv) (p:Int) (n:Nat) (a b:Int):Int:=(zal n).foldl (zgi l p n a b) 0
theorem zos {l:List zbv} {p:Int} {n:Nat} {top x:Int} (h1:1≤top∧top≤n) (h2:1≤x∧x≤n):zc3 l p n top x=true↔top∈zbw l p x:=by
 unfold zc3;rw[Bool.and_eq_true,zq0];simp[h1.1,h1.2,h2.1,h2.2]
def zyg (l:List zbv) (p:Int) (a b:Int) (xs:List Int) (best:Int):Prop:=(best=0∧∀i∈xs,¬(i∈zbw l p a∧i∈zbw l p b))∨(best∈xs∧(best∈zbw l p a∧best∈zbw l p b)∧∀i∈xs,i∈zbw l p a∧i∈zbw l p b→i∈zbw l p best)
theorem ztu {n:Nat} (hp:p<24) (hok:zan l n=true) {a b:Int} (ha:1≤a∧a≤(n:Int)) (hb:1≤b∧b≤(n:Int)):∀(ys xs:List Int) (best:Int),(∀y∈xs++ys,1≤y∧y≤(n:Int))→zyg l p a b xs best→zyg l p a b (xs++ys) (ys.foldl (zgi l p n a b) best)
 |[],xs,best,_,h=>by rw[List.append_nil];exact h
 |y::ys,xs,best,hr,h=>by
  have hy:=hr y (List.mem_append.2 (.inr (List.mem_cons_self ..)));rw[show xs++y::ys=(xs++[y])++ys by simp,List.foldl_cons];refine ztu hp hok ha hb ys (xs++[y]) _ (by simpa using hr) ?_;have e1:=zos (l:=l) (p:=p) hy ha;have e2:=zos (l:=l) (p:=p) hy hb;unfold zgi;by_cases hc:y∈zbw l p a∧y∈zbw l p b
  ·rw[e1.2 hc.1,e2.2 hc.2]
   rcases h with⟨rfl,h⟩|⟨hm,hcb,h⟩
   ·rw[if_pos (by simp)];refine .inr ⟨by simp,hc,fun i hi hci=>?_⟩;rcases List.mem_append.1 hi with hi|hi
    ·exact absurd hci (h i hi)
    ·rw[List.mem_singleton]at hi;subst hi;exact zjc ..
   ·have hbr:=hr best (List.mem_append.2 (.inl hm));have e3:=zos (l:=l) (p:=p) hbr hy;by_cases hby:best∈zbw l p y
    ·rw[e3.2 hby,if_pos (by simp)];refine .inr ⟨by simp,hc,fun i hi hci=>?_⟩;rcases List.mem_append.1 hi with hi|hi
     ·exact zye hp hok (h i hi hci) hby
     ·rw[List.mem_singleton]at hi;subst hi;exact zjc ..
    ·have h3:zc3 l p n best y=false:=by
      cases h9:zc3 l p n best y with
      |false=>rfl
      |true=>exact absurd (e3.1 h9) hby
     have hb0:(best==0)=false:=by rw[beq_eq_false_iff_ne];omega
     rw[h3,hb0,if_neg (by simp)];refine .inr ⟨List.mem_append.2 (.inl hm),hcb,fun i hi hci=>?_⟩;rcases List.mem_append.1 hi with hi|hi
     ·exact h i hi hci
     ·rw[List.mem_singleton]at hi;subst hi
      exact(way_comp hp hok hc.1 hcb.1).resolve_right hby
  ·have h3:(zc3 l p n y a&&zc3 l p n y b)=false:=by
    cases h9:zc3 l p n y a with
    |false=>rfl
    |true=>
     cases h8:zc3 l p n y b with
     |false=>rfl
     |true=>exact absurd ⟨e1.1 h9,e2.1 h8⟩ hc
   rw[h3,if_neg (by simp)]
   rcases h with⟨rfl,h⟩|⟨hm,hcb,h⟩
   ·refine .inl ⟨rfl,fun i hi=>?_⟩;rcases List.mem_append.1 hi with hi|hi
    ·exact h i hi
    ·rw[List.mem_singleton]at hi;subst hi;exact hc
   ·refine .inr ⟨List.mem_append.2 (.inl hm),hcb,fun i hi hci=>?_⟩;rcases List.mem_append.1 hi with hi|hi
    ·exact h i hi hci
    ·rw[List.mem_singleton]at hi;subst hi;exact absurd hci hc
theorem z7o {n:Nat} (hp:p<24) (hok:zan l n=true) {a b:Int} (ha:1≤a∧a≤(n:Int)) (hb:1≤b∧b≤(n:Int)):zq1 l p n a b=ze5 l p a b:=by
 have hi:=ztu hp hok ha hb (zal n) [] 0 (fun y hy=>by rw[List.nil_append]at hy;exact zgc.1 hy) (.inl ⟨rfl,fun i hi=>by cases hi⟩);rw[List.nil_append]at hi
 have hin:∀t∈zbw l p a,t∈zal n:=fun t ht=>by
  rcases List.mem_cons.1 ht with rfl|ht
  ·exact zgc.2 ha
  ·exact zgc.2 (zxk hok ht)
 have hF:∀t,zbm l p t b=true↔t∈zbw l p b:=fun t=>zq0
 unfold zq1 ze5;show _=((zbw l p a).find? fun t=>zbm l p t b).getD 0;generalize(zal n).foldl (zgi l p n a b) 0=best at hi
 rcases hi with⟨rfl,h⟩|⟨hm,hcb,h⟩
 ·rw[List.find?_eq_none.2 fun t ht h9=>h t (hin t ht) ⟨ht,(hF t).1 h9⟩];rfl
 ·rw[zyf hp hok (fun t=>zbm l p t b) ((hF best).2 hcb.2) _ a rfl hcb.1 fun t ht h9=>h t (hin t ht) ⟨ht,(hF t).1 h9⟩];rfl
end
end Go.Gk.V33
namespace Go.Gk.V38
open Go.RowKit Go.Gk.V32 Go.Gk.V33 Go.Gk.V37
theorem z7c {α:Type} (f g:α→Int):∀l:List α,(l.map fun x=>f x+g x).sum=(l.map f).sum+(l.map g).sum
 |[]=>rfl
 |x::r=>by
  simp only[List.map_cons,List.sum_cons];rw[z7c f g r];omega
theorem z6w {α:Type} (f:α→List Int):∀l:List α,(l.flatMap f).sum=(l.map fun x=>(f x).sum).sum
 |[]=>rfl
 |x::r=>by
  rw[List.flatMap_cons,List.sum_append,z6w f r];rfl
theorem z7s {l:List zbv} {n p:Nat} (hp:p<24) (hok:zan l n=true) {a b:Int} (ha:1≤a∧a≤(n:Int)) (hb:1≤b∧b≤(n:Int)):ze5 l p a b=ze5 l p b a:=by
 rw[←z7o hp hok ha hb,←z7o hp hok hb ha];unfold zq1;congr 1;funext x i;unfold zgi;rw[Bool.and_comm (x:=zc3 l p n i a)]
theorem z7e {b:Bks} {e p:Int} {q:Int×Int}:q∈z6q b e p↔∃a∈zen b,∃r∈zeb b e a p,mm r=q:=by
 unfold z6q;rw[(z7m _ rfl (z7g _)).2.1,(z62 _).mem_iff,List.mem_flatMap];simp only[List.mem_map]
theorem z6z (b:Bks) (e p:Int):(z6q b e p).Nodup:=(z7m _ rfl (z7g _)).1.imp fun{x y} h e=>by
 subst e;rw[swoP.irrefl]at h
 cases h
theorem z6u {b:Bks} (hok:zba b=true) {e:Int} {p:Nat} (hp:p<24) {q:Int×Int} (h:q∈z6q b e p):q.1<q.2∧(1≤q.1∧q.1≤(b.ents.length:Int))∧(1≤q.2∧q.2≤(b.ents.length:Int))∧ze5 b.stakes p q.1 q.2=e∧ze5 b.stakes p q.2 q.1=e:=by
 obtain⟨a,_,r,hr,rfl⟩:=z7e.1 h;have h1:=pairs_in hr;have h2:=zxi hr;have h3:=z7t hok h2.1;have hc:=z7s hp (zec hok).2.2 h1 h3.1;unfold mm;by_cases hle:r.1≤r.2
 ·rw[Int.min_eq_left hle,Int.max_eq_right hle];exact⟨by omega,h1,h3.1,h2.2,hc▸h2.2⟩
 ·rw[Int.min_eq_right (by omega),Int.max_eq_left (by omega)];exact⟨by omega,h3.1,h1,hc▸h2.2,h2.2⟩
