/-
  Children, leaves, leaves that are split: the document's, the program's.
-/
import Derived.Test.YtoegobjnjljegaaGreatDoorZ59
import Derived.Laws.CopyRow
import Derived.Laws.Append
set_option maxRecDepth 100000
set_option maxHeartbeats 1600000
namespace Go.Gk
theorem zto {b:Bks} {x:Int} {k:Nat} {hk:k<b.accs.length} (h:b.accs[(x-1).toNat]?=some b.accs[k]):zfj b x=b.accs[k].2.2.1:=by
 unfold zfj;rw[h];rfl
end Go.Gk
namespace Go.Proofs.YtoegobjnjljegaaGreatDoor
open Go.RowKit Go.Gk
theorem zon {w:World} {bv bi B t mr mp:Nat} {e a s r l n lv:Value} {fs:List Value} {b:Bks} {us:List (Ent×Value)} (h:Vw w bv bi B t mr mp e a s r l n lv fs b us) (hn:(zag b.accs).length≤1000):
 Calls Tryz.prog 229 #[.pointer (some ⟨bv,0,none⟩)] w fun x w'=>∃u,x=.returned u∧zet w w' u (zcn b):=by
 have HC:=Lib.hid (zg4 h hn);unfold zcn;have HLF:=Lib.hid (fun x (hx:x∈zag b.accs)=>zd4 (zhj hx));generalize zag b.accs=L at *
 obtain⟨F,hF⟩:∃F:Int→Bool,zfj b=F:=⟨_,rfl⟩
 rw[hF];have HFE:=Lib.hid hF;have HAC:=Lib.hid (fun w' (t:Tf w w') k hk x hx=>zdn (h.keep t) (k:=k) hk x hx);clear h hF;go_enter Tryz.func229,Tryz.ntmps229;go_wp2_with fail;refine HC.out.mono ?_;rintro _ w1 ⟨u,rfl,hL⟩;obtain⟨U,cu,rfl,hu1,hu2⟩:=hL.form;have hrow:=hL.row;have t1:=hL.tch;clear HC hL;go_wp2_with fail;go_loopw [3,11] (fun out i wr=>∃(j:Nat) (xs:List Int),j≤L.length∧i=.int .i64 j∧(L.take j).filter F=xs∧zet w1 wr out xs) (fun _ i _=>L.length-(intOf i).toNat)
 case atStart=>exact⟨0,[],Nat.zero_le _,rfl,rfl,Outs.start _ _ _ (Tch.refl _ _)⟩
 case round=>
  obtain⟨j,xs,hj,rfl,hx,hO⟩:=hrel;obtain⟨O,co,rfl,ho1,ho2⟩:=hO.form
  have hxl:xs.length≤j:=by
   rw[←hx];exact Nat.le_trans (List.length_filter_le _ _) (by rw[List.length_take];omega)
  have HX:=Lib.hid hx;have hj0:=znn j;clear hx;by_cases hlt:j<L.length
  ·have hlt':(j:Int)<(L.length:Int):=by omega
   obtain⟨g,o,rfl⟩:=hrow.head (by omega);have q0:=Row.one (hrow.keep hO.tch) zap hlt rfl;obtain⟨k,hk,hxk,hat⟩:=HLF.out L[j] (List.getElem_mem _);have HS:=Lib.hid (show(L.take (j+1)).filter F=xs++(if b.accs[k].2.2.1 then[L[j]]else[]) by rw[ze6 F hlt,HX.out,←HFE.out,zto hat]);have HA1:=Lib.hid (HAC.out wr (t1.trans hO.tch) k hk L[j] hxk);generalize L[j]=x at *;generalize b.accs[k]=y at *;obtain⟨y1,y2,y3,y4⟩:=y;unfold zfq at HA1;simp only at HA1 HS;clear hxk hat;go_wp2_with fail;refine HA1.out.mono ?_;rintro _ w2 ⟨rfl,t2⟩;have hO:=(hO.keep t2).keep (tal w2 (.cells #[iV y1,iV y2,.bool y3,.bool y4] 91));clear q0 HA1
   cases y3
   ·have HS:=Lib.hid (show(L.take (j+1)).filter F=xs by rw[HS.out];simp);go_wp2;go_roundw
    case rel=>exact⟨j+1,xs,by omega,by go_num,HS.out,hO⟩
    case measure=>simp[intOf];omega
   ·go_wp2_with ((at_builtin;refine apd zaj (hO.own.alloc _) (Go.Gk.Src.one (news:=[iV (x)]) rfl (fun m9 u9 hu9=>by rw[(Blk.new2 (w2) (.cells #[iV y1,iV y2,.bool true,.bool y4] 91) 3 #[iV (x)]).cell m9];simpa using hu9)) (by simp;rfl) ?_;intro v2 w2 ho2 hg2 hl2;have hO2:=hO.step (x:=x) (Tch.alloc _ _ _) ho2 hg2 hl2;obtain⟨O2,co2,rfl,_,_⟩:=zac ho2));go_roundw
    case rel=>exact⟨j+1,_,by omega,by go_num,HS.out,hO2⟩
    case measure=>simp[intOf];omega
  ·obtain rfl:L.length=j:=by omega
   rw[List.take_length]at HX;have e:=HX.out;subst e;go_wp2;go_ret;exact⟨_,rfl,hO.base t1⟩
theorem zkn {w:World} {u v:Value} {l:List Int} (hu:zae zby 1 (fun _=>True) w u l) (hv:zae zby 1 (fun _=>True) w v l):
 Calls Tryz.prog 20 #[u,v] w fun e w'=>e=.returned (.bool true)∧Tf w w':=by
 obtain⟨A,c,rfl,hc1,hc2⟩:=hu.form;obtain⟨A',c',rfl,hc3,hc4⟩:=hv.form;have hmax:l.length≤maxLen:=Nat.le_trans hc1 hc2;unfold maxLen at hmax;go_enter Tryz.func20,Tryz.ntmps20;go_wp2_with fail;go_loopw [5] (fun i wr=>∃j:Nat,j≤l.length∧i=.int .i64 j∧Tf w wr) (fun i _=>l.length-(intOf i).toNat)
 case atStart=>exact⟨0,Nat.zero_le _,rfl,Tch.refl _ _⟩
 case round=>
  obtain⟨j,hj,rfl,ht⟩:=hrel;have hj0:=znn j;by_cases hlt:j<l.length
  ·have hlt':(j:Int)<(l.length:Int):=by omega
   obtain⟨g,o,rfl⟩:=hu.head (by omega);obtain⟨g',o',rfl⟩:=hv.head (by omega);have Y1:=wc0 (Row.one (hu.keep ht) zap hlt rfl);have Y2:=wc0 (Row.one (hv.keep ht) zap hlt rfl);generalize l[j]=x at *;go_wp2_with fail;refine zai (fun _=>False) [] 8 [] [] ?_ ?_
   ·exact trivial
   intro bef _;iterate 8 (refine zbt ?_;(try simp only[zaw]))
   refine za6 ?_;intro w2 hr hp1 hap;have t2:=ht.trans ((Tch.drew (fun _=>False) wr).trans hr);clear hap hp1 hr Y1 Y2;go_wp2;go_roundw
   case rel=>exact⟨j+1,by omega,by go_num,t2⟩
   case measure=>simp[intOf];omega
  ·obtain rfl:l.length=j:=by omega
   go_wp2;go_ret;exact⟨rfl,ht⟩
end Go.Proofs.YtoegobjnjljegaaGreatDoor
namespace Go.Gk
open Go.RowKit
section
variable {P:Program} {ops:Array Oper} {rest:List Oper} {o:Oper} {a:Act} {w:World} {Q:Exit→Act→World→Prop}
theorem zoo (ty dT sT elem:TypeId) {size:Nat} (hu:P.underlying dT=some (.slice elem)) (hsz:(P.info? elem).map (·.size)=some size)
 (A:Option Addr) (dLen dCap:Nat) (S:Option Addr) (sLen sCap:Nat) (hle:sLen≤dLen) {cs:List Value} {P':Nat→Prop} (hrow:Row P' w (.slice S sLen sCap) sLen size cs)
 (g:Nat) (pre mid suf:List Value) (hA:0<sLen→A=some ⟨g,pre.length,none⟩) {t:TypeId} (hb:Blk w g t (pre++mid++suf).toArray) (hm:mid.length=cs.length) (h1:∀v∈cs,v.oneCell'=true):
 ∃W,(Builtin.copy_ #[dT,sT] ty #[.slice A dLen dCap,.slice S sLen sCap]).run P w=.ok (goInt sLen) W∧Blk W g t (pre++cs++suf).toArray∧Tch (fun k=>k=g) w W:=by
 have hmin:Nat.min sLen dLen=sLen:=Nat.min_eq_left hle;obtain⟨S',c',e,_,_,hlen,_,hpos⟩:=hrow;injection e with e1 e2 e3;subst e1;subst e3;have hso:=zt5 hsz w;by_cases h0:sLen=0
 ·subst h0;obtain rfl:cs=[]:=List.eq_nil_of_length_eq_zero (by simpa using hlen);obtain rfl:mid=[]:=List.eq_nil_of_length_eq_zero (by simpa using hm);refine⟨w,?_,hb,Tch.refl _ _⟩
  cases S with
  |none=>cases A<;>simp[Builtin.copy_,run_underlying hu,Builtin.lenOf,Builtin.firstCells,hso,storeCells,Sem.run_bind,Result.andThen]
  |some s=>cases A<;>simp[Builtin.copy_,run_underlying hu,Builtin.lenOf,Builtin.firstCells,hso,storeCells,loadCells,loadCellsFrom,Sem.run_bind,Result.andThen]
 ·obtain⟨gs,os,rfl,_,hcell⟩:=hpos (by omega);obtain rfl:=hA (by omega);have hadd:∀j,(⟨gs,os,none⟩:Addr).add j=⟨gs,os+j,none⟩:=fun j=>by unfold Addr.add;split<;>simp_all
  have hf:=run_firstCells_some (P:=P) w size sLen ⟨gs,os,none⟩ sLen sCap cs hlen (fun j v hj=>by rw[hadd];exact hcell j v hj);have hst:=run_storeCells_at P g pre.length t cs 0 (pre++mid++suf).toArray w hb (by simp;omega) h1
  have e9:((pre++mid++suf).toArray.toList.take (pre.length+0)++cs++(pre++mid++suf).toArray.toList.drop (pre.length+0+cs.length))=pre++cs++suf:=by
   simp only[Nat.add_zero,List.append_assoc];rw[List.take_left,←hm];congr 2;rw[←List.append_assoc,←List.length_append];exact List.drop_left
  rw[e9]at hst;have h9:=setRow_heap w g _ ((pre++cs++suf).toArray) t (0,0) hb;refine⟨w.setRow g (pre++cs++suf).toArray,?_,h9,⟨rfl,rfl,rfl,by simp[World.setRow],fun k _ hk=>setRow_other w g k _ hk⟩⟩;unfold Builtin.copy_;simp[run_underlying hu,Builtin.lenOf,hmin,hso,hf,hst]
theorem zc9 (hgd:o.guard=none) (d s:Operand) (dT sT:TypeId) (ho:o.op=.call {callee:=.builtin .copy,args:= #[d,s],argTypes:= #[dT,sT]}) (elem:TypeId) {size:Nat} (hu:P.underlying dT=some (.slice elem)) (hsz:(P.info? elem).map (·.size)=some size)
 (A:Option Addr) (dLen dCap:Nat) (S:Option Addr) (sLen sCap:Nat) (hd:a.eval d=.slice A dLen dCap) (hs:a.eval s=.slice S sLen sCap) (hle:sLen≤dLen) {cs:List Value} {P':Nat→Prop} (hrow:Row P' w (.slice S sLen sCap) sLen size cs)
 (g:Nat) (pre mid suf:List Value) (hA:0<sLen→A=some ⟨g,pre.length,none⟩) {t:TypeId} (hb:Blk w g t (pre++mid++suf).toArray) (hm:mid.length=cs.length) (h1:∀v∈cs,v.oneCell'=true)
 (h:∀W,Blk W g t (pre++cs++suf).toArray→Tch (fun k=>k=g) w W→wpList P ops Q rest (a.put o.dst (goInt sLen)) W):wpList P ops Q (o::rest) a w:=by
 obtain⟨W,hrun,hB,hT⟩:=zoo (P:=P) (w:=w) o.type dT sT elem hu hsz A dLen dCap S sLen sCap hle hrow g pre mid suf hA hb hm h1;refine wpList_plain hgd fun K hK=>?_
 unfold Oper.wp;simp[execOp,ho,resolve,invoke,builtin,hd,hs,hrun,Result.andThen];exact hK _ _ (h W hB hT)
theorem zmd (hgd:o.guard=none) (t:TypeId) (x y:Operand) (ho:o.op=.makeSlice t x y) {e:TypeId} {z:Value} {size bytes:Nat} (hr:RowTy P t e z size bytes) {N:Int} {n:Nat} (hN:N=n) (hx:a.eval x=iV N) (hy:a.eval y=iV N) (hb:bytes*n≤281474976710656) (h63:n≤9223372036854775807)
 (h:∀(cells:List Value) (W:World),cells.length=n*size→Blk W w.heap.size e cells.toArray→Tf w W→w.heap.size<W.heap.size→wpList P ops Q rest (a.put o.dst (.slice (some ⟨w.heap.size,0,none⟩) n n)) W):wpList P ops Q (o::rest) a w:=by
 subst hN;obtain⟨i,hi,hz,hsize,hby⟩:=info_parts hr.info
 have hb':(i.bytes:Int)*(n:Int)≤281474976710656:=by
  rw[hby];have h9:((bytes*n:Nat):Int)≤281474976710656:=by omega
  rwa [Int.natCast_mul]at h9
 have hrun:=run_make (P:=P) w t e i z hr.und hi hz .i64 .i64 n n (by omega) (Int.le_refl _) hb' (by omega);simp only[Int.toNat_natCast]at hrun;refine wpList_plain hgd fun K hK=>?_
 unfold Oper.wp execOp;simp only[ho,hx,hy,Sem.run_bind,Sem.run_pure,Result.andThen_ok,hrun];refine hK _ _ (h (madeCells z.cells (n*i.size)).toList _ ?_ ?_ (Tch.alloc _ _ _) (by simp))
 ·rw[Array.length_toList,size_madeCells,hsize]
 ·rw[Array.toArray_toList];exact Blk.new _ _ _
theorem zdp (hgd:o.guard=none) (ty:TypeId) (x y:Operand) (ho:o.op=.store ty x y) (b off:Nat) (pre mid vs suf:List Value) (hoff:off=pre.length) (hx:a.eval x=.pointer (some ⟨b,off,none⟩)) (hy:a.eval y=.agg vs.toArray) (h1:vs.toArray.all (·.oneCell')=true) (hi:(P.info? ty).map (·.size)=some vs.length) (hm:mid.length=vs.length)
 {t:TypeId} (hb:Blk w b t (pre++mid++suf).toArray) (h:∀W,Blk W b t (pre++vs++suf).toArray→Tch (fun g=>g=b) w W→wpList P ops Q rest (a.put o.dst undef) W):wpList P ops Q (o::rest) a w:=by
 subst hoff;exact zax hgd ty x y ho b pre mid vs suf hx hy h1 hi hm hb h
theorem znr {α:Type} (l:List α) {a b c d:Nat} (h:l.length=a+b+c+d):∃A B C D:List α,l=A++(B++(C++D))∧A.length=a∧B.length=b∧C.length=c∧D.length=d:=by
 refine⟨l.take a,(l.drop a).take b,((l.drop a).drop b).take c,((l.drop a).drop b).drop c,by rw[List.take_append_drop,List.take_append_drop,List.take_append_drop],?_,?_,?_,?_⟩<;>simp <;>omega
