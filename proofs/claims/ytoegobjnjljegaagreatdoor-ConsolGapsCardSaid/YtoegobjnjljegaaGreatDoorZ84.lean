/-
  Plain: the probe of layer 38: its values, what its cells need. No program in sight.
-/
import Derived.Test.YtoegobjnjljegaaGreatDoorZ83
set_option maxRecDepth 100000
set_option maxHeartbeats 25600000
namespace Go.Gk.V38
open Go.Gk.V37 Go.Gk.V33 Go.RowKit
theorem gv_vals:[((7,1,4,0,1,0):Rt6),(7,1,5,0,1,0),(7,1,2,0,1,0),(7,1,3,0,1,0),(7,9,3,0,1,0)].map (zyq zao)=[(0,0),(0,0),(-2,0),(2,0),(0,20)]:=by decide+kernel
theorem gv_far:zyq zao (3,2,5,0,2,0)=(0,40):=by decide+kernel
theorem gv_bal:(zyq zao (2,2,5,0,0,0)).2=0:=by decide+kernel
theorem gv_move:(zyq zao (1,2,5,0,0,0)).2=0:=by decide+kernel
theorem gr_far:zyk (zfg zao (3,2,5,0,2,0)).1=[(2,2,5,0,0,0)]:=by decide+kernel
theorem z4l:zyk (zfg zao (2,2,5,0,0,0)).1=[(1,2,5,0,0,0)]:=by decide+kernel
theorem z4m:zyk (zfg zao (1,2,5,0,0,0)).1=[]:=by decide+kernel
theorem z2x {b:Bks} {l C:List Rt6} (h1:∀k∈l,k∈C) (h2:∀c∈C,∀k∈zyk (zfg b c).1,k∈C) {k:Rt6} (h:Need b l k):k∈C:=by
 induction h with
 |base h=>exact h1 _ h
 |step _ hk ih=>exact h2 _ ih _ hk
theorem z4n {S:List Rt6} (h:S.Nodup):∀{C:List Rt6},(∀k∈S,k∈C)→S.length≤C.length:=by
 induction S with
 |nil=>intro C _;simp
 |cons x r ih=>
  intro C hs;obtain⟨hx,hr⟩:=List.nodup_cons.1 h;have hm:=hs x (List.mem_cons_self ..);have:=ih hr (C:=C.erase x) fun k hk=>(List.mem_erase_of_ne (fun e:k=x=>hx (by rw[←e];exact hk))).2 (hs k (List.mem_cons_of_mem _ hk))
  rw[List.length_erase_of_mem hm]at this;have:=List.length_pos_of_mem hm;simp only[List.length_cons];omega
theorem z04 {a:Rt6} {p:Rt6→Bool}:∀{L:List Rt6},L.Nodup→a∈L→(∀x∈L,p x=decide (x=a))→L.filter p=[a]
 |[],_,h,_=>absurd h List.not_mem_nil
 |x::r,hn,hm,hp=>by
  obtain⟨hx,hr⟩:=List.nodup_cons.1 hn;by_cases he:x=a
  ·subst he
   have h0:r.filter p=[]:=List.filter_eq_nil_iff.2 fun y hy=>by
    rw[hp y (List.mem_cons_of_mem _ hy)];simp only[decide_eq_true_eq];exact fun e=>hx (e▸hy)
   rw[List.filter_cons_of_pos (by rw[hp x (List.mem_cons_self ..)];simp),h0]
  ·rw[List.filter_cons_of_neg (by rw[hp x (List.mem_cons_self ..)];simp[he])];exact z04 hr ((List.mem_cons.1 hm).resolve_left fun e=>he e.symm) fun y hy=>hp y (List.mem_cons_of_mem _ hy)
theorem z2y {k:Rt6}:Need zao [(2,2,5,0,0,0)] k↔k∈[((1,2,5,0,0,0):Rt6),(2,2,5,0,0,0)]:=by
 refine⟨z2x (fun k hk=>?_) fun c hc k hk=>?_,fun h=>?_⟩
 ·rw[List.mem_singleton]at hk;subst hk;decide
 ·simp only[List.mem_cons,List.not_mem_nil,or_false]at hc;rcases hc with rfl|rfl
  ·rw[z4m]at hk;exact absurd hk List.not_mem_nil
  ·rw[z4l,List.mem_singleton]at hk;subst hk;decide
 ·simp only[List.mem_cons,List.not_mem_nil,or_false]at h;rcases h with rfl|rfl
  ·exact .step (c:=(2,2,5,0,0,0)) (.base (List.mem_singleton.2 rfl)) (by rw[z4l];exact List.mem_singleton.2 rfl)
  ·exact .base (List.mem_singleton.2 rfl)
theorem z2z {S:List Rt6} (h:S.Nodup) (hm:∀k,k∈S↔Need zao [(2,2,5,0,0,0)] k):zza S=[(1,2,5,0,0,0),(2,2,5,0,0,0)]:=by
 have hp:S.Perm [((1,2,5,0,0,0):Rt6),(2,2,5,0,0,0)]:=(List.perm_ext_iff_of_nodup h (by decide)).2 fun k=>(hm k).trans z2y
 have hq:=(zzc S).trans hp;have hl:=z4s h;generalize zza S=L at hq hl;have hlen:=hq.length_eq;have hnd:=hq.nodup_iff.2 (by decide)
 rcases L with _|⟨x,_|⟨y,_|⟨z,r⟩⟩⟩
 ·simp at hlen
 ·simp at hlen
 ·have hx:=(hq.mem_iff (a:=x)).1 (by simp);have hy:=(hq.mem_iff (a:=y)).1 (by simp);have hxy:x≠y:=by simpa using hnd
  have hlt:=(List.pairwise_cons.1 hl).1 y (by simp);simp only[List.mem_cons,List.not_mem_nil,or_false]at hx hy;rcases hx with rfl|rfl<;>rcases hy with rfl|rfl
  ·exact absurd rfl hxy
  ·rfl
  ·exact absurd hlt (by decide)
  ·exact absurd rfl hxy
 ·simp at hlen
theorem zzq {b:Bks} {c:Rt6}:z3p b [c]=za3 c b.ents.length b.accs.length:=by
 unfold z3p;split
 ·rfl
 ·next h=>exact(Decidable.not_not.1 h).symm
theorem g_need1 {L:List Rt6} {er:Int} (h:NeedsAns zao [(2,2,5,0,1,0)] 9 L er):L=[]∧er=41:=by
 have:=h.bad (by decide) (by rw[zzq];decide);rw[zzq]at this;exact this
theorem g_need2 {L:List Rt6} {er:Int} (h:NeedsAns zao [(2,2,5,0,0,0)] 9 L er):L=[(1,2,5,0,0,0),(2,2,5,0,0,0)]∧er=0:=by
 rcases h.ans (by decide) (by rw[zzq];decide)with⟨_,_,S,h1,h2,h3⟩|⟨rfl,_,S,h1,rfl,h3⟩
 ·have:=z4n h1 (C:=[((1,2,5,0,0,0):Rt6),(2,2,5,0,0,0)]) fun k hk=>z2y.1 (h2 k hk)
  simp only[List.length_cons,List.length_nil]at this;omega
 ·exact⟨z2z h1 h3,rfl⟩
theorem g_need3 {L:List Rt6} {er:Int} (h:NeedsAns zao [(2,2,5,0,0,0)] 1 L er):L=[]∧er=3:=by
 rcases h.ans (by decide) (by rw[zzq];decide)with⟨rfl,rfl,_⟩|⟨_,h0,S,h1,rfl,h3⟩
 ·exact⟨rfl,rfl⟩
 ·rw[z2z h1 h3]at h0;exact absurd h0 (by decide)
theorem z1g {k:Rt6} (h:Need zao [(3,2,5,0,2,0)] k):k∈[((3,2,5,0,2,0):Rt6),(2,2,5,0,0,0),(1,2,5,0,0,0)]:=by
 refine z2x (fun k hk=>?_) (fun c hc k hk=>?_) h
 ·rw[List.mem_singleton]at hk;subst hk;decide
 ·simp only[List.mem_cons,List.not_mem_nil,or_false]at hc;rcases hc with rfl|rfl|rfl
  ·rw[gr_far,List.mem_singleton]at hk;subst hk;decide
  ·rw[z4l,List.mem_singleton]at hk;subst hk;decide
  ·rw[z4m]at hk;exact absurd hk List.not_mem_nil
theorem g_blame {L:List Rt6} {er:Int} (h:BlameAns zao (3,2,5,0,2,0) L er):L=[(3,2,5,0,2,0)]∧er=0:=by
 rcases h.ans (by decide)with⟨_,_,S,h1,h2,h3⟩|⟨rfl,S,h1,h3,rfl⟩
 ·have:=z4n h1 fun k hk=>z1g (h2 k hk)
  simp only[List.length_cons,List.length_nil]at this;omega
 ·have hm:∀k,k∈zza S↔Need zao [(3,2,5,0,2,0)] k:=fun k=>(zzc S).mem_iff.trans (h3 k)
  have hf:(3,2,5,0,2,0)∈zza S:=(hm _).2 (.base (List.mem_singleton.2 rfl))
  have hb:∀k,k∈zzu zao (zza S)↔k=(3,2,5,0,2,0):=fun k=>by
   unfold zzu;rw[List.mem_filter];refine⟨fun⟨h4,h5⟩=>?_,fun e=>⟨e▸hf,by rw[e,gv_far];decide⟩⟩;have h6:=z1g ((hm k).1 h4);simp only[List.mem_cons,List.not_mem_nil,or_false]at h6;rcases h6 with rfl|rfl|rfl
   ·rfl
   ·simp[gv_bal]at h5
   ·simp[gv_move]at h5
  refine⟨z04 ((zzc S).nodup_iff.2 h1) hf fun x hx=>?_,rfl⟩;have h6:=z1g ((hm x).1 hx);unfold delB;simp only[hb];simp only[List.mem_cons,List.not_mem_nil,or_false]at h6;rcases h6 with rfl|rfl|rfl
  ·rw[gr_far];decide
  ·decide
  ·decide
end Go.Gk.V38
namespace Go.Proofs.YtoegobjnjljegaaGreatDoor
open Go.RowKit Go.Gk Go.Gk.V33 Go.Gk.V37 Go.Gk.V38
theorem z2f (c1 c2 c3 c4 c5 c6:Int) (w:World):
 Calls Tryz.prog 15 #[.pointer none,.agg #[iV c1,iV c2,iV c3,iV c4,iV c5,iV c6]] w fun x w'=>x=.returned (.tuple #[.agg #[iV 0,iV 0,.slice none 0 0,.slice none 0 0,iV 0,iV 0,iV 0,iV 0,iV 0,iV 0,.bool false,iV 0,iV 0,.bool false],iV 1])∧Tf w w':=by
 obtain⟨W,hW,tw,bC,bO⟩:=al2 w #[iV c1,iV c2,iV c3,iV c4,iV c5,iV c6] #[iV 0,iV 0,.slice none 0 0,.slice none 0 0,iV 0,iV 0,iV 0,iV 0,iV 0,iV 0,.bool false,iV 0,iV 0,.bool false] 31 48;have HM:=Lib.hid (z4w (c1,c2,c3,c4,c5,c6) W);unfold zcq at HM;simp only at HM;obtain⟨g0,g1,g2,g3,g4,g5⟩:=bC.f6;clear bC;go_enter Tryz.func15,Tryz.ntmps15;go_wp2_with fail;refine HM.out.mono ?_;rintro _ w1 ⟨rfl,t1⟩;have bO1:=bO.keep t1 id;have T1:=tw.trans t1;clear HM bO tw t1 g0 g1 g2 g3 g4 g5;go_wp2_with (refine stH (w.heap.size+1) #[iV 0,iV 0,.slice none 0 0,.slice none 0 0,iV 0,iV 0,iV 0,iV 0,iV 0,iV 0,.bool false,iV 0,iV 0,.bool false] bO1 ?_);intro w9 HF HTF;clear bO1;go_wp2;(try simp only[exS]);refine zbi HF.out ?_;exact⟨rfl,T1.trans' (F':=fun g=>g=w.heap.size+1) HTF.out (fun i hi=>.inr (by have hi:i=w.heap.size+1:=hi;omega))⟩
theorem of38_nil {w:World} {kb vb ob mb:Nat} (hm:MapIs zcq w mb []) (hk:Blk w kb 193 #[.map (some mb)]) (hv:Blk w vb 34 #[.pointer none]) (c1 c2 c3 c4 c5 c6:Int):
 Calls Tryz.prog 109 #[.agg #[iV c1,iV c2,iV c3,iV c4,iV c5,iV c6],.pointer (some ⟨kb,0,none⟩),.pointer (some ⟨vb,0,none⟩),.pointer (some ⟨ob,0,none⟩)] w fun x w'=>x=.returned (.agg #[iV 0,iV 1])∧Tf w w':=by
 obtain⟨W,hW,tw,bC,bO⟩:=al2 w #[iV c1,iV c2,iV c3,iV c4,iV c5,iV c6] #[iV 0,iV 0] 31 41;have HM:=Lib.hid (hm.keep tw id);have n0:=(hk.keep tw id).at0;have tX:=tal W (.cells #[iV 0,iV 0] 41);have bC2:=bC.keep tX id;have bO2:=bO.keep tX id;have t2:=tw.trans tX;have v0:=(hv.keep t2 id).at0;have HREC:=Lib.hid (z2f c1 c2 c3 c4 c5 c6 (W.alloc (.cells #[iV 0,iV 0] 41)));obtain⟨k0,k1,k2,k3,k4,k5⟩:=bC.f6;obtain⟨q0,q1,q2,q3,q4,q5⟩:=bC2.f6;clear hm hk hv bC bO tX bC2 tw;go_enter Tryz.func109,Tryz.ntmps109;go_wp2_with (refine zh6 rfl _ _ _ true rfl zym Tryz.underlying193 (z0b _) (k:=(c1,c2,c3,c4,c5,c6)) (by rfl) (by rfl) HM.out ?_;refine Hid.out ?_);refine Lib.hid ?_;simp only[zar,Option.getD_none,Option.isSome_none];unfold vlV;simp only;clear k0 k1 k2 k3 k4 k5 n0 HM;go_wp2_with fail;generalize W.alloc _=W2 at *;refine HREC.out.mono ?_;rintro _ w1 ⟨rfl,t1⟩;have bO3:=bO2.keep t1 id;have T1:=t2.trans t1;clear HREC bO2 t2 t1 q0 q1 q2 q3 q4 q5 v0 hW;have tG:=tal w1 (.cells #[iV 0,iV 0,.slice none 0 0,.slice none 0 0,iV 0,iV 0,iV 0,iV 0,iV 0,iV 0,.bool false,iV 0,iV 0,.bool false] 48);have bO4:=bO3.keep tG id;have T2:=T1.trans tG;clear bO3 T1 tG;go_wp2_with (refine stH (w.heap.size+1) #[iV 0,iV 1] bO4 ?_);intro w9 HF HTF;clear bO4;go_wp2;(try simp only[exS]);refine zfe HF.out ?_;exact⟨rfl,T2.trans' (F':=fun g=>g=w.heap.size+1) HTF.out (fun i hi=>.inr (by have hi:i=w.heap.size+1:=hi;omega))⟩
theorem z3k {w:World} {v:Value} {cl:List Rt6} (hl:zae za2 6 (fun _=>True) w v cl) (hn:cl.length≤100000):
 Calls Tryz.prog 47 #[.pointer none,v] w fun x w'=>∃u,x=.returned u∧zae zzb 2 (fun g=>w.heap.size≤g) w' u (cl.map fun _=>((0,1):Vl))∧Tf w w':=by
 obtain⟨A,c,rfl,hc1,hc2⟩:=hl.form;have hmm:=@run_makeMap Tryz.prog;have hfe:∀args w,(callFunc 109 args).run Tryz.prog w=.ok (.enter 109 args) w:=enters_of Tryz.func109 (by kernel_rfl) rfl;obtain⟨W,hW,tw,hM,bV,bK,bF⟩:=z1d w (.pointer none) Value.nilFunc 193 34 194;have hl1:=Row.keepTo (P':=fun g=>g<w.heap.size) hl tw (fun g hg _=>⟨id,hg⟩);have l6:16*cl.length≤281474976710656:=by omega
 have l7:cl.length≤9223372036854775807:=by omega
 have hc0:(cl.length:Int)≤100000:=by omega
 clear hl;go_enter Tryz.func47,Tryz.ntmps47;go_wp2_with (refine zab rfl _ _ _ rfl (w.heap.size+3) 0 (.func (.func 109) #[] #[.pointer (some ⟨w.heap.size+2,0,none⟩),.pointer (some ⟨w.heap.size,0,none⟩),.pointer (some ⟨w.heap.size+3,0,none⟩)]) (by rfl) (by rfl) rfl (by rfl) bF (by simp) ?_;refine Hid.out ?_);refine Lib.hid ?_;intro w5 bO ts;have bO:Blk w5 (w.heap.size+3) 194 #[.func (.func 109) #[] #[.pointer (some ⟨w.heap.size+2,0,none⟩),.pointer (some ⟨w.heap.size,0,none⟩),.pointer (some ⟨w.heap.size+3,0,none⟩)]]:=by simpa using bO
 have T5:=tw.trans' ts (fun i hi=>.inr (by have hi:i=w.heap.size+3:=hi;omega));have hM5:=hM.keep ts (by omega);have bK5:=bK.keep ts (by omega);have bV5:=bV.keep ts (by omega);have hl5:=Row.keepTo (P':=fun g=>g<w.heap.size) hl1 ts (fun g _ hg=>⟨fun e=>by have e:g=w.heap.size+3:=e;omega,hg⟩);have hol:=bO.lt;generalize hz:w.heap.size=z at *;have HZ:=Lib.hid hz;clear hW tw hM bV bK bF hl1 ts hz;go_wp2_with (refine zmd rfl _ _ _ rfl zz2 (N:=(cl.length:Int)) (n:=cl.length) rfl (by rfl) (by rfl) l6 l7 ?_;refine Hid.out ?_);refine Lib.hid ?_;intro cells w6 hcl bN tN hlN;have HYL:=Lib.hid (show z+3<w5.heap.size from hol);have hM6:=hM5.keep tN id;have bK6:=bK5.keep tN id;have bV6:=bV5.keep tN id;have bO6:=bO.keep tN id;have T6:=T5.trans tN;generalize hyy:w5.heap.size=y at *;have HROW:=Lib.hid (fun(wr:World) (ht:Tch (fun g=>g=y) w6 wr)=>Row.keepTo (P':=fun _=>True) (Row.keepTo (P':=fun g=>g<z) hl5 tN (fun g _ hg=>⟨id,hg⟩)) ht (fun g _ hp=>⟨fun e=>by have e:g=y:=e;have:=HYL.out;omega,trivial⟩));have HMM:=Lib.hid (fun(wr:World) (ht:Tch (fun g=>g=y) w6 wr)=>hM6.keep ht (by omega));have HKK:=Lib.hid (fun(wr:World) (ht:Tch (fun g=>g=y) w6 wr)=>bK6.keep ht (by omega));have HVV:=Lib.hid (fun(wr:World) (ht:Tch (fun g=>g=y) w6 wr)=>bV6.keep ht (by omega));have HOO:=Lib.hid (fun(wr:World) (ht:Tch (fun g=>g=y) w6 wr)=>bO6.keep ht (by omega));have HTT:=Lib.hid T6;clear hl5 tN hlN hyy hM5 bK5 bV5 bO T5 hM6 bK6 bV6 bO6 T6 hol;go_wp2_with fail;go_loopw [17] (fun i wr=>∃(j:Nat) (xs:List Vl) (rest:List Value),j≤cl.length∧i=.int .i64 j∧(cl.take j).map (fun _=>((0,1):Vl))=xs∧rest.length=(cl.length-j)*2∧Blk wr y 41 (xs.flatMap zzb++rest).toArray∧Tch (fun g=>g=y) w6 wr) (fun i _=>cl.length-(intOf i).toNat)
 case atStart=>exact⟨0,[],cells,Nat.zero_le _,rfl,rfl,by simpa using hcl,by simpa using bN,Tch.refl _ _⟩
 case round=>
  obtain⟨j,xs,rest,hj,rfl,hxs,hrl,hB,ht⟩:=hrel;have HXS:=Lib.hid hxs;have HXL:=Lib.hid (show xs.length=j by rw[←hxs,List.length_map,List.length_take];omega);have hj0:=znn j;clear hxs;by_cases hlt:j<cl.length
  ·have hlt':(j:Int)<(cl.length:Int):=by omega
   have hl9:=HROW.out wr ht;obtain⟨g,o9,rfl⟩:=hl9.head (by omega);obtain⟨q0,q1,q2,q3,q4,q5⟩:=Row.six hl9 zd3 hlt rfl;have HXN:=Lib.hid (show(cl.take (j+1)).map (fun _=>((0,1):Vl))=xs++[(0,1)] by rw[List.take_succ_eq_append_getElem hlt,List.map_append,HXS.out];rfl);generalize cl[j]=cc at *;obtain⟨e1,e2,e3,e4,e5,e6⟩:=cc;simp only at q0 q1 q2 q3 q4 q5;have tA:=tal wr (.cells #[iV e1,iV e2,iV e3,iV e4,iV e5,iV e6] 31);have bz:=Blk.new wr 31 #[iV e1,iV e2,iV e3,iV e4,iV e5,iV e6];have hBA:=hB.keep tA id;have o0:=((HOO.out wr ht).keep tA id).at0;have HI:=Lib.hid (of38_nil (ob:=z+3) ((HMM.out wr ht).keep tA id) ((HKK.out wr ht).keep tA id) ((HVV.out wr ht).keep tA id) e1 e2 e3 e4 e5 e6);obtain⟨g0,g1,g2,g3,g4,g5⟩:=bz.f6;have HTA:=Lib.hid (ht.trans (Exn.touch tA))
   obtain⟨u1,u2,r2,hu,hr2⟩:∃u1 u2 r2,rest=u1::u2::r2∧r2.length=(cl.length-(j+1))*2:=by
    rcases rest with _|⟨u1,_|⟨u2,r2⟩⟩
    ·simp at hrl;omega
    ·simp at hrl;omega
    ·exact⟨u1,u2,r2,rfl,by simp at hrl;omega⟩
   subst hu;have hoff:j*2=(xs.flatMap zzb).length:=by rw[zc5 zyt,HXL.out]
   have HOFF:=Lib.hid hoff;have HR2:=Lib.hid hr2;clear hl9 HXS hB ht tA bz hrl hoff hr2;go_wp2_with fail;generalize wr.alloc _=wA at *;refine HI.out.mono ?_;rintro _ wB ⟨rfl,tB⟩;have hBB:=hBA.keep tB id;have HTB:=Lib.hid (HTA.out.trans (Exn.touch tB));clear HI q0 q1 q2 q3 q4 q5 g0 g1 g2 g3 g4 g5 o0 hBA HTA tB;go_wp2_with (refine zdp rfl _ _ _ rfl y (j*2) (xs.flatMap zzb) [u1,u2] [iV 0,iV 1] r2 HOFF.out (by rfl) (by rfl) (by simp[Value.oneCell']) (by kernel_rfl) rfl (by simpa using hBB) ?_;refine Hid.out ?_);refine Lib.hid ?_;intro wC bYC tC;have HTC:=Lib.hid (HTB.out.trans tC);have HBY:=Lib.hid bYC;clear hBB tC bYC;go_wp2;go_roundw
   case rel=>exact⟨j+1,_,r2,by omega,by go_num,HXN.out,HR2.out,by simpa[zzb]using HBY.out,HTC.out⟩
   case measure=>simp[intOf]<;>omega
  ·obtain rfl:j=cl.length:=by omega
   have hxs:=HXS.out;rw[List.take_length]at hxs;have hlt':¬(cl.length:Int)<(cl.length:Int):=by omega
   obtain rfl:rest=[]:=List.eq_nil_of_length_eq_zero (by rw[hrl];simp);rw[List.append_nil]at hB
   have HRW:=Lib.hid (show zae zzb 2 (fun g=>z≤g) wr (.slice (some ⟨y,0,none⟩) cl.length cl.length) (cl.map fun _=>((0,1):Vl)) by
    have h9:=z0z (base:=z) (size:=2) (n:=cl.length) hB (by have:=HYL.out;omega) (by rw[List.size_toArray,zc5 zyt,HXL.out]) (by unfold maxLen;omega);rw[hxs];rw[←HXL.out]at h9⊢
    exact Row.own (by simpa using h9) (fun g hg=>(h9.lt g hg).1))
   have HT9:=Lib.hid (HTT.out.trans' ht (fun i hi=>.inr (by have hi:i=y:=hi;have:=HYL.out;have:=HZ.out;omega)));clear hxs HXS hB ht HROW hlt;go_wp2;go_ret;refine⟨_,rfl,?_,HT9.out⟩;rw[HZ.out];exact HRW.out
theorem z2g {w:World} (c1 c2 c3 c4 c5 c6:Int):
 Calls Tryz.prog 35 #[.pointer none,.agg #[iV c1,iV c2,iV c3,iV c4,iV c5,iV c6]] w fun x w'=>x=.returned (.agg #[iV 0,iV 1])∧Tf w w':=by
 obtain⟨W,hW,tw,bC,bO,bL⟩:=al3 w #[iV c1,iV c2,iV c3,iV c4,iV c5,iV c6] #[iV 0,iV 0] #[iV c1,iV c2,iV c3,iV c4,iV c5,iV c6] 31 41 31;have HVS:=Lib.hid (z3k (w:=W) (cl:=[(c1,c2,c3,c4,c5,c6)]) (Row.blk (B:=fun _=>True) (n:=1) (size:=6) bL trivial rfl (by decide)) (by simp));have q:=Blk.new w 31 #[iV c1,iV c2,iV c3,iV c4,iV c5,iV c6];obtain⟨k0,k1,k2,k3,k4,k5⟩:=(q.keep (tal _ (.cells #[iV 0,iV 0] 41)) id).f6;simp only[List.map_cons,List.map_nil]at HVS;have HZ:=Lib.hid (show w.heap.size+3≤W.heap.size from bL.lt);clear bC bL q;go_enter Tryz.func35,Tryz.ntmps35;go_wp2_with fail;refine HVS.out.mono ?_;rintro _ w1 ⟨u,rfl,hr,t1⟩;have hr0:=hr.weak (P':=fun _=>True) (fun _ _=>trivial);obtain⟨U,cu,rfl,_,_⟩:=hr0.form;obtain⟨gg,oo,rfl⟩:=hr0.head (by simp);obtain⟨y0,y1⟩:=Row.two (l:=[((0,1):Vl)]) hr0 zyt (show 0<1 by decide) rfl;have bO1:=bO.keep t1 id;have T1:=tw.trans t1;clear HVS hr hr0 bO k0 k1 k2 k3 k4 k5 hW tw t1;simp only[Nat.zero_mul,Nat.add_zero,List.getElem_cons_zero]at y0 y1;(try simp only[List.length_singleton]);go_wp2_with (refine stH (w.heap.size+1) #[iV 0,iV 1] bO1 ?_);intro w9 HF HTF;clear bO1;go_wp2;(try simp only[exS]);refine zfe HF.out ?_;exact⟨rfl,T1.trans' HTF.out (fun i hi=>.inr (by have hi:i=w.heap.size+1:=hi;omega))⟩
open Go.RowKit Go.Gk Go.Gk.V33 Go.Gk.V37 Go.Gk.V38
theorem zy9 (r e a:Int) (w:World):
 Calls Tryz.prog 102 #[iV r,iV e,iV a] w fun x w'=>x=.returned (.agg #[iV r,iV e,iV a,iV 0,iV 1,iV 0])∧Tf w w':=by
 go_enter Tryz.func102,Tryz.ntmps102;go_wp2;refine zfe (Blk.new w 31 _) ?_;exact⟨rfl,tal _ _⟩
theorem zy0 (w:World) (hT:Tab64 0 w):
 Calls Tryz.prog 43 #[] w fun x w'=>x=.returned (.bool true)∧Tf w w':=by
 have HTB:=Lib.hid (fun w' (t9:Tf w w')=>hT.keep t9);clear hT;go_enter Tryz.func43,Tryz.ntmps43;go_wp2_with fail;refine(z5p w).mono ?_;rintro _ w1 ⟨e,a,s,r,l,n,us,rfl,hB,t1⟩;go_wp2_with fail;refine(zwu hB z2c zrk).mono ?_;rintro _ w2 ⟨hsee,t2⟩;have tt:=t1.trans t2;clear hB t1 t2
 rcases hsee with⟨h,_⟩|⟨_,bv,bi,B,t,mr,mp,e,a,s,r,l,n,lv,fs,us,rfl,hV⟩
 ·rw[zyz.hok]at h;cases h
 have HTT:=Lib.hid (fun w' (t9:Tf w2 w')=>HTB.out w' (tt.trans t9));have HV:=Lib.hid (fun w' (t9:Tf w2 w')=>hV.keep t9);have T0:=Lib.hid tt;have t0:Tf w2 w2:=Tch.refl _ _;clear tt hV HTB;go_wp2_with fail;refine(zy9 7 1 4 w2).mono ?_;rintro _ v0 ⟨rfl,t1⟩;have t0:=t0.trans t1;clear t1;go_wp2_with fail;refine(zy9 7 1 5 v0).mono ?_;rintro _ v1 ⟨rfl,t1⟩;have t0:=t0.trans t1;clear t1;go_wp2_with fail;refine(zy9 7 1 2 v1).mono ?_;rintro _ v2 ⟨rfl,t1⟩;have t0:=t0.trans t1;clear t1;go_wp2_with fail;refine(zy9 7 1 3 v2).mono ?_;rintro _ v3 ⟨rfl,t1⟩;have t0:=t0.trans t1;clear t1;go_wp2_with fail;refine(zy9 7 9 3 v3).mono ?_;rintro _ v4 ⟨rfl,t1⟩;have t0:=t0.trans t1;clear t1;have tA:=tal v4 (.cells #[iV 7,iV 1,iV 4,iV 0,iV 1,iV 0,iV 7,iV 1,iV 5,iV 0,iV 1,iV 0,iV 7,iV 1,iV 2,iV 0,iV 1,iV 0,iV 7,iV 1,iV 3,iV 0,iV 1,iV 0,iV 7,iV 9,iV 3,iV 0,iV 1,iV 0] 31);have bA:=Blk.new v4 31 #[iV 7,iV 1,iV 4,iV 0,iV 1,iV 0,iV 7,iV 1,iV 5,iV 0,iV 1,iV 0,iV 7,iV 1,iV 2,iV 0,iV 1,iV 0,iV 7,iV 1,iV 3,iV 0,iV 1,iV 0,iV 7,iV 9,iV 3,iV 0,iV 1,iV 0];have t0:=t0.trans tA;have HVL:=Lib.hid (z0i (cl:=[(7,1,4,0,1,0),(7,1,5,0,1,0),(7,1,2,0,1,0),(7,1,3,0,1,0),(7,9,3,0,1,0)]) (HV.out _ t0) zyz zy3 (HTT.out _ t0) (Row.blk (B:=fun _=>True) (n:=5) (size:=6) bA trivial rfl (by decide)) (by simp));rw[gv_vals]at HVL;clear tA bA;go_wp2_with fail;generalize v4.alloc _=W3 at *;refine HVL.out.mono ?_;rintro _ w3 ⟨uv,rfl,hrv,t1⟩;have t0:=t0.trans t1;have hrv:=hrv.weak (P':=fun _=>True) (fun _ _=>trivial);obtain⟨U,cu,rfl,_,_⟩:=hrv.form;obtain⟨gU,oU,rfl⟩:=hrv.head (by simp);have HRV:=Lib.hid (fun w' (t9:Tf w3 w')=>hrv.keep t9);have tv:Tf w3 w3:=Tch.refl _ _;clear hrv t1 HVL;(try simp only[List.length_nil,List.length_cons,Nat.zero_add,Nat.reduceAdd]);go_wp2_with fail;refine(zy9 2 2 5 w3).mono ?_;rintro _ w4 ⟨rfl,t1⟩;have tv:=tv.trans t1;have t0:=t0.trans t1;have tA:=tal w4 (.cells #[iV 2,iV 2,iV 5,iV 0,iV 1,iV 0] 31);have bA:=Blk.new w4 31 #[iV 2,iV 2,iV 5,iV 0,iV 1,iV 0];have tv:=tv.trans tA;have t0:=t0.trans tA;have HN:=Lib.hid (zz3 (cl:=[(2,2,5,0,1,0)]) (HV.out _ t0) zyz zy3 (HTT.out _ t0) (Row.blk (B:=fun _=>True) (n:=1) (size:=6) bA trivial rfl (by decide)) (by simp) 9);clear tA bA t1;go_wp2_with fail;generalize w4.alloc _=W4 at *;refine HN.out.mono ?_;rintro _ w5 ⟨L,u,er,rfl,hO,hA⟩;obtain⟨rfl,rfl⟩:=g_need1 hA;obtain⟨A1,k1,rfl,_,_⟩:=hO.form;have tv:=tv.trans hO.tch;have t0:=t0.trans hO.tch;clear HN hA hO;(try simp only[List.length_nil]);have q:=Blk.new2 w5 (.cells #[iV 1,iV 2,iV 5,iV 0,iV 0,iV 0] 31) 31 #[iV 2,iV 2,iV 5,iV 0,iV 0,iV 0];obtain⟨W5,hW5,tA,bM,bB,bA⟩:=al3 w5 #[iV 1,iV 2,iV 5,iV 0,iV 0,iV 0] #[iV 2,iV 2,iV 5,iV 0,iV 0,iV 0] #[iV 2,iV 2,iV 5,iV 0,iV 0,iV 0] 31 31 31;obtain⟨q0,q1,q2,q3,q4,q5⟩:=q.f6;have tv:=tv.trans tA;have t0:=t0.trans tA;have HN:=Lib.hid (zz3 (cl:=[(2,2,5,0,0,0)]) (HV.out _ t0) zyz zy3 (HTT.out _ t0) (Row.blk (B:=fun _=>True) (n:=1) (size:=6) bA trivial rfl (by decide)) (by simp) 9);clear q tA bA;go_wp2_with fail;refine HN.out.mono ?_;rintro _ w6 ⟨L,u,er,rfl,hO,hA⟩;obtain⟨rfl,rfl⟩:=g_need2 hA;obtain⟨A2,k2,rfl,_,_⟩:=hO.form;have tv:=tv.trans hO.tch;have t0:=t0.trans hO.tch;have hBm:=bM.keep hO.tch id;have hBb:=bB.keep hO.tch id;have HR2:=Lib.hid (fun w' (t9:Tf w6 w')=>hO.row.keep t9);clear HN hA hO q0 q1 q2 q3 q4 q5 hW5 bM bB;generalize w5.heap.size=z at *;(try simp only[List.length_nil,List.length_cons,Nat.zero_add,Nat.reduceAdd]);have tA:=tal w6 (.cells #[iV 2,iV 2,iV 5,iV 0,iV 0,iV 0] 31);have bA:=Blk.new w6 31 #[iV 2,iV 2,iV 5,iV 0,iV 0,iV 0];obtain⟨q0,q1,q2,q3,q4,q5⟩:=hBb.f6;have hBm:=hBm.keep tA id;have hBb:=hBb.keep tA id;have tv:=tv.trans tA;have t0:=t0.trans tA;have HN:=Lib.hid (zz3 (cl:=[(2,2,5,0,0,0)]) (HV.out _ t0) zyz zy3 (HTT.out _ t0) (Row.blk (B:=fun _=>True) (n:=1) (size:=6) bA trivial rfl (by decide)) (by simp) 1);have ty:Tf w6 w6:=Tch.refl _ _;have ty:=ty.trans tA;clear tA bA;go_wp2_with fail;generalize w6.alloc _=W6 at *;refine HN.out.mono ?_;rintro _ w7 ⟨L,u,er,rfl,hO,hA⟩;obtain⟨rfl,rfl⟩:=g_need3 hA;obtain⟨A3,k3,rfl,_,_⟩:=hO.form;have tv:=tv.trans hO.tch;have t0:=t0.trans hO.tch;have ty:=ty.trans hO.tch;have hBm:=hBm.keep hO.tch id;have hBb:=hBb.keep hO.tch id;clear HN hA hO q0 q1 q2 q3 q4 q5;(try simp only[List.length_nil]);go_wp2_with fail;refine(zy9 3 2 5 w7).mono ?_;rintro _ w8 ⟨rfl,t1⟩;have HZ8:=Lib.hid (show z+1<w8.heap.size from(hBb.keep t1 id).lt);have tA:=tal w8 (.cells #[iV 3,iV 2,iV 5,iV 0,iV 1,iV 0] 31);have bF:=Blk.new w8 31 #[iV 3,iV 2,iV 5,iV 0,iV 1,iV 0];have s3:=(tv.trans t1).size;have s2:=(t0.trans t1).size;have s6:=(ty.trans t1).size;have t1:=t1.trans tA;have tv:=tv.trans t1;have t0:=t0.trans t1;have ty:=ty.trans t1;have hBm:=hBm.keep t1 id;have hBb:=hBb.keep t1 id;clear t1 tA;go_wp2_with (refine zab rfl _ _ _ rfl w8.heap.size 4 (iV 2) (by rfl) (by rfl) rfl (by rfl) bF (by simp) ?_;refine Hid.out ?_);refine Lib.hid ?_;intro w9 bF ts;have bF:Blk w9 w8.heap.size 31 #[iV 3,iV 2,iV 5,iV 0,iV 2,iV 0]:=by simpa using bF
 have hB0:=hBm.keep ts (by have:=HZ8.out;omega);have hB1:=hBb.keep ts (by have:=HZ8.out;omega);have tv:=tv.trans' ts (fun i hi=>.inr (by have hi:i=w8.heap.size:=hi;omega));have t0:=t0.trans' ts (fun i hi=>.inr (by have hi:i=w8.heap.size:=hi;omega));have ty:=ty.trans' ts (fun i hi=>.inr (by have hi:i=w8.heap.size:=hi;omega));have HBL:=Lib.hid (z4p (HV.out _ t0) zyz zy3 (HTT.out _ t0) 3 2 5 0 2 0);obtain⟨q0,q1,q2,q3,q4,q5⟩:=bF.f6;generalize w8.heap.size=y at *;clear ts hBm hBb HZ8 s3 s2 s6;go_wp2_with fail;refine HBL.out.mono ?_;rintro _ w10 ⟨L,u,er,rfl,hrb,tb,hA⟩;obtain⟨rfl,rfl⟩:=g_blame hA;obtain⟨A4,k4,rfl,_,_⟩:=hrb.form;have hrb:=hrb.weak (P':=fun _=>True) (fun _ _=>trivial);clear q0 q1 q2 q3 q4 q5 HBL hA;have bF:=bF.keep tb id;obtain⟨q0,q1,q2,q3,q4,q5⟩:=bF.f6;have tA:=tal w10 (.cells #[iV 3,iV 2,iV 5,iV 0,iV 2,iV 0] 31);have bA:=Blk.new w10 31 #[iV 3,iV 2,iV 5,iV 0,iV 2,iV 0];have HSA:=Lib.hid (zf9 (l:=[(3,2,5,0,2,0)]) (hrb.keep tA) (Row.blk (B:=fun _=>True) (n:=1) (size:=6) bA trivial rfl (by decide)));have tt:=tb.trans tA;have tv:=tv.trans tt;have t0:=t0.trans tt;have ty:=ty.trans tt;have hB0:=hB0.keep tt id;have hB1:=hB1.keep tt id;clear hrb tA bA tb tt;(try simp only[List.length_nil,List.length_cons,Nat.zero_add]at HSA⊢);go_wp2_with fail;generalize w10.alloc _=W10 at *;refine HSA.out.mono ?_;rintro _ w11 ⟨rfl,t1⟩;clear q0 q1 q2 q3 q4 q5 HSA bF;have tv:=tv.trans t1;have t0:=t0.trans t1;have ty:=ty.trans t1;have hB0:=hB0.keep t1 id;have hB1:=hB1.keep t1 id;have hrv:=HRV.out w11 tv;have x0:=(Row.two (i:=0) hrv zyt (by decide) rfl).1;have x1:=(Row.two (i:=1) hrv zyt (by decide) rfl).1;have x2:=(Row.two (i:=2) hrv zyt (by decide) rfl).1;have x3:=(Row.two (i:=3) hrv zyt (by decide) rfl).1;have x4:=(Row.two (i:=4) hrv zyt (by decide) rfl).2;simp only[Nat.zero_mul,Nat.add_zero,Nat.reduceMul,List.getElem_cons_zero,List.getElem_cons_succ]at x0 x1 x2 x3 x4;obtain⟨q0,q1,q2,q3,q4,q5⟩:=hB0.f6;obtain⟨p0,p1,p2,p3,p4,p5⟩:=hB1.f6;have tA:=tal w11 (.cells #[iV 1,iV 2,iV 5,iV 0,iV 0,iV 0,iV 2,iV 2,iV 5,iV 0,iV 0,iV 0] 31);have bA:=Blk.new w11 31 #[iV 1,iV 2,iV 5,iV 0,iV 0,iV 0,iV 2,iV 2,iV 5,iV 0,iV 0,iV 0];have hr2:=(HR2.out w11 ty).keep tA;have HSA:=Lib.hid (zf9 (l:=[(1,2,5,0,0,0),(2,2,5,0,0,0)]) hr2 (Row.blk (B:=fun _=>True) (n:=2) (size:=6) bA trivial rfl (by decide)));have t0:=t0.trans tA;have hB1:=hB1.keep tA id;clear t1 hrv tA bA hr2 hB0;(try simp only[List.length_nil,List.length_cons,Nat.zero_add,Nat.reduceAdd]at HSA⊢);go_wp2_with fail;generalize w11.alloc _=W11 at *;refine HSA.out.mono ?_;rintro _ w12 ⟨rfl,t1⟩;clear q0 q1 q2 q3 q4 q5 p0 p1 p2 p3 p4 p5 x0 x1 x2 x3 x4 HSA;have t0:=t0.trans t1;have hB1:=hB1.keep t1 id;obtain⟨p0,p1,p2,p3,p4,p5⟩:=hB1.f6;have HVN:=Lib.hid (z2g (w:=w12) 2 2 5 0 0 0);clear t1 hB1;go_wp2_with fail;refine HVN.out.mono ?_;rintro _ w13 ⟨rfl,t1⟩;have TT:=T0.out.trans (t0.trans t1);clear HVN p0 p1 p2 p3 p4 p5;have hfl:∀w,(Instr.field 41 (.agg #[iV 0,iV 1]) 1).run Tryz.prog w=.ok (iV 1) w:=fun w=>by kernel_rfl
 go_wp2;go_ret;exact⟨rfl,TT⟩
open Go.RowKit Go.Gk
def FewRet (b:Bks) (p:Int) (w:World) (x:Ending) (w':World):Prop:=∃m:Bool,x=.returned (.bool m)∧(m=true→zuj b=true∧b.ents.length≤6∧b.accs.length≤9∧p≤3)∧Tf w w'
theorem z2e {w:World} {e a s r l n:Value} {b:Bks} {us:List (Ent×Value)} (h:BksAt w e a s r l n b us) (c1 c2 c3 c4 c5 c6:Int):
 Calls Tryz.prog 11 #[.agg #[e,a,s,r,l,n],.agg #[iV c1,iV c2,iV c3,iV c4,iV c5,iV c6]] w (FewRet b c4 w):=by
 obtain⟨W,hW,tw,bB,bC⟩:=al2 w #[e,a,s,r,l,n] #[iV c1,iV c2,iV c3,iV c4,iV c5,iV c6] 29 31;have HF:=Lib.hid (zwy (h.keep tw));obtain⟨Ae,ce,rfl,_,_⟩:=h.ents.form;obtain⟨Aa,ca,rfl,_,_⟩:=h.accs.form;obtain⟨As,cs,rfl,_,_⟩:=h.stakes.form;obtain⟨Ar,cr,rfl,_,_⟩:=h.rates.form;obtain⟨Al,cl,rfl,_,_⟩:=h.locks.form;obtain⟨An,cn,rfl,_,_⟩:=h.ent.row.form;obtain⟨g0,g1,g2,g3,g4,g5⟩:=bB.f6;clear h
 obtain⟨m,hm⟩:∃m,zuj b=m:=⟨_,rfl⟩
 rw[hm]at HF;have HM:=Lib.hid hm;clear hm;generalize hn0:b.ents.length=n0 at *;generalize hn1:b.accs.length=n1 at *;have HN0:=Lib.hid hn0;have HN1:=Lib.hid hn1;clear hn0 hn1;generalize us.length=n2 at *;generalize b.stakes.length=n3 at *;generalize b.rates.length=n4 at *;generalize b.locks.length=n5 at *;go_enter Tryz.func11,Tryz.ntmps11;go_wp2_with fail;refine HF.out.mono ?_;rintro _ w1 ⟨rfl,t1⟩;have bB1:=bB.keep t1 id;have bC1:=bC.keep t1 id;have tt:=tw.trans t1;clear HF g0 g1 g2 g3 g4 g5 hW tw t1 bB bC;obtain⟨g0,g1,g2,g3,g4,g5⟩:=bB1.f6;have k3:=bC1.at3;clear bB1 bC1
 cases m
 ·go_wp2;go_ret;exact⟨false,rfl,(fun h=>by cases h),tt⟩
 by_cases h0:(n0:Int)≤6
 rotate_left
 ·go_wp2;go_ret;exact⟨false,rfl,(fun h=>by cases h),tt⟩
 by_cases h1:(n1:Int)≤9
 rotate_left
 ·go_wp2;go_ret;exact⟨false,rfl,(fun h=>by cases h),tt⟩
 by_cases h2:(n2:Int)≤12
 rotate_left
 ·go_wp2;go_ret;exact⟨false,rfl,(fun h=>by cases h),tt⟩
 go_wp2;go_ret;exact⟨_,rfl,fun h9=>⟨HM.out,by rw[HN0.out];omega,by rw[HN1.out];omega,of_decide_eq_true h9⟩,tt⟩
