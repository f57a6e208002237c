/-
  The row FeedMisses: lifted.
-/
import Derived.Test.YtoegobjnjljegaaGreatDoorZ75
import Derived.Test.YtoegobjnjljegaaGreatDoorKz
import Derived.LaidMore
import Derived.Stop.LaidErr
import Derived.Lib.LaidTab
import Derived.SevenTiedAt
set_option maxRecDepth 100000
namespace Go.Proofs.YtoegobjnjljegaaGreatDoor.feedMisses
open Go.ChangeShapes Go.WideShapes Go.ChangeAt Go.RowKit Go.Gk
theorem gTab:Tryz.prog.globalNamed "math/bits.deBruijn64tab" =some 0:=by kernel_rfl
theorem tTab:(Tryz.prog.globals[0]?).map (·.type)=some 294:=by kernel_rfl
theorem cTab:Tryz.prog.cellsOf 294=64:=by kernel_rfl
theorem cU8:Tryz.prog.cellsOf 5=1:=by kernel_rfl
theorem zq5 {W:World} (h:laidMetH Tryz.prog Rows.feedMissesRow.laid W):Tab64 0 W:=by
 rw[MakeChecks.laidMetH_plain _ _ _ (by kernel_rfl)]at h;have h2:laidMet Tryz.prog [("math/bits.deBruijn64tab",Lib.tabData .u8 (Lib.deBruijn64tab.map fun(n:Nat)=>(n:Int)))] W:=laidMet.tail h;have hT:=Lib.tabIs_of_head gTab tTab Tryz.underlying294 Tryz.underlying5 cU8 cTab h2;intro j hj;have hc:=hT.cell gTab j (by simpa[Lib.deBruijn64tab]using hj);rw[hc];have hl:j<Lib.deBruijn64tab.length:=by simpa[Lib.deBruijn64tab]using hj
 simp[List.getD,hl]
theorem z5t (os:Os) (args:Array Value):laidMetH Tryz.prog Rows.feedMissesRow.laid ((World.doorLaid Tryz.prog 400 os).forCall (fun _ _=>0) ⟨#[],args,[]⟩).memory:=
 laidMetH_of_parts3 (fuel:=8) (laidMet_of_run' 8 (by kernel_rfl) (by kernel_rfl)) (by kernel_rfl) (by kernel_rfl)
theorem lifted (os:Os) (started:os.Started) (H:Type) (enc:TypeId×Value→H):
 ReturnsInHanded {} Tryz.checked os 10 .any (fun w args=>(Rows.feedMissesSpec.pre enc Tryz.prog Tryz.f10 Rows.feedMissesRow.domain false w args∧laidMetH Tryz.prog Rows.feedMissesRow.laid w)∧sizedMet enc Tryz.prog Tryz.f10 (OpenSpec.ofChange Rows.feedMissesSpec) false w args)
  (Rows.feedMissesSpec.post enc Tryz.prog Tryz.f10 false true false false):=by
 refine returnsInHanded_of_change_and (C:=Tryz.checked) (X:=fun w _=>laidMetH Tryz.prog Rows.feedMissesRow.laid w) (fun _ _ _ hh h=>h.of_heap hh) zvv started (by kernel_rfl) Tryz.func10
  (ChangeSpec.witness_shaped (enc:=enc) (C:=Tryz.checked) (os:=os) (X:=fun w _=>laidMetH Tryz.prog Rows.feedMissesRow.laid w) false (World.doorLaid Tryz.prog 400 os) #[.agg #[.slice none 0 0,.slice none 0 0,.slice none 0 0,.slice none 0 0,.slice none 0 0,.slice none 0 0],.agg #[.int .i64 0,.int .i64 0,.int .i64 0,.int .i64 0,.int .i64 0,.int .i64 0]] 8 rfl (World.shaped_of_RefB (by kernel_rfl) (by kernel_rfl)) (by kernel_rfl) (by kernel_rfl) (by kernel_rfl) (z5t os _)) ?_
 intro W base args ds gs before hval0 hW _ _ hL _;have hT:=zq5 hL;have hval:∀(j:Nat) t v,Tryz.f10.params[j]?=some t→args[j]?=some v→Value.okWide Tryz.prog W .any base t v:=hval0;have hW':=hW;obtain⟨p,q,hA0,hV,rfl,hfz,hnd⟩:=hW;have hA:DataW.TrodAll enc Tryz.prog W 0 (fun _=>true) true Tryz.f10.params.toList args.toList ds p:=hA0;rw[Tryz.params10]at hA hval;obtain⟨v0,vs0,d0,ds0,p0,q0,hargs,rfl,rfl,h0,r0⟩:=trodAll_cons hA;obtain⟨v1,vs1,d1,ds1,p1,q1,rfl,rfl,rfl,h1,r1⟩:=trodAll_cons r0;obtain⟨rfl,rfl,rfl⟩:=trodAll_nil r1;obtain rfl:args= #[v0,v1]:=by cases args;simp_all
 obtain⟨rfl,rfl⟩:=trodVars_none hV;have k0:=h0;have lt0:∀x∈p0,x.block<W.heap.size:=by obtain⟨m,hm⟩:=k0;exact DataW.trod_lt m _ _ _ hm
 have w0:=zty (hval 0 29 v0 rfl rfl) h0;have k1:=h1;have lt1:∀x∈p1,x.block<W.heap.size:=by obtain⟨m,hm⟩:=k1;exact DataW.trod_lt m _ _ _ hm
 have w1:=z5x (hval 1 31 v1 rfl rfl) h1;clear hA0 hval0;refine(feedmisses_row hT w0 w1).mono fun e W' ⟨he,tch⟩=>?_
 have bel:Below W.heap.size W W':=Exn.below tch;subst he;exact⟨_,rfl,_,_,_,[],_,[],hW',trodAll_mk1 (shut_bool Tryz.underlying4 _),(trodAll_cons_mk (Below.trod zm3 (by kernel_rfl) (of_decide_eq_true (by kernel_rfl)) k0 bel lt0) (trodAll_cons_mk (Below.trod zm3 (by kernel_rfl) (of_decide_eq_true (by kernel_rfl)) k1 bel lt1) trodAll_mk0)),rfl,bel.frame _,fun h=>by cases h⟩
