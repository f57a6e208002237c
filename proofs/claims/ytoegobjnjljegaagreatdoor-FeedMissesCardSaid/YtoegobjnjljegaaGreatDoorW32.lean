/-
  THE CARD: Rows.FeedMissesCardSaid.
-/
import Derived.Test.YtoegobjnjljegaaGreatDoorW32b
import Derived.Test.YtoegobjnjljegaaGreatDoorWx
import Derived.Test.YtoegobjnjljegaaGreatDoorTie
import Derived.Test.YtoegobjnjljegaaGreatDoorCards
namespace Go.Proofs.YtoegobjnjljegaaGreatDoor.feedMisses
open Go.ChangeShapes Go.WideShapes Go.ChangeAt Go.RowKit Go.Gk
theorem proved:Rows.FeedMissesCardSaid:=
 Claim7.holds_tied_plain_at .later [] [.data,.data] true (true, "e941f8b9d921cc7c32c648760c680ac1967cfa6d9c8e5142f4e6a1039b8091b2") false
  over (fun _ h=>by cases h) (by kernel_rfl) (fun _ h=>by cases h) feedMisses_row_tie rfl ⟨rfl,rfl⟩ (by kernel_rfl) rfl
  (fun f fn hf hfn=>by
   obtain rfl:f=10:=Option.some.inj ((show Tryz.prog.funcNamed "gavelkind/gavelkindlaw39.FeedMisses" =some 10 by kernel_rfl).symm.trans hf)|>.symm;obtain rfl:fn=Tryz.f10:=(Option.some.inj (Tryz.func10.symm.trans hfn)).symm
   exact⟨by kernel_rfl,fun j t ht=>by
    rw[Tryz.params10]at ht;have hm:t∈[29,31]:=by simpa using Array.mem_of_getElem? ht
    have hall:([29,31].all fun u=>!Tryz.prog.wantsStandIn u)=true:=by kernel_rfl
    exact(show Tryz.prog.wantsStandIn t=false by simpa using List.all_eq_true.1 hall t hm)⟩)
  goes
#print axioms proved
