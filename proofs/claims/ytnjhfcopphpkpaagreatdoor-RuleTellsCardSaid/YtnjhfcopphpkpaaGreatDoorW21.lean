/-
  THE CARD: Rows.RuleTellsCardSaid.
-/
import Derived.Test.YtnjhfcopphpkpaaGreatDoorW21b
import Derived.Test.YtnjhfcopphpkpaaGreatDoorWe
import Derived.Test.YtnjhfcopphpkpaaGreatDoorTie
import Derived.Test.YtnjhfcopphpkpaaGreatDoorCards
namespace Go.Proofs.YtnjhfcopphpkpaaGreatDoor.ruleTells
open Go.ChangeShapes Go.WideShapes Go.ChangeAt Go.RowKit Go.Gk
theorem proved:Rows.RuleTellsCardSaid:=
 Claim7.holds_tied_plain_at .later [] [.data,.data] true (true, "923492866de07697f329228ff09294518a91fc08b6db5f3f56089fe3a0622818") false
  over (fun _ h=>by cases h) (by kernel_rfl) (fun _ h=>by cases h) ruleTells_row_tie rfl ⟨rfl,rfl⟩ (by kernel_rfl) rfl
  (fun f fn hf hfn=>by
   obtain rfl:f=3:=Option.some.inj ((show Tryz.prog.funcNamed "gavelkind/gavelkindlaw37.RuleTells" =some 3 by kernel_rfl).symm.trans hf)|>.symm;obtain rfl:fn=Tryz.f3:=(Option.some.inj (Tryz.func3.symm.trans hfn)).symm
   exact⟨by kernel_rfl,fun j t ht=>by
    rw[Tryz.params3]at ht;have hm:t∈[29,31]:=by simpa using Array.mem_of_getElem? ht
    have hall:([29,31].all fun u=>!Tryz.prog.wantsStandIn u)=true:=by kernel_rfl
    exact(show Tryz.prog.wantsStandIn t=false by simpa using List.all_eq_true.1 hall t hm)⟩)
  goes
#print axioms proved
