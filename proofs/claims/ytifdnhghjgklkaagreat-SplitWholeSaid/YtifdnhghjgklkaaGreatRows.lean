/-
  No cell of these rows narrows 'for every input' (looked for: loops, veiled, ifaces, maps, wideKeys, modest, calm, conditions, laid).
  DERIVED. THE GIVEN ROWS OF THIS SEAT. 5 by the template 'for every input the law returns true; each argument reads behind the call as it read before'; 0 by the template 'total and deterministic' (their statements: YtifdnhghjgklkaaGreatTotals.lean).
  GIVEN WITH THE SEED: the statements are not yours to turn. If you find one false, say at which input.
  Laid BY PROGRAM, IN A SANDBOX (cutbox-rows.mjs): the forced cells as the released guide's own fill.sh prints them over the translation b11d79fd4cf20c1a… (all of the seat's roots in one cut). By AI agents, Wed Nov 11 2026. No macro, syntax, notation, axiom, sorry.
-/
import Derived.Test.YtifdnhghjgklkaaGreatChecked
import GoSem.Claim
import GoSem.ClaimJoined
import GoSem.ClaimMapViews
import Derived.JoinedTies
import Derived.KernelRfl
namespace Go.Proofs.YtifdnhghjgklkaaGreat
/- THE CELL 'sum', in the pinned program and in every row, IS THE sha256 OF THE DUMP (.gsa) THAT YtifdnhghjgklkaaGreatProg.lean LOADS. Nothing in Lean hashes anything: it is a label: what it is worth is what the hold of that sum in a sandbox is worth. -/
noncomputable def Tryz.pinned : Pinned := { name := "ytifdnhghjgklkaagreat", sum := "b11d79fd4cf20c1a052e4662cd1e4108b49364b9f380502e4ccbae755da51e73", checked := Tryz.checked }
namespace Rows
def none {H : Type} : Left H := { results := [], args := [] }

/-- 'gavelkindlaw36.ConsTells': WHATEVER THE INPUT: true; the input reads as it did. -/
def consTellsSpec : ChangeSpec := { name := "consTells", fn := fun _ => fun
  | [d1, d2] => { results := [.lit (.bool true)], args := [d1, d2] }
  | _ => none }
def consTellsRow : OpenClaim := { program := "ytifdnhghjgklkaagreat", sum := "b11d79fd4cf20c1a052e4662cd1e4108b49364b9f380502e4ccbae755da51e73", func := "gavelkind/gavelkindlaw36.ConsTells", spec := "consTells", inPlace := ["math/bits.Add64", "math/bits.Sub64"], unfollowed := true, recurses := true, plainKeys := false, apart := false }
def ConsTellsSaid : Prop := consTellsRow.holds Tryz.pinned (OpenSpec.ofChange consTellsSpec)

/-- ITS FALSE NEIGHBOUR: 'it returns false'. Refute it at one input. -/
def consTellsWrong : ChangeSpec := { name := "consTells", fn := fun _ => fun
  | [d1, d2] => { results := [.lit (.bool false)], args := [d1, d2] }
  | _ => none }
def ConsTellsWrongFalsely : Prop := consTellsRow.holds Tryz.pinned (OpenSpec.ofChange consTellsWrong)

/-- 'gavelkindlaw36.ConsHolds': WHATEVER THE INPUT: true; the input reads as it did. -/
def consHoldsSpec : ChangeSpec := { name := "consHolds", fn := fun _ => fun
  | [d1, d2] => { results := [.lit (.bool true)], args := [d1, d2] }
  | _ => none }
def consHoldsRow : OpenClaim := { program := "ytifdnhghjgklkaagreat", sum := "b11d79fd4cf20c1a052e4662cd1e4108b49364b9f380502e4ccbae755da51e73", func := "gavelkind/gavelkindlaw36.ConsHolds", spec := "consHolds", inPlace := ["math/bits.Add64", "math/bits.Sub64"], unfollowed := true, recurses := true, plainKeys := false, apart := false }
def ConsHoldsSaid : Prop := consHoldsRow.holds Tryz.pinned (OpenSpec.ofChange consHoldsSpec)

/-- ITS FALSE NEIGHBOUR: 'it returns false'. Refute it at one input. -/
def consHoldsWrong : ChangeSpec := { name := "consHolds", fn := fun _ => fun
  | [d1, d2] => { results := [.lit (.bool false)], args := [d1, d2] }
  | _ => none }
def ConsHoldsWrongFalsely : Prop := consHoldsRow.holds Tryz.pinned (OpenSpec.ofChange consHoldsWrong)

/-- 'gavelkindlaw31.LocalBalances': WHATEVER THE INPUT: true; the input reads as it did. -/
def localBalancesSpec : ChangeSpec := { name := "localBalances", fn := fun _ => fun
  | [d1, d2] => { results := [.lit (.bool true)], args := [d1, d2] }
  | _ => none }
def localBalancesRow : OpenClaim := { program := "ytifdnhghjgklkaagreat", sum := "b11d79fd4cf20c1a052e4662cd1e4108b49364b9f380502e4ccbae755da51e73", func := "gavelkind/gavelkindlaw31.LocalBalances", spec := "localBalances", inPlace := ["math/bits.Add64", "math/bits.Sub64"], unfollowed := true, recurses := true, named := ["math/bits.divideError", "math/bits.overflowError"], plainKeys := false, apart := false }
def LocalBalancesSaid : Prop := localBalancesRow.holds Tryz.pinned (OpenSpec.ofChange localBalancesSpec)

/-- ITS FALSE NEIGHBOUR: 'it returns false'. Refute it at one input. -/
def localBalancesWrong : ChangeSpec := { name := "localBalances", fn := fun _ => fun
  | [d1, d2] => { results := [.lit (.bool false)], args := [d1, d2] }
  | _ => none }
def LocalBalancesWrongFalsely : Prop := localBalancesRow.holds Tryz.pinned (OpenSpec.ofChange localBalancesWrong)

/-- 'gavelkindlaw35.SplitParts': WHATEVER THE INPUT: true; the input reads as it did. -/
def splitPartsSpec : ChangeSpec := { name := "splitParts", fn := fun _ => fun
  | [d1, d2, d3] => { results := [.lit (.bool true)], args := [d1, d2, d3] }
  | _ => none }
def splitPartsRow : OpenClaim := { program := "ytifdnhghjgklkaagreat", sum := "b11d79fd4cf20c1a052e4662cd1e4108b49364b9f380502e4ccbae755da51e73", func := "gavelkind/gavelkindlaw35.SplitParts", spec := "splitParts", inPlace := ["math/bits.Add64", "math/bits.Sub64"], unfollowed := true, recurses := true, named := ["math/bits.divideError", "math/bits.overflowError"], plainKeys := false, apart := false }
def SplitPartsSaid : Prop := splitPartsRow.holds Tryz.pinned (OpenSpec.ofChange splitPartsSpec)

/-- ITS FALSE NEIGHBOUR: 'it returns false'. Refute it at one input. -/
def splitPartsWrong : ChangeSpec := { name := "splitParts", fn := fun _ => fun
  | [d1, d2, d3] => { results := [.lit (.bool false)], args := [d1, d2, d3] }
  | _ => none }
def SplitPartsWrongFalsely : Prop := splitPartsRow.holds Tryz.pinned (OpenSpec.ofChange splitPartsWrong)

/-- 'gavelkindlaw35.SplitWhole': WHATEVER THE INPUT: true; the input reads as it did. -/
def splitWholeSpec : ChangeSpec := { name := "splitWhole", fn := fun _ => fun
  | [d1, d2, d3] => { results := [.lit (.bool true)], args := [d1, d2, d3] }
  | _ => none }
def splitWholeRow : OpenClaim := { program := "ytifdnhghjgklkaagreat", sum := "b11d79fd4cf20c1a052e4662cd1e4108b49364b9f380502e4ccbae755da51e73", func := "gavelkind/gavelkindlaw35.SplitWhole", spec := "splitWhole", inPlace := ["math/bits.Add64", "math/bits.Sub64"], unfollowed := true, recurses := true, named := ["math/bits.divideError", "math/bits.overflowError"], plainKeys := false, apart := false }
def SplitWholeSaid : Prop := splitWholeRow.holds Tryz.pinned (OpenSpec.ofChange splitWholeSpec)

/-- ITS FALSE NEIGHBOUR: 'it returns false'. Refute it at one input. -/
def splitWholeWrong : ChangeSpec := { name := "splitWhole", fn := fun _ => fun
  | [d1, d2, d3] => { results := [.lit (.bool false)], args := [d1, d2, d3] }
  | _ => none }
def SplitWholeWrongFalsely : Prop := splitWholeRow.holds Tryz.pinned (OpenSpec.ofChange splitWholeWrong)

/- THE SECOND FORM. 'bulk': how many values and letters a reading holds, each counted each time it is reached (what is shared counts as often as it is met; a slice's spare places count too). A statement '..UptoSaid' is the law's where the arguments, and the package variables that the reading takes, are together of bulk at most 1048576: NARROWER than '..Said'. Prove '..Said' where nothing that the law and all that it calls make is longer than what came in: it says more and counts as full. Else prove '..UptoSaid'. A law counts once. -/
mutual
def uptoBulk {H : Type} : DataW H → Nat
  | .lit (.string bytes) => bytes.length + 1
  | .lit _ => 1
  | .nil => 1
  | .ptr d => uptoBulk d + 1
  | .slice elems spare => uptoBulkAll elems + uptoBulkAll spare + 1
  | .agg parts => uptoBulkAll parts + 1
  | .iface _ d => uptoBulk d + 1
  | .map entries => uptoBulkEntries entries + 1
  | .held _ => 1
def uptoBulkAll {H : Type} : List (DataW H) → Nat
  | [] => 0
  | d :: r => uptoBulk d + uptoBulkAll r
def uptoBulkEntries {H : Type} : List (Lit × DataW H) → Nat
  | [] => 0
  | x :: r => uptoBulkEntry x + uptoBulkEntries r
def uptoBulkEntry {H : Type} : Lit × DataW H → Nat
  | (.string bytes, d) => bytes.length + uptoBulk d + 1
  | (_, d) => uptoBulk d + 1
 end
def uptoSmall : (H : Type) → List (DataW H) → Bool := fun _ ds => decide (uptoBulkAll ds ≤ 1048576)
def OpenSpec.upto (s : _root_.Go.ChangeSpec) : _root_.Go.OpenSpec := { _root_.Go.OpenSpec.ofChange s with cond := some uptoSmall }

/-- 'gavelkindlaw36.ConsTells', WHERE WHAT IT READS IS OF BULK AT MOST 1048576: true; the input reads as it did. -/
def consTellsUptoRow : OpenClaim := { program := "ytifdnhghjgklkaagreat", sum := "b11d79fd4cf20c1a052e4662cd1e4108b49364b9f380502e4ccbae755da51e73", func := "gavelkind/gavelkindlaw36.ConsTells", spec := "consTells", inPlace := ["math/bits.Add64", "math/bits.Sub64"], unfollowed := true, recurses := true, plainKeys := false, apart := false, narrowed := true }
def ConsTellsUptoSaid : Prop := consTellsUptoRow.holds Tryz.pinned (OpenSpec.upto consTellsSpec)

/-- 'gavelkindlaw36.ConsHolds', WHERE WHAT IT READS IS OF BULK AT MOST 1048576: true; the input reads as it did. -/
def consHoldsUptoRow : OpenClaim := { program := "ytifdnhghjgklkaagreat", sum := "b11d79fd4cf20c1a052e4662cd1e4108b49364b9f380502e4ccbae755da51e73", func := "gavelkind/gavelkindlaw36.ConsHolds", spec := "consHolds", inPlace := ["math/bits.Add64", "math/bits.Sub64"], unfollowed := true, recurses := true, plainKeys := false, apart := false, narrowed := true }
def ConsHoldsUptoSaid : Prop := consHoldsUptoRow.holds Tryz.pinned (OpenSpec.upto consHoldsSpec)

/-- 'gavelkindlaw31.LocalBalances', WHERE WHAT IT READS IS OF BULK AT MOST 1048576: true; the input reads as it did. -/
def localBalancesUptoRow : OpenClaim := { program := "ytifdnhghjgklkaagreat", sum := "b11d79fd4cf20c1a052e4662cd1e4108b49364b9f380502e4ccbae755da51e73", func := "gavelkind/gavelkindlaw31.LocalBalances", spec := "localBalances", inPlace := ["math/bits.Add64", "math/bits.Sub64"], unfollowed := true, recurses := true, named := ["math/bits.divideError", "math/bits.overflowError"], plainKeys := false, apart := false, narrowed := true }
def LocalBalancesUptoSaid : Prop := localBalancesUptoRow.holds Tryz.pinned (OpenSpec.upto localBalancesSpec)

/-- 'gavelkindlaw35.SplitParts', WHERE WHAT IT READS IS OF BULK AT MOST 1048576: true; the input reads as it did. -/
def splitPartsUptoRow : OpenClaim := { program := "ytifdnhghjgklkaagreat", sum := "b11d79fd4cf20c1a052e4662cd1e4108b49364b9f380502e4ccbae755da51e73", func := "gavelkind/gavelkindlaw35.SplitParts", spec := "splitParts", inPlace := ["math/bits.Add64", "math/bits.Sub64"], unfollowed := true, recurses := true, named := ["math/bits.divideError", "math/bits.overflowError"], plainKeys := false, apart := false, narrowed := true }
def SplitPartsUptoSaid : Prop := splitPartsUptoRow.holds Tryz.pinned (OpenSpec.upto splitPartsSpec)

/-- 'gavelkindlaw35.SplitWhole', WHERE WHAT IT READS IS OF BULK AT MOST 1048576: true; the input reads as it did. -/
def splitWholeUptoRow : OpenClaim := { program := "ytifdnhghjgklkaagreat", sum := "b11d79fd4cf20c1a052e4662cd1e4108b49364b9f380502e4ccbae755da51e73", func := "gavelkind/gavelkindlaw35.SplitWhole", spec := "splitWhole", inPlace := ["math/bits.Add64", "math/bits.Sub64"], unfollowed := true, recurses := true, named := ["math/bits.divideError", "math/bits.overflowError"], plainKeys := false, apart := false, narrowed := true }
def SplitWholeUptoSaid : Prop := splitWholeUptoRow.holds Tryz.pinned (OpenSpec.upto splitWholeSpec)

end Rows
end Go.Proofs.YtifdnhghjgklkaaGreat
