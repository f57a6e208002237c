/-
  No cell of these rows narrows 'for every input' (looked for: loops, veiled, ifaces, maps, wideKeys, modest, calm, conditions, laid).
  DERIVED. THE GIVEN ROWS OF THIS SEAT. 3 by the template 'for every input the law returns true; each argument reads behind the call as it read before'; 0 by the template 'total and deterministic' (their statements: YtejgepplfnfkfaaGreatTotals.lean).
  GIVEN WITH THE SEED: the statements are not yours to turn. If you find one false, say at which input.
  Laid BY PROGRAM, IN A SANDBOX (cutbox-rows.mjs): the forced cells as the released guide's own fill.sh prints them over the translation 340bd8ecd4c7b149… (all of the seat's roots in one cut). By AI agents, Wed Nov 11 2026. No macro, syntax, notation, axiom, sorry.
-/
import Derived.Test.YtejgepplfnfkfaaGreatChecked
import GoSem.Claim
import GoSem.ClaimJoined
import GoSem.ClaimMapViews
import Derived.JoinedTies
import Derived.KernelRfl
namespace Go.Proofs.YtejgepplfnfkfaaGreat
/- THE CELL 'sum', in the pinned program and in every row, IS THE sha256 OF THE DUMP (.gsa) THAT YtejgepplfnfkfaaGreatProg.lean LOADS. Nothing in Lean hashes anything: it is a label: what it is worth is what the hold of that sum in a sandbox is worth. -/
noncomputable def Tryz.pinned : Pinned := { name := "ytejgepplfnfkfaagreat", sum := "340bd8ecd4c7b149cd929c9865f044b89aef04f41e5e533381f8de9c478fbf4f", checked := Tryz.checked }
namespace Rows
def none {H : Type} : Left H := { results := [], args := [] }

/-- 'gavelkindlaw31.LocalTells': WHATEVER THE INPUT: true; the input reads as it did. -/
def localTellsSpec : ChangeSpec := { name := "localTells", fn := fun _ => fun
  | [d1, d2] => { results := [.lit (.bool true)], args := [d1, d2] }
  | _ => none }
def localTellsRow : OpenClaim := { program := "ytejgepplfnfkfaagreat", sum := "340bd8ecd4c7b149cd929c9865f044b89aef04f41e5e533381f8de9c478fbf4f", func := "gavelkind/gavelkindlaw31.LocalTells", spec := "localTells", inPlace := ["math/bits.Add64", "math/bits.Sub64"], unfollowed := true, recurses := true, plainKeys := false, apart := false }
def LocalTellsSaid : Prop := localTellsRow.holds Tryz.pinned (OpenSpec.ofChange localTellsSpec)

/-- ITS FALSE NEIGHBOUR: 'it returns false'. Refute it at one input. -/
def localTellsWrong : ChangeSpec := { name := "localTells", fn := fun _ => fun
  | [d1, d2] => { results := [.lit (.bool false)], args := [d1, d2] }
  | _ => none }
def LocalTellsWrongFalsely : Prop := localTellsRow.holds Tryz.pinned (OpenSpec.ofChange localTellsWrong)

/-- 'gavelkindlaw31.LocalMoves': WHATEVER THE INPUT: true; the input reads as it did. -/
def localMovesSpec : ChangeSpec := { name := "localMoves", fn := fun _ => fun
  | [d1, d2] => { results := [.lit (.bool true)], args := [d1, d2] }
  | _ => none }
def localMovesRow : OpenClaim := { program := "ytejgepplfnfkfaagreat", sum := "340bd8ecd4c7b149cd929c9865f044b89aef04f41e5e533381f8de9c478fbf4f", func := "gavelkind/gavelkindlaw31.LocalMoves", spec := "localMoves", inPlace := ["math/bits.Add64", "math/bits.Sub64"], unfollowed := true, recurses := true, plainKeys := false, apart := false }
def LocalMovesSaid : Prop := localMovesRow.holds Tryz.pinned (OpenSpec.ofChange localMovesSpec)

/-- ITS FALSE NEIGHBOUR: 'it returns false'. Refute it at one input. -/
def localMovesWrong : ChangeSpec := { name := "localMoves", fn := fun _ => fun
  | [d1, d2] => { results := [.lit (.bool false)], args := [d1, d2] }
  | _ => none }
def LocalMovesWrongFalsely : Prop := localMovesRow.holds Tryz.pinned (OpenSpec.ofChange localMovesWrong)

/-- 'gavelkindlaw31.LocalBalances': WHATEVER THE INPUT: true; the input reads as it did. -/
def localBalancesSpec : ChangeSpec := { name := "localBalances", fn := fun _ => fun
  | [d1, d2] => { results := [.lit (.bool true)], args := [d1, d2] }
  | _ => none }
def localBalancesRow : OpenClaim := { program := "ytejgepplfnfkfaagreat", sum := "340bd8ecd4c7b149cd929c9865f044b89aef04f41e5e533381f8de9c478fbf4f", func := "gavelkind/gavelkindlaw31.LocalBalances", spec := "localBalances", inPlace := ["math/bits.Add64", "math/bits.Sub64"], unfollowed := true, recurses := true, named := ["math/bits.divideError", "math/bits.overflowError"], plainKeys := false, apart := false }
def LocalBalancesSaid : Prop := localBalancesRow.holds Tryz.pinned (OpenSpec.ofChange localBalancesSpec)

/-- ITS FALSE NEIGHBOUR: 'it returns false'. Refute it at one input. -/
def localBalancesWrong : ChangeSpec := { name := "localBalances", fn := fun _ => fun
  | [d1, d2] => { results := [.lit (.bool false)], args := [d1, d2] }
  | _ => none }
def LocalBalancesWrongFalsely : Prop := localBalancesRow.holds Tryz.pinned (OpenSpec.ofChange localBalancesWrong)

/- THE SECOND FORM. 'bulk': how many values and letters a reading holds, each counted each time it is reached (what is shared counts as often as it is met; a slice's spare places count too). A statement '..UptoSaid' is the law's where the arguments, and the package variables that the reading takes, are together of bulk at most 1048576: NARROWER than '..Said'. Prove '..Said' where nothing that the law and all that it calls make is longer than what came in: it says more and counts as full. Else prove '..UptoSaid'. A law counts once. -/
mutual
def uptoBulk {H : Type} : DataW H → Nat
  | .lit (.string bytes) => bytes.length + 1
  | .lit _ => 1
  | .nil => 1
  | .ptr d => uptoBulk d + 1
  | .slice elems spare => uptoBulkAll elems + uptoBulkAll spare + 1
  | .agg parts => uptoBulkAll parts + 1
  | .iface _ d => uptoBulk d + 1
  | .map entries => uptoBulkEntries entries + 1
  | .held _ => 1
def uptoBulkAll {H : Type} : List (DataW H) → Nat
  | [] => 0
  | d :: r => uptoBulk d + uptoBulkAll r
def uptoBulkEntries {H : Type} : List (Lit × DataW H) → Nat
  | [] => 0
  | x :: r => uptoBulkEntry x + uptoBulkEntries r
def uptoBulkEntry {H : Type} : Lit × DataW H → Nat
  | (.string bytes, d) => bytes.length + uptoBulk d + 1
  | (_, d) => uptoBulk d + 1
 end
def uptoSmall : (H : Type) → List (DataW H) → Bool := fun _ ds => decide (uptoBulkAll ds ≤ 1048576)
def OpenSpec.upto (s : _root_.Go.ChangeSpec) : _root_.Go.OpenSpec := { _root_.Go.OpenSpec.ofChange s with cond := some uptoSmall }

/-- 'gavelkindlaw31.LocalTells', WHERE WHAT IT READS IS OF BULK AT MOST 1048576: true; the input reads as it did. -/
def localTellsUptoRow : OpenClaim := { program := "ytejgepplfnfkfaagreat", sum := "340bd8ecd4c7b149cd929c9865f044b89aef04f41e5e533381f8de9c478fbf4f", func := "gavelkind/gavelkindlaw31.LocalTells", spec := "localTells", inPlace := ["math/bits.Add64", "math/bits.Sub64"], unfollowed := true, recurses := true, plainKeys := false, apart := false, narrowed := true }
def LocalTellsUptoSaid : Prop := localTellsUptoRow.holds Tryz.pinned (OpenSpec.upto localTellsSpec)

/-- 'gavelkindlaw31.LocalMoves', WHERE WHAT IT READS IS OF BULK AT MOST 1048576: true; the input reads as it did. -/
def localMovesUptoRow : OpenClaim := { program := "ytejgepplfnfkfaagreat", sum := "340bd8ecd4c7b149cd929c9865f044b89aef04f41e5e533381f8de9c478fbf4f", func := "gavelkind/gavelkindlaw31.LocalMoves", spec := "localMoves", inPlace := ["math/bits.Add64", "math/bits.Sub64"], unfollowed := true, recurses := true, plainKeys := false, apart := false, narrowed := true }
def LocalMovesUptoSaid : Prop := localMovesUptoRow.holds Tryz.pinned (OpenSpec.upto localMovesSpec)

/-- 'gavelkindlaw31.LocalBalances', WHERE WHAT IT READS IS OF BULK AT MOST 1048576: true; the input reads as it did. -/
def localBalancesUptoRow : OpenClaim := { program := "ytejgepplfnfkfaagreat", sum := "340bd8ecd4c7b149cd929c9865f044b89aef04f41e5e533381f8de9c478fbf4f", func := "gavelkind/gavelkindlaw31.LocalBalances", spec := "localBalances", inPlace := ["math/bits.Add64", "math/bits.Sub64"], unfollowed := true, recurses := true, named := ["math/bits.divideError", "math/bits.overflowError"], plainKeys := false, apart := false, narrowed := true }
def LocalBalancesUptoSaid : Prop := localBalancesUptoRow.holds Tryz.pinned (OpenSpec.upto localBalancesSpec)

end Rows
end Go.Proofs.YtejgepplfnfkfaaGreat
