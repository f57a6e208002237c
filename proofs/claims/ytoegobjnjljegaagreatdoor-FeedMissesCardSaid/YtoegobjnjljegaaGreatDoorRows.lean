/-
  NARROWER THAN 'FOR EVERY INPUT', by the rows' own cells (each row's printed sentence says how): FeedParts: laid · FeedUnder: laid · ReportTrial: laid · ReportParts: laid · ReportGaps: laid · ReportRated: laid · ConsolGaps: laid · FeedMisses: laid.
  DERIVED. THE GIVEN ROWS OF THIS SEAT. 8 by the template 'for every input the law returns true; each argument reads behind the call as it read before'; 0 by the template 'total and deterministic' (their statements: YtoegobjnjljegaaGreatDoorTotals.lean).
  GIVEN WITH THE SEED: the statements are not yours to turn. If you find one false, say at which input.
  Laid BY PROGRAM, IN A SANDBOX (cutbox-rows.mjs): the forced cells as the released guide's own fill.sh prints them over the translation 925dc9a4acb1e6ff… (all of the seat's roots in one cut). By AI agents, Wed Nov 11 2026. No macro, syntax, notation, axiom, sorry.
-/
import Derived.Test.YtoegobjnjljegaaGreatDoorChecked
import GoSem.Claim
import GoSem.ClaimJoined
import GoSem.ClaimMapViews
import Derived.JoinedTies
import Derived.KernelRfl
namespace Go.Proofs.YtoegobjnjljegaaGreatDoor
/- THE CELL 'sum', in the pinned program and in every row, IS THE sha256 OF THE DUMP (.gsa) THAT YtoegobjnjljegaaGreatDoorProg.lean LOADS. Nothing in Lean hashes anything: it is a label: what it is worth is what the hold of that sum in a sandbox is worth. -/
noncomputable def Tryz.pinned : Pinned := { name := "ytoegobjnjljegaagreatdoor", sum := "925dc9a4acb1e6ff7146582383339953244f71c4ff17c8ce8dd443430b28c260", checked := Tryz.checked }
namespace Rows
def none {H : Type} : Left H := { results := [], args := [] }

/- WHAT THE LISTED PACKAGE-LEVEL VARIABLES READ AS WHEN THE CALL BEGINS. Each datum BY PROGRAM (the guide's laid-datum.mjs) off the statement by which the dump's own 'gosem.cut.vars' lays the variable. In a bare row this is a premise. The card (YtoegobjnjljegaaGreatDoorCards.lean) ties it to the program's text. -/
def laid_math_bits_deBruijn32tab {H : Type} : DataW H := .agg [.lit (.int .u8 0), .lit (.int .u8 1), .lit (.int .u8 28), .lit (.int .u8 2), .lit (.int .u8 29), .lit (.int .u8 14), .lit (.int .u8 24), .lit (.int .u8 3), .lit (.int .u8 30), .lit (.int .u8 22), .lit (.int .u8 20), .lit (.int .u8 15), .lit (.int .u8 25), .lit (.int .u8 17), .lit (.int .u8 4), .lit (.int .u8 8), .lit (.int .u8 31), .lit (.int .u8 27), .lit (.int .u8 13), .lit (.int .u8 23), .lit (.int .u8 21), .lit (.int .u8 19), .lit (.int .u8 16), .lit (.int .u8 7), .lit (.int .u8 26), .lit (.int .u8 12), .lit (.int .u8 18), .lit (.int .u8 6), .lit (.int .u8 11), .lit (.int .u8 5), .lit (.int .u8 10), .lit (.int .u8 9)]
def laid_math_bits_deBruijn64tab {H : Type} : DataW H := .agg [.lit (.int .u8 0), .lit (.int .u8 1), .lit (.int .u8 56), .lit (.int .u8 2), .lit (.int .u8 57), .lit (.int .u8 49), .lit (.int .u8 28), .lit (.int .u8 3), .lit (.int .u8 61), .lit (.int .u8 58), .lit (.int .u8 42), .lit (.int .u8 50), .lit (.int .u8 38), .lit (.int .u8 29), .lit (.int .u8 17), .lit (.int .u8 4), .lit (.int .u8 62), .lit (.int .u8 47), .lit (.int .u8 59), .lit (.int .u8 36), .lit (.int .u8 45), .lit (.int .u8 43), .lit (.int .u8 51), .lit (.int .u8 22), .lit (.int .u8 53), .lit (.int .u8 39), .lit (.int .u8 33), .lit (.int .u8 30), .lit (.int .u8 24), .lit (.int .u8 18), .lit (.int .u8 12), .lit (.int .u8 5), .lit (.int .u8 63), .lit (.int .u8 55), .lit (.int .u8 48), .lit (.int .u8 27), .lit (.int .u8 60), .lit (.int .u8 41), .lit (.int .u8 37), .lit (.int .u8 16), .lit (.int .u8 46), .lit (.int .u8 35), .lit (.int .u8 44), .lit (.int .u8 21), .lit (.int .u8 52), .lit (.int .u8 32), .lit (.int .u8 23), .lit (.int .u8 11), .lit (.int .u8 54), .lit (.int .u8 26), .lit (.int .u8 40), .lit (.int .u8 15), .lit (.int .u8 34), .lit (.int .u8 20), .lit (.int .u8 31), .lit (.int .u8 10), .lit (.int .u8 25), .lit (.int .u8 14), .lit (.int .u8 19), .lit (.int .u8 9), .lit (.int .u8 13), .lit (.int .u8 8), .lit (.int .u8 7), .lit (.int .u8 6)]

/-- 'gavelkindlaw39.FeedParts': WHATEVER THE INPUT: true; the input reads as it did. -/
def feedPartsSpec : ChangeSpec := { name := "feedParts", fn := fun _ => fun
  | [d1, d2] => { results := [.lit (.bool true)], args := [d1, d2] }
  | _ => none }
def feedPartsRow : OpenClaim := { program := "ytoegobjnjljegaagreatdoor", sum := "925dc9a4acb1e6ff7146582383339953244f71c4ff17c8ce8dd443430b28c260", func := "gavelkind/gavelkindlaw39.FeedParts", spec := "feedParts", inPlace := ["math/bits.Add64", "math/bits.Sub64"], unfollowed := true, recurses := true, named := ["math/bits.deBruijn32tab", "math/bits.deBruijn64tab"], plainKeys := false, apart := false, laid := [("math/bits.deBruijn32tab", laid_math_bits_deBruijn32tab), ("math/bits.deBruijn64tab", laid_math_bits_deBruijn64tab)] }
def FeedPartsSaid : Prop := feedPartsRow.holds Tryz.pinned (OpenSpec.ofChange feedPartsSpec)

/-- ITS FALSE NEIGHBOUR: 'it returns false'. Refute it at one input. -/
def feedPartsWrong : ChangeSpec := { name := "feedParts", fn := fun _ => fun
  | [d1, d2] => { results := [.lit (.bool false)], args := [d1, d2] }
  | _ => none }
def FeedPartsWrongFalsely : Prop := feedPartsRow.holds Tryz.pinned (OpenSpec.ofChange feedPartsWrong)

/-- 'gavelkindlaw39.FeedUnder': WHATEVER THE INPUT: true; the input reads as it did. -/
def feedUnderSpec : ChangeSpec := { name := "feedUnder", fn := fun _ => fun
  | [d1, d2] => { results := [.lit (.bool true)], args := [d1, d2] }
  | _ => none }
def feedUnderRow : OpenClaim := { program := "ytoegobjnjljegaagreatdoor", sum := "925dc9a4acb1e6ff7146582383339953244f71c4ff17c8ce8dd443430b28c260", func := "gavelkind/gavelkindlaw39.FeedUnder", spec := "feedUnder", inPlace := ["math/bits.Add64", "math/bits.Sub64"], unfollowed := true, recurses := true, named := ["math/bits.deBruijn32tab", "math/bits.deBruijn64tab"], plainKeys := false, apart := false, laid := [("math/bits.deBruijn32tab", laid_math_bits_deBruijn32tab), ("math/bits.deBruijn64tab", laid_math_bits_deBruijn64tab)] }
def FeedUnderSaid : Prop := feedUnderRow.holds Tryz.pinned (OpenSpec.ofChange feedUnderSpec)

/-- ITS FALSE NEIGHBOUR: 'it returns false'. Refute it at one input. -/
def feedUnderWrong : ChangeSpec := { name := "feedUnder", fn := fun _ => fun
  | [d1, d2] => { results := [.lit (.bool false)], args := [d1, d2] }
  | _ => none }
def FeedUnderWrongFalsely : Prop := feedUnderRow.holds Tryz.pinned (OpenSpec.ofChange feedUnderWrong)

/-- 'gavelkindlaw41.ReportTrial': WHATEVER THE INPUT: true; the input reads as it did. -/
def reportTrialSpec : ChangeSpec := { name := "reportTrial", fn := fun _ => fun
  | [d1, d2] => { results := [.lit (.bool true)], args := [d1, d2] }
  | _ => none }
def reportTrialRow : OpenClaim := { program := "ytoegobjnjljegaagreatdoor", sum := "925dc9a4acb1e6ff7146582383339953244f71c4ff17c8ce8dd443430b28c260", func := "gavelkind/gavelkindlaw41.ReportTrial", spec := "reportTrial", inPlace := ["math/bits.Add64", "math/bits.Sub64"], unfollowed := true, recurses := true, named := ["math/bits.deBruijn32tab", "math/bits.deBruijn64tab", "math/bits.divideError", "math/bits.overflowError"], plainKeys := false, apart := false, laid := [("math/bits.deBruijn32tab", laid_math_bits_deBruijn32tab), ("math/bits.deBruijn64tab", laid_math_bits_deBruijn64tab)] }
def ReportTrialSaid : Prop := reportTrialRow.holds Tryz.pinned (OpenSpec.ofChange reportTrialSpec)

/-- ITS FALSE NEIGHBOUR: 'it returns false'. Refute it at one input. -/
def reportTrialWrong : ChangeSpec := { name := "reportTrial", fn := fun _ => fun
  | [d1, d2] => { results := [.lit (.bool false)], args := [d1, d2] }
  | _ => none }
def ReportTrialWrongFalsely : Prop := reportTrialRow.holds Tryz.pinned (OpenSpec.ofChange reportTrialWrong)

/-- 'gavelkindlaw41.ReportParts': WHATEVER THE INPUT: true; the input reads as it did. -/
def reportPartsSpec : ChangeSpec := { name := "reportParts", fn := fun _ => fun
  | [d1, d2] => { results := [.lit (.bool true)], args := [d1, d2] }
  | _ => none }
def reportPartsRow : OpenClaim := { program := "ytoegobjnjljegaagreatdoor", sum := "925dc9a4acb1e6ff7146582383339953244f71c4ff17c8ce8dd443430b28c260", func := "gavelkind/gavelkindlaw41.ReportParts", spec := "reportParts", inPlace := ["math/bits.Add64", "math/bits.Sub64"], unfollowed := true, recurses := true, named := ["math/bits.deBruijn32tab", "math/bits.deBruijn64tab", "math/bits.divideError", "math/bits.overflowError"], plainKeys := false, apart := false, laid := [("math/bits.deBruijn32tab", laid_math_bits_deBruijn32tab), ("math/bits.deBruijn64tab", laid_math_bits_deBruijn64tab)] }
def ReportPartsSaid : Prop := reportPartsRow.holds Tryz.pinned (OpenSpec.ofChange reportPartsSpec)

/-- ITS FALSE NEIGHBOUR: 'it returns false'. Refute it at one input. -/
def reportPartsWrong : ChangeSpec := { name := "reportParts", fn := fun _ => fun
  | [d1, d2] => { results := [.lit (.bool false)], args := [d1, d2] }
  | _ => none }
def ReportPartsWrongFalsely : Prop := reportPartsRow.holds Tryz.pinned (OpenSpec.ofChange reportPartsWrong)

/-- 'gavelkindlaw41.ReportGaps': WHATEVER THE INPUT: true; the input reads as it did. -/
def reportGapsSpec : ChangeSpec := { name := "reportGaps", fn := fun _ => fun
  | [d1, d2] => { results := [.lit (.bool true)], args := [d1, d2] }
  | _ => none }
def reportGapsRow : OpenClaim := { program := "ytoegobjnjljegaagreatdoor", sum := "925dc9a4acb1e6ff7146582383339953244f71c4ff17c8ce8dd443430b28c260", func := "gavelkind/gavelkindlaw41.ReportGaps", spec := "reportGaps", inPlace := ["math/bits.Add64", "math/bits.Sub64"], unfollowed := true, recurses := true, named := ["math/bits.deBruijn32tab", "math/bits.deBruijn64tab", "math/bits.divideError", "math/bits.overflowError"], plainKeys := false, apart := false, laid := [("math/bits.deBruijn32tab", laid_math_bits_deBruijn32tab), ("math/bits.deBruijn64tab", laid_math_bits_deBruijn64tab)] }
def ReportGapsSaid : Prop := reportGapsRow.holds Tryz.pinned (OpenSpec.ofChange reportGapsSpec)

/-- ITS FALSE NEIGHBOUR: 'it returns false'. Refute it at one input. -/
def reportGapsWrong : ChangeSpec := { name := "reportGaps", fn := fun _ => fun
  | [d1, d2] => { results := [.lit (.bool false)], args := [d1, d2] }
  | _ => none }
def ReportGapsWrongFalsely : Prop := reportGapsRow.holds Tryz.pinned (OpenSpec.ofChange reportGapsWrong)

/-- 'gavelkindlaw41.ReportRated': WHATEVER THE INPUT: true; the input reads as it did. -/
def reportRatedSpec : ChangeSpec := { name := "reportRated", fn := fun _ => fun
  | [d1, d2] => { results := [.lit (.bool true)], args := [d1, d2] }
  | _ => none }
def reportRatedRow : OpenClaim := { program := "ytoegobjnjljegaagreatdoor", sum := "925dc9a4acb1e6ff7146582383339953244f71c4ff17c8ce8dd443430b28c260", func := "gavelkind/gavelkindlaw41.ReportRated", spec := "reportRated", inPlace := ["math/bits.Add64", "math/bits.Sub64"], unfollowed := true, recurses := true, named := ["math/bits.deBruijn32tab", "math/bits.deBruijn64tab", "math/bits.divideError", "math/bits.overflowError"], plainKeys := false, apart := false, laid := [("math/bits.deBruijn32tab", laid_math_bits_deBruijn32tab), ("math/bits.deBruijn64tab", laid_math_bits_deBruijn64tab)] }
def ReportRatedSaid : Prop := reportRatedRow.holds Tryz.pinned (OpenSpec.ofChange reportRatedSpec)

/-- ITS FALSE NEIGHBOUR: 'it returns false'. Refute it at one input. -/
def reportRatedWrong : ChangeSpec := { name := "reportRated", fn := fun _ => fun
  | [d1, d2] => { results := [.lit (.bool false)], args := [d1, d2] }
  | _ => none }
def ReportRatedWrongFalsely : Prop := reportRatedRow.holds Tryz.pinned (OpenSpec.ofChange reportRatedWrong)

/-- 'gavelkindlaw38.ConsolGaps': WHATEVER THE INPUT: true; the input reads as it did. -/
def consolGapsSpec : ChangeSpec := { name := "consolGaps", fn := fun _ => fun
  | [d1, d2] => { results := [.lit (.bool true)], args := [d1, d2] }
  | _ => none }
def consolGapsRow : OpenClaim := { program := "ytoegobjnjljegaagreatdoor", sum := "925dc9a4acb1e6ff7146582383339953244f71c4ff17c8ce8dd443430b28c260", func := "gavelkind/gavelkindlaw38.ConsolGaps", spec := "consolGaps", inPlace := ["math/bits.Add64", "math/bits.Sub64"], unfollowed := true, recurses := true, named := ["math/bits.deBruijn32tab", "math/bits.deBruijn64tab", "math/bits.divideError", "math/bits.overflowError"], plainKeys := false, apart := false, laid := [("math/bits.deBruijn32tab", laid_math_bits_deBruijn32tab), ("math/bits.deBruijn64tab", laid_math_bits_deBruijn64tab)] }
def ConsolGapsSaid : Prop := consolGapsRow.holds Tryz.pinned (OpenSpec.ofChange consolGapsSpec)

/-- ITS FALSE NEIGHBOUR: 'it returns false'. Refute it at one input. -/
def consolGapsWrong : ChangeSpec := { name := "consolGaps", fn := fun _ => fun
  | [d1, d2] => { results := [.lit (.bool false)], args := [d1, d2] }
  | _ => none }
def ConsolGapsWrongFalsely : Prop := consolGapsRow.holds Tryz.pinned (OpenSpec.ofChange consolGapsWrong)

/-- 'gavelkindlaw39.FeedMisses': WHATEVER THE INPUT: true; the input reads as it did. -/
def feedMissesSpec : ChangeSpec := { name := "feedMisses", fn := fun _ => fun
  | [d1, d2] => { results := [.lit (.bool true)], args := [d1, d2] }
  | _ => none }
def feedMissesRow : OpenClaim := { program := "ytoegobjnjljegaagreatdoor", sum := "925dc9a4acb1e6ff7146582383339953244f71c4ff17c8ce8dd443430b28c260", func := "gavelkind/gavelkindlaw39.FeedMisses", spec := "feedMisses", inPlace := ["math/bits.Add64", "math/bits.Sub64"], unfollowed := true, recurses := true, named := ["math/bits.deBruijn32tab", "math/bits.deBruijn64tab", "math/bits.divideError", "math/bits.overflowError"], plainKeys := false, apart := false, laid := [("math/bits.deBruijn32tab", laid_math_bits_deBruijn32tab), ("math/bits.deBruijn64tab", laid_math_bits_deBruijn64tab)] }
def FeedMissesSaid : Prop := feedMissesRow.holds Tryz.pinned (OpenSpec.ofChange feedMissesSpec)

/-- ITS FALSE NEIGHBOUR: 'it returns false'. Refute it at one input. -/
def feedMissesWrong : ChangeSpec := { name := "feedMisses", fn := fun _ => fun
  | [d1, d2] => { results := [.lit (.bool false)], args := [d1, d2] }
  | _ => none }
def FeedMissesWrongFalsely : Prop := feedMissesRow.holds Tryz.pinned (OpenSpec.ofChange feedMissesWrong)

/- THE SECOND FORM. 'bulk': how many values and letters a reading holds, each counted each time it is reached (what is shared counts as often as it is met; a slice's spare places count too). A statement '..UptoSaid' is the law's where the arguments, and the package variables that the reading takes, are together of bulk at most 1048576: NARROWER than '..Said'. Prove '..Said' where nothing that the law and all that it calls make is longer than what came in: it says more and counts as full. Else prove '..UptoSaid'. A law counts once. -/
mutual
def uptoBulk {H : Type} : DataW H → Nat
  | .lit (.string bytes) => bytes.length + 1
  | .lit _ => 1
  | .nil => 1
  | .ptr d => uptoBulk d + 1
  | .slice elems spare => uptoBulkAll elems + uptoBulkAll spare + 1
  | .agg parts => uptoBulkAll parts + 1
  | .iface _ d => uptoBulk d + 1
  | .map entries => uptoBulkEntries entries + 1
  | .held _ => 1
def uptoBulkAll {H : Type} : List (DataW H) → Nat
  | [] => 0
  | d :: r => uptoBulk d + uptoBulkAll r
def uptoBulkEntries {H : Type} : List (Lit × DataW H) → Nat
  | [] => 0
  | x :: r => uptoBulkEntry x + uptoBulkEntries r
def uptoBulkEntry {H : Type} : Lit × DataW H → Nat
  | (.string bytes, d) => bytes.length + uptoBulk d + 1
  | (_, d) => uptoBulk d + 1
 end
def uptoSmall : (H : Type) → List (DataW H) → Bool := fun _ ds => decide (uptoBulkAll ds ≤ 1048576)
def OpenSpec.upto (s : _root_.Go.ChangeSpec) : _root_.Go.OpenSpec := { _root_.Go.OpenSpec.ofChange s with cond := some uptoSmall }

/-- 'gavelkindlaw39.FeedParts', WHERE WHAT IT READS IS OF BULK AT MOST 1048576: true; the input reads as it did. -/
def feedPartsUptoRow : OpenClaim := { program := "ytoegobjnjljegaagreatdoor", sum := "925dc9a4acb1e6ff7146582383339953244f71c4ff17c8ce8dd443430b28c260", func := "gavelkind/gavelkindlaw39.FeedParts", spec := "feedParts", inPlace := ["math/bits.Add64", "math/bits.Sub64"], unfollowed := true, recurses := true, named := ["math/bits.deBruijn32tab", "math/bits.deBruijn64tab"], plainKeys := false, apart := false, laid := [("math/bits.deBruijn32tab", laid_math_bits_deBruijn32tab), ("math/bits.deBruijn64tab", laid_math_bits_deBruijn64tab)], narrowed := true }
def FeedPartsUptoSaid : Prop := feedPartsUptoRow.holds Tryz.pinned (OpenSpec.upto feedPartsSpec)

/-- 'gavelkindlaw39.FeedUnder', WHERE WHAT IT READS IS OF BULK AT MOST 1048576: true; the input reads as it did. -/
def feedUnderUptoRow : OpenClaim := { program := "ytoegobjnjljegaagreatdoor", sum := "925dc9a4acb1e6ff7146582383339953244f71c4ff17c8ce8dd443430b28c260", func := "gavelkind/gavelkindlaw39.FeedUnder", spec := "feedUnder", inPlace := ["math/bits.Add64", "math/bits.Sub64"], unfollowed := true, recurses := true, named := ["math/bits.deBruijn32tab", "math/bits.deBruijn64tab"], plainKeys := false, apart := false, laid := [("math/bits.deBruijn32tab", laid_math_bits_deBruijn32tab), ("math/bits.deBruijn64tab", laid_math_bits_deBruijn64tab)], narrowed := true }
def FeedUnderUptoSaid : Prop := feedUnderUptoRow.holds Tryz.pinned (OpenSpec.upto feedUnderSpec)

/-- 'gavelkindlaw41.ReportTrial', WHERE WHAT IT READS IS OF BULK AT MOST 1048576: true; the input reads as it did. -/
def reportTrialUptoRow : OpenClaim := { program := "ytoegobjnjljegaagreatdoor", sum := "925dc9a4acb1e6ff7146582383339953244f71c4ff17c8ce8dd443430b28c260", func := "gavelkind/gavelkindlaw41.ReportTrial", spec := "reportTrial", inPlace := ["math/bits.Add64", "math/bits.Sub64"], unfollowed := true, recurses := true, named := ["math/bits.deBruijn32tab", "math/bits.deBruijn64tab", "math/bits.divideError", "math/bits.overflowError"], plainKeys := false, apart := false, laid := [("math/bits.deBruijn32tab", laid_math_bits_deBruijn32tab), ("math/bits.deBruijn64tab", laid_math_bits_deBruijn64tab)], narrowed := true }
def ReportTrialUptoSaid : Prop := reportTrialUptoRow.holds Tryz.pinned (OpenSpec.upto reportTrialSpec)

/-- 'gavelkindlaw41.ReportParts', WHERE WHAT IT READS IS OF BULK AT MOST 1048576: true; the input reads as it did. -/
def reportPartsUptoRow : OpenClaim := { program := "ytoegobjnjljegaagreatdoor", sum := "925dc9a4acb1e6ff7146582383339953244f71c4ff17c8ce8dd443430b28c260", func := "gavelkind/gavelkindlaw41.ReportParts", spec := "reportParts", inPlace := ["math/bits.Add64", "math/bits.Sub64"], unfollowed := true, recurses := true, named := ["math/bits.deBruijn32tab", "math/bits.deBruijn64tab", "math/bits.divideError", "math/bits.overflowError"], plainKeys := false, apart := false, laid := [("math/bits.deBruijn32tab", laid_math_bits_deBruijn32tab), ("math/bits.deBruijn64tab", laid_math_bits_deBruijn64tab)], narrowed := true }
def ReportPartsUptoSaid : Prop := reportPartsUptoRow.holds Tryz.pinned (OpenSpec.upto reportPartsSpec)

/-- 'gavelkindlaw41.ReportGaps', WHERE WHAT IT READS IS OF BULK AT MOST 1048576: true; the input reads as it did. -/
def reportGapsUptoRow : OpenClaim := { program := "ytoegobjnjljegaagreatdoor", sum := "925dc9a4acb1e6ff7146582383339953244f71c4ff17c8ce8dd443430b28c260", func := "gavelkind/gavelkindlaw41.ReportGaps", spec := "reportGaps", inPlace := ["math/bits.Add64", "math/bits.Sub64"], unfollowed := true, recurses := true, named := ["math/bits.deBruijn32tab", "math/bits.deBruijn64tab", "math/bits.divideError", "math/bits.overflowError"], plainKeys := false, apart := false, laid := [("math/bits.deBruijn32tab", laid_math_bits_deBruijn32tab), ("math/bits.deBruijn64tab", laid_math_bits_deBruijn64tab)], narrowed := true }
def ReportGapsUptoSaid : Prop := reportGapsUptoRow.holds Tryz.pinned (OpenSpec.upto reportGapsSpec)

/-- 'gavelkindlaw41.ReportRated', WHERE WHAT IT READS IS OF BULK AT MOST 1048576: true; the input reads as it did. -/
def reportRatedUptoRow : OpenClaim := { program := "ytoegobjnjljegaagreatdoor", sum := "925dc9a4acb1e6ff7146582383339953244f71c4ff17c8ce8dd443430b28c260", func := "gavelkind/gavelkindlaw41.ReportRated", spec := "reportRated", inPlace := ["math/bits.Add64", "math/bits.Sub64"], unfollowed := true, recurses := true, named := ["math/bits.deBruijn32tab", "math/bits.deBruijn64tab", "math/bits.divideError", "math/bits.overflowError"], plainKeys := false, apart := false, laid := [("math/bits.deBruijn32tab", laid_math_bits_deBruijn32tab), ("math/bits.deBruijn64tab", laid_math_bits_deBruijn64tab)], narrowed := true }
def ReportRatedUptoSaid : Prop := reportRatedUptoRow.holds Tryz.pinned (OpenSpec.upto reportRatedSpec)

/-- 'gavelkindlaw38.ConsolGaps', WHERE WHAT IT READS IS OF BULK AT MOST 1048576: true; the input reads as it did. -/
def consolGapsUptoRow : OpenClaim := { program := "ytoegobjnjljegaagreatdoor", sum := "925dc9a4acb1e6ff7146582383339953244f71c4ff17c8ce8dd443430b28c260", func := "gavelkind/gavelkindlaw38.ConsolGaps", spec := "consolGaps", inPlace := ["math/bits.Add64", "math/bits.Sub64"], unfollowed := true, recurses := true, named := ["math/bits.deBruijn32tab", "math/bits.deBruijn64tab", "math/bits.divideError", "math/bits.overflowError"], plainKeys := false, apart := false, laid := [("math/bits.deBruijn32tab", laid_math_bits_deBruijn32tab), ("math/bits.deBruijn64tab", laid_math_bits_deBruijn64tab)], narrowed := true }
def ConsolGapsUptoSaid : Prop := consolGapsUptoRow.holds Tryz.pinned (OpenSpec.upto consolGapsSpec)

/-- 'gavelkindlaw39.FeedMisses', WHERE WHAT IT READS IS OF BULK AT MOST 1048576: true; the input reads as it did. -/
def feedMissesUptoRow : OpenClaim := { program := "ytoegobjnjljegaagreatdoor", sum := "925dc9a4acb1e6ff7146582383339953244f71c4ff17c8ce8dd443430b28c260", func := "gavelkind/gavelkindlaw39.FeedMisses", spec := "feedMisses", inPlace := ["math/bits.Add64", "math/bits.Sub64"], unfollowed := true, recurses := true, named := ["math/bits.deBruijn32tab", "math/bits.deBruijn64tab", "math/bits.divideError", "math/bits.overflowError"], plainKeys := false, apart := false, laid := [("math/bits.deBruijn32tab", laid_math_bits_deBruijn32tab), ("math/bits.deBruijn64tab", laid_math_bits_deBruijn64tab)], narrowed := true }
def FeedMissesUptoSaid : Prop := feedMissesUptoRow.holds Tryz.pinned (OpenSpec.upto feedMissesSpec)

end Rows
end Go.Proofs.YtoegobjnjljegaaGreatDoor
