/-
  NARROWER THAN 'FOR EVERY INPUT', by the rows' own cells (each row's printed sentence says how): BoundMatches: laid · BoundGrows: laid · BoundTrees: laid · BoundExamples: laid · BoundSums: laid · ScriptMbs: laid · ScriptUsed: laid · ScriptSmall: laid · ScriptKinds: laid · ScriptMbValid: laid · ScriptReads: laid · ScriptExamples: laid · ScriptMore: laid · ScriptModes: laid.
  DERIVED. THE GIVEN ROWS OF THIS SEAT. 14 by the template 'for every input the law returns true; each argument reads behind the call as it read before'; 0 by the template 'total and deterministic' (their statements: YtomfoaaaeidpnaaDoorTotals.lean).
  GIVEN WITH THE SEED: the statements are not yours to turn. If you find one false, say at which input.
  Laid BY PROGRAM, IN A SANDBOX (cutbox-rows.mjs): the forced cells as the released guide's own fill.sh prints them over the translation 070085d5cd92a760… (all of the seat's roots in one cut). By AI agents, Wed Nov 11 2026. No macro, syntax, notation, axiom, sorry.
-/
import Derived.Test.YtomfoaaaeidpnaaDoorChecked
import GoSem.Claim
import GoSem.ClaimJoined
import GoSem.ClaimMapViews
import Derived.JoinedTies
import Derived.KernelRfl
namespace Go.Proofs.YtomfoaaaeidpnaaDoor
/- THE CELL 'sum', in the pinned program and in every row, IS THE sha256 OF THE DUMP (.gsa) THAT YtomfoaaaeidpnaaDoorProg.lean LOADS. Nothing in Lean hashes anything: it is a label: what it is worth is what the hold of that sum in a sandbox is worth. -/
noncomputable def Tryd.pinned : Pinned := { name := "ytomfoaaaeidpnaadoor", sum := "070085d5cd92a76087f23819a5531e52ef9d0773c03be3e21479208036dabf48", checked := Tryd.checked }
namespace Rows
def none {H : Type} : Left H := { results := [], args := [] }

/- WHAT THE LISTED PACKAGE-LEVEL VARIABLES READ AS WHEN THE CALL BEGINS. Each datum BY PROGRAM (the guide's laid-datum.mjs) off the statement by which the dump's own 'gosem.cut.vars' lays the variable. In a bare row this is a premise. The card (YtomfoaaaeidpnaaDoorCards.lean) ties it to the program's text. -/
def laid_spindle_kinds_quarters {H : Type} : DataW H := .agg [.slice [.agg [.lit (.int .i64 0), .lit (.int .i64 0), .lit (.int .i64 2), .lit (.int .i64 2), .lit (.int .i64 0)]] [], .slice [.agg [.lit (.int .i64 0), .lit (.int .i64 0), .lit (.int .i64 2), .lit (.int .i64 1), .lit (.int .i64 0)], .agg [.lit (.int .i64 0), .lit (.int .i64 1), .lit (.int .i64 2), .lit (.int .i64 1), .lit (.int .i64 0)]] [], .slice [.agg [.lit (.int .i64 0), .lit (.int .i64 0), .lit (.int .i64 1), .lit (.int .i64 2), .lit (.int .i64 0)], .agg [.lit (.int .i64 1), .lit (.int .i64 0), .lit (.int .i64 1), .lit (.int .i64 2), .lit (.int .i64 0)]] [], .slice [.agg [.lit (.int .i64 0), .lit (.int .i64 0), .lit (.int .i64 1), .lit (.int .i64 1), .lit (.int .i64 0)], .agg [.lit (.int .i64 1), .lit (.int .i64 0), .lit (.int .i64 1), .lit (.int .i64 1), .lit (.int .i64 0)], .agg [.lit (.int .i64 0), .lit (.int .i64 1), .lit (.int .i64 1), .lit (.int .i64 1), .lit (.int .i64 0)], .agg [.lit (.int .i64 1), .lit (.int .i64 1), .lit (.int .i64 1), .lit (.int .i64 1), .lit (.int .i64 0)]] []]
def laid_spindle_mb_sizes {H : Type} : DataW H := .agg [.lit (.int .i64 16), .lit (.int .i64 15), .lit (.int .i64 16), .lit (.int .i64 4), .lit (.int .i64 15)]

/-- 'spindlelaw38.BoundMatches': WHATEVER THE INPUT: true; the input reads as it did. -/
def boundMatchesSpec : ChangeSpec := { name := "boundMatches", fn := fun _ => fun
  | [d] => { results := [.lit (.bool true)], args := [d] }
  | _ => none }
def boundMatchesRow : OpenClaim := { program := "ytomfoaaaeidpnaadoor", sum := "070085d5cd92a76087f23819a5531e52ef9d0773c03be3e21479208036dabf48", func := "spindle/spindlelaw38.BoundMatches", spec := "boundMatches", unfollowed := true, recurses := true, named := ["spindle/kinds.quarters", "spindle/mb.sizes"], apart := false, laid := [("spindle/kinds.quarters", laid_spindle_kinds_quarters), ("spindle/mb.sizes", laid_spindle_mb_sizes)] }
def BoundMatchesSaid : Prop := boundMatchesRow.holds Tryd.pinned (OpenSpec.ofChange boundMatchesSpec)

/-- ITS FALSE NEIGHBOUR: 'it returns false'. Refute it at one input. -/
def boundMatchesWrong : ChangeSpec := { name := "boundMatches", fn := fun _ => fun
  | [d] => { results := [.lit (.bool false)], args := [d] }
  | _ => none }
def BoundMatchesWrongFalsely : Prop := boundMatchesRow.holds Tryd.pinned (OpenSpec.ofChange boundMatchesWrong)

/-- 'spindlelaw38.BoundGrows': WHATEVER THE INPUT: true; the input reads as it did. -/
def boundGrowsSpec : ChangeSpec := { name := "boundGrows", fn := fun _ => fun
  | [d1, d2, d3, d4] => { results := [.lit (.bool true)], args := [d1, d2, d3, d4] }
  | _ => none }
def boundGrowsRow : OpenClaim := { program := "ytomfoaaaeidpnaadoor", sum := "070085d5cd92a76087f23819a5531e52ef9d0773c03be3e21479208036dabf48", func := "spindle/spindlelaw38.BoundGrows", spec := "boundGrows", unfollowed := true, recurses := true, named := ["spindle/kinds.quarters", "spindle/mb.sizes"], apart := false, laid := [("spindle/kinds.quarters", laid_spindle_kinds_quarters), ("spindle/mb.sizes", laid_spindle_mb_sizes)] }
def BoundGrowsSaid : Prop := boundGrowsRow.holds Tryd.pinned (OpenSpec.ofChange boundGrowsSpec)

/-- ITS FALSE NEIGHBOUR: 'it returns false'. Refute it at one input. -/
def boundGrowsWrong : ChangeSpec := { name := "boundGrows", fn := fun _ => fun
  | [d1, d2, d3, d4] => { results := [.lit (.bool false)], args := [d1, d2, d3, d4] }
  | _ => none }
def BoundGrowsWrongFalsely : Prop := boundGrowsRow.holds Tryd.pinned (OpenSpec.ofChange boundGrowsWrong)

/-- 'spindlelaw38.BoundTrees': WHATEVER THE INPUT: true; the input reads as it did. -/
def boundTreesSpec : ChangeSpec := { name := "boundTrees", fn := fun _ => fun
  | [d] => { results := [.lit (.bool true)], args := [d] }
  | _ => none }
def boundTreesRow : OpenClaim := { program := "ytomfoaaaeidpnaadoor", sum := "070085d5cd92a76087f23819a5531e52ef9d0773c03be3e21479208036dabf48", func := "spindle/spindlelaw38.BoundTrees", spec := "boundTrees", unfollowed := true, recurses := true, named := ["spindle/kinds.quarters", "spindle/mb.sizes"], apart := false, laid := [("spindle/kinds.quarters", laid_spindle_kinds_quarters), ("spindle/mb.sizes", laid_spindle_mb_sizes)] }
def BoundTreesSaid : Prop := boundTreesRow.holds Tryd.pinned (OpenSpec.ofChange boundTreesSpec)

/-- ITS FALSE NEIGHBOUR: 'it returns false'. Refute it at one input. -/
def boundTreesWrong : ChangeSpec := { name := "boundTrees", fn := fun _ => fun
  | [d] => { results := [.lit (.bool false)], args := [d] }
  | _ => none }
def BoundTreesWrongFalsely : Prop := boundTreesRow.holds Tryd.pinned (OpenSpec.ofChange boundTreesWrong)

/-- 'spindlelaw38.BoundExamples': WHATEVER THE INPUT: true; the input reads as it did. -/
def boundExamplesSpec : ChangeSpec := { name := "boundExamples", fn := fun _ => fun
  | [] => { results := [.lit (.bool true)], args := [] }
  | _ => none }
def boundExamplesRow : OpenClaim := { program := "ytomfoaaaeidpnaadoor", sum := "070085d5cd92a76087f23819a5531e52ef9d0773c03be3e21479208036dabf48", func := "spindle/spindlelaw38.BoundExamples", spec := "boundExamples", unfollowed := true, recurses := true, named := ["spindle/kinds.quarters", "spindle/mb.sizes"], apart := false, laid := [("spindle/kinds.quarters", laid_spindle_kinds_quarters), ("spindle/mb.sizes", laid_spindle_mb_sizes)] }
def BoundExamplesSaid : Prop := boundExamplesRow.holds Tryd.pinned (OpenSpec.ofChange boundExamplesSpec)

/-- ITS FALSE NEIGHBOUR: 'it returns false'. Refute it at one input. -/
def boundExamplesWrong : ChangeSpec := { name := "boundExamples", fn := fun _ => fun
  | [] => { results := [.lit (.bool false)], args := [] }
  | _ => none }
def BoundExamplesWrongFalsely : Prop := boundExamplesRow.holds Tryd.pinned (OpenSpec.ofChange boundExamplesWrong)

/-- 'spindlelaw38.BoundSums': WHATEVER THE INPUT: true; the input reads as it did. -/
def boundSumsSpec : ChangeSpec := { name := "boundSums", fn := fun _ => fun
  | [d] => { results := [.lit (.bool true)], args := [d] }
  | _ => none }
def boundSumsRow : OpenClaim := { program := "ytomfoaaaeidpnaadoor", sum := "070085d5cd92a76087f23819a5531e52ef9d0773c03be3e21479208036dabf48", func := "spindle/spindlelaw38.BoundSums", spec := "boundSums", unfollowed := true, recurses := true, named := ["spindle/kinds.quarters", "spindle/mb.sizes"], apart := false, laid := [("spindle/kinds.quarters", laid_spindle_kinds_quarters), ("spindle/mb.sizes", laid_spindle_mb_sizes)] }
def BoundSumsSaid : Prop := boundSumsRow.holds Tryd.pinned (OpenSpec.ofChange boundSumsSpec)

/-- ITS FALSE NEIGHBOUR: 'it returns false'. Refute it at one input. -/
def boundSumsWrong : ChangeSpec := { name := "boundSums", fn := fun _ => fun
  | [d] => { results := [.lit (.bool false)], args := [d] }
  | _ => none }
def BoundSumsWrongFalsely : Prop := boundSumsRow.holds Tryd.pinned (OpenSpec.ofChange boundSumsWrong)

/-- 'spindlelaw40.ScriptMbs': WHATEVER THE INPUT: true; the input reads as it did. -/
def scriptMbsSpec : ChangeSpec := { name := "scriptMbs", fn := fun _ => fun
  | [d1, d2, d3] => { results := [.lit (.bool true)], args := [d1, d2, d3] }
  | _ => none }
def scriptMbsRow : OpenClaim := { program := "ytomfoaaaeidpnaadoor", sum := "070085d5cd92a76087f23819a5531e52ef9d0773c03be3e21479208036dabf48", func := "spindle/spindlelaw40.ScriptMbs", spec := "scriptMbs", named := ["spindle/mb.sizes"], apart := false, laid := [("spindle/mb.sizes", laid_spindle_mb_sizes)] }
def ScriptMbsSaid : Prop := scriptMbsRow.holds Tryd.pinned (OpenSpec.ofChange scriptMbsSpec)

/-- ITS FALSE NEIGHBOUR: 'it returns false'. Refute it at one input. -/
def scriptMbsWrong : ChangeSpec := { name := "scriptMbs", fn := fun _ => fun
  | [d1, d2, d3] => { results := [.lit (.bool false)], args := [d1, d2, d3] }
  | _ => none }
def ScriptMbsWrongFalsely : Prop := scriptMbsRow.holds Tryd.pinned (OpenSpec.ofChange scriptMbsWrong)

/-- 'spindlelaw40.ScriptUsed': WHATEVER THE INPUT: true; the input reads as it did. -/
def scriptUsedSpec : ChangeSpec := { name := "scriptUsed", fn := fun _ => fun
  | [d1, d2, d3, d4] => { results := [.lit (.bool true)], args := [d1, d2, d3, d4] }
  | _ => none }
def scriptUsedRow : OpenClaim := { program := "ytomfoaaaeidpnaadoor", sum := "070085d5cd92a76087f23819a5531e52ef9d0773c03be3e21479208036dabf48", func := "spindle/spindlelaw40.ScriptUsed", spec := "scriptUsed", named := ["spindle/mb.sizes"], apart := false, laid := [("spindle/mb.sizes", laid_spindle_mb_sizes)] }
def ScriptUsedSaid : Prop := scriptUsedRow.holds Tryd.pinned (OpenSpec.ofChange scriptUsedSpec)

/-- ITS FALSE NEIGHBOUR: 'it returns false'. Refute it at one input. -/
def scriptUsedWrong : ChangeSpec := { name := "scriptUsed", fn := fun _ => fun
  | [d1, d2, d3, d4] => { results := [.lit (.bool false)], args := [d1, d2, d3, d4] }
  | _ => none }
def ScriptUsedWrongFalsely : Prop := scriptUsedRow.holds Tryd.pinned (OpenSpec.ofChange scriptUsedWrong)

/-- 'spindlelaw40.ScriptSmall': WHATEVER THE INPUT: true; the input reads as it did. -/
def scriptSmallSpec : ChangeSpec := { name := "scriptSmall", fn := fun _ => fun
  | [d1, d2] => { results := [.lit (.bool true)], args := [d1, d2] }
  | _ => none }
def scriptSmallRow : OpenClaim := { program := "ytomfoaaaeidpnaadoor", sum := "070085d5cd92a76087f23819a5531e52ef9d0773c03be3e21479208036dabf48", func := "spindle/spindlelaw40.ScriptSmall", spec := "scriptSmall", named := ["spindle/mb.sizes"], apart := false, laid := [("spindle/mb.sizes", laid_spindle_mb_sizes)] }
def ScriptSmallSaid : Prop := scriptSmallRow.holds Tryd.pinned (OpenSpec.ofChange scriptSmallSpec)

/-- ITS FALSE NEIGHBOUR: 'it returns false'. Refute it at one input. -/
def scriptSmallWrong : ChangeSpec := { name := "scriptSmall", fn := fun _ => fun
  | [d1, d2] => { results := [.lit (.bool false)], args := [d1, d2] }
  | _ => none }
def ScriptSmallWrongFalsely : Prop := scriptSmallRow.holds Tryd.pinned (OpenSpec.ofChange scriptSmallWrong)

/-- 'spindlelaw40.ScriptKinds': WHATEVER THE INPUT: true; the input reads as it did. -/
def scriptKindsSpec : ChangeSpec := { name := "scriptKinds", fn := fun _ => fun
  | [d1, d2] => { results := [.lit (.bool true)], args := [d1, d2] }
  | _ => none }
def scriptKindsRow : OpenClaim := { program := "ytomfoaaaeidpnaadoor", sum := "070085d5cd92a76087f23819a5531e52ef9d0773c03be3e21479208036dabf48", func := "spindle/spindlelaw40.ScriptKinds", spec := "scriptKinds", named := ["spindle/mb.sizes"], apart := false, laid := [("spindle/mb.sizes", laid_spindle_mb_sizes)] }
def ScriptKindsSaid : Prop := scriptKindsRow.holds Tryd.pinned (OpenSpec.ofChange scriptKindsSpec)

/-- ITS FALSE NEIGHBOUR: 'it returns false'. Refute it at one input. -/
def scriptKindsWrong : ChangeSpec := { name := "scriptKinds", fn := fun _ => fun
  | [d1, d2] => { results := [.lit (.bool false)], args := [d1, d2] }
  | _ => none }
def ScriptKindsWrongFalsely : Prop := scriptKindsRow.holds Tryd.pinned (OpenSpec.ofChange scriptKindsWrong)

/-- 'spindlelaw40.ScriptMbValid': WHATEVER THE INPUT: true; the input reads as it did. -/
def scriptMbValidSpec : ChangeSpec := { name := "scriptMbValid", fn := fun _ => fun
  | [d1, d2, d3] => { results := [.lit (.bool true)], args := [d1, d2, d3] }
  | _ => none }
def scriptMbValidRow : OpenClaim := { program := "ytomfoaaaeidpnaadoor", sum := "070085d5cd92a76087f23819a5531e52ef9d0773c03be3e21479208036dabf48", func := "spindle/spindlelaw40.ScriptMbValid", spec := "scriptMbValid", unfollowed := true, recurses := true, named := ["spindle/mb.sizes", "spindle/kinds.quarters"], apart := false, laid := [("spindle/kinds.quarters", laid_spindle_kinds_quarters), ("spindle/mb.sizes", laid_spindle_mb_sizes)] }
def ScriptMbValidSaid : Prop := scriptMbValidRow.holds Tryd.pinned (OpenSpec.ofChange scriptMbValidSpec)

/-- ITS FALSE NEIGHBOUR: 'it returns false'. Refute it at one input. -/
def scriptMbValidWrong : ChangeSpec := { name := "scriptMbValid", fn := fun _ => fun
  | [d1, d2, d3] => { results := [.lit (.bool false)], args := [d1, d2, d3] }
  | _ => none }
def ScriptMbValidWrongFalsely : Prop := scriptMbValidRow.holds Tryd.pinned (OpenSpec.ofChange scriptMbValidWrong)

/-- 'spindlelaw40.ScriptReads': WHATEVER THE INPUT: true; the input reads as it did. -/
def scriptReadsSpec : ChangeSpec := { name := "scriptReads", fn := fun _ => fun
  | [d1, d2] => { results := [.lit (.bool true)], args := [d1, d2] }
  | _ => none }
def scriptReadsRow : OpenClaim := { program := "ytomfoaaaeidpnaadoor", sum := "070085d5cd92a76087f23819a5531e52ef9d0773c03be3e21479208036dabf48", func := "spindle/spindlelaw40.ScriptReads", spec := "scriptReads", unfollowed := true, recurses := true, named := ["spindle/mb.sizes"], apart := false, laid := [("spindle/mb.sizes", laid_spindle_mb_sizes)] }
def ScriptReadsSaid : Prop := scriptReadsRow.holds Tryd.pinned (OpenSpec.ofChange scriptReadsSpec)

/-- ITS FALSE NEIGHBOUR: 'it returns false'. Refute it at one input. -/
def scriptReadsWrong : ChangeSpec := { name := "scriptReads", fn := fun _ => fun
  | [d1, d2] => { results := [.lit (.bool false)], args := [d1, d2] }
  | _ => none }
def ScriptReadsWrongFalsely : Prop := scriptReadsRow.holds Tryd.pinned (OpenSpec.ofChange scriptReadsWrong)

/-- 'spindlelaw40.ScriptExamples': WHATEVER THE INPUT: true; the input reads as it did. -/
def scriptExamplesSpec : ChangeSpec := { name := "scriptExamples", fn := fun _ => fun
  | [] => { results := [.lit (.bool true)], args := [] }
  | _ => none }
def scriptExamplesRow : OpenClaim := { program := "ytomfoaaaeidpnaadoor", sum := "070085d5cd92a76087f23819a5531e52ef9d0773c03be3e21479208036dabf48", func := "spindle/spindlelaw40.ScriptExamples", spec := "scriptExamples", unfollowed := true, recurses := true, named := ["spindle/mb.sizes"], apart := false, laid := [("spindle/mb.sizes", laid_spindle_mb_sizes)] }
def ScriptExamplesSaid : Prop := scriptExamplesRow.holds Tryd.pinned (OpenSpec.ofChange scriptExamplesSpec)

/-- ITS FALSE NEIGHBOUR: 'it returns false'. Refute it at one input. -/
def scriptExamplesWrong : ChangeSpec := { name := "scriptExamples", fn := fun _ => fun
  | [] => { results := [.lit (.bool false)], args := [] }
  | _ => none }
def ScriptExamplesWrongFalsely : Prop := scriptExamplesRow.holds Tryd.pinned (OpenSpec.ofChange scriptExamplesWrong)

/-- 'spindlelaw40.ScriptMore': WHATEVER THE INPUT: true; the input reads as it did. -/
def scriptMoreSpec : ChangeSpec := { name := "scriptMore", fn := fun _ => fun
  | [d1, d2, d3, d4] => { results := [.lit (.bool true)], args := [d1, d2, d3, d4] }
  | _ => none }
def scriptMoreRow : OpenClaim := { program := "ytomfoaaaeidpnaadoor", sum := "070085d5cd92a76087f23819a5531e52ef9d0773c03be3e21479208036dabf48", func := "spindle/spindlelaw40.ScriptMore", spec := "scriptMore", unfollowed := true, recurses := true, named := ["spindle/mb.sizes"], apart := false, laid := [("spindle/mb.sizes", laid_spindle_mb_sizes)] }
def ScriptMoreSaid : Prop := scriptMoreRow.holds Tryd.pinned (OpenSpec.ofChange scriptMoreSpec)

/-- ITS FALSE NEIGHBOUR: 'it returns false'. Refute it at one input. -/
def scriptMoreWrong : ChangeSpec := { name := "scriptMore", fn := fun _ => fun
  | [d1, d2, d3, d4] => { results := [.lit (.bool false)], args := [d1, d2, d3, d4] }
  | _ => none }
def ScriptMoreWrongFalsely : Prop := scriptMoreRow.holds Tryd.pinned (OpenSpec.ofChange scriptMoreWrong)

/-- 'spindlelaw40.ScriptModes': WHATEVER THE INPUT: true; the input reads as it did. -/
def scriptModesSpec : ChangeSpec := { name := "scriptModes", fn := fun _ => fun
  | [d1, d2] => { results := [.lit (.bool true)], args := [d1, d2] }
  | _ => none }
def scriptModesRow : OpenClaim := { program := "ytomfoaaaeidpnaadoor", sum := "070085d5cd92a76087f23819a5531e52ef9d0773c03be3e21479208036dabf48", func := "spindle/spindlelaw40.ScriptModes", spec := "scriptModes", unfollowed := true, recurses := true, named := ["spindle/mb.sizes"], apart := false, laid := [("spindle/mb.sizes", laid_spindle_mb_sizes)] }
def ScriptModesSaid : Prop := scriptModesRow.holds Tryd.pinned (OpenSpec.ofChange scriptModesSpec)

/-- ITS FALSE NEIGHBOUR: 'it returns false'. Refute it at one input. -/
def scriptModesWrong : ChangeSpec := { name := "scriptModes", fn := fun _ => fun
  | [d1, d2] => { results := [.lit (.bool false)], args := [d1, d2] }
  | _ => none }
def ScriptModesWrongFalsely : Prop := scriptModesRow.holds Tryd.pinned (OpenSpec.ofChange scriptModesWrong)

/- THE SECOND FORM. 'bulk': how many values and letters a reading holds, each counted each time it is reached (what is shared counts as often as it is met; a slice's spare places count too). A statement '..UptoSaid' is the law's where the arguments, and the package variables that the reading takes, are together of bulk at most 1048576: NARROWER than '..Said'. Prove '..Said' where nothing that the law and all that it calls make is longer than what came in: it says more and counts as full. Else prove '..UptoSaid'. A law counts once. -/
mutual
def uptoBulk {H : Type} : DataW H → Nat
  | .lit (.string bytes) => bytes.length + 1
  | .lit _ => 1
  | .nil => 1
  | .ptr d => uptoBulk d + 1
  | .slice elems spare => uptoBulkAll elems + uptoBulkAll spare + 1
  | .agg parts => uptoBulkAll parts + 1
  | .iface _ d => uptoBulk d + 1
  | .map entries => uptoBulkEntries entries + 1
  | .held _ => 1
def uptoBulkAll {H : Type} : List (DataW H) → Nat
  | [] => 0
  | d :: r => uptoBulk d + uptoBulkAll r
def uptoBulkEntries {H : Type} : List (Lit × DataW H) → Nat
  | [] => 0
  | x :: r => uptoBulkEntry x + uptoBulkEntries r
def uptoBulkEntry {H : Type} : Lit × DataW H → Nat
  | (.string bytes, d) => bytes.length + uptoBulk d + 1
  | (_, d) => uptoBulk d + 1
 end
def uptoSmall : (H : Type) → List (DataW H) → Bool := fun _ ds => decide (uptoBulkAll ds ≤ 1048576)
def OpenSpec.upto (s : _root_.Go.ChangeSpec) : _root_.Go.OpenSpec := { _root_.Go.OpenSpec.ofChange s with cond := some uptoSmall }

/-- 'spindlelaw38.BoundMatches', WHERE WHAT IT READS IS OF BULK AT MOST 1048576: true; the input reads as it did. -/
def boundMatchesUptoRow : OpenClaim := { program := "ytomfoaaaeidpnaadoor", sum := "070085d5cd92a76087f23819a5531e52ef9d0773c03be3e21479208036dabf48", func := "spindle/spindlelaw38.BoundMatches", spec := "boundMatches", unfollowed := true, recurses := true, named := ["spindle/kinds.quarters", "spindle/mb.sizes"], apart := false, laid := [("spindle/kinds.quarters", laid_spindle_kinds_quarters), ("spindle/mb.sizes", laid_spindle_mb_sizes)], narrowed := true }
def BoundMatchesUptoSaid : Prop := boundMatchesUptoRow.holds Tryd.pinned (OpenSpec.upto boundMatchesSpec)

/-- 'spindlelaw38.BoundGrows', WHERE WHAT IT READS IS OF BULK AT MOST 1048576: true; the input reads as it did. -/
def boundGrowsUptoRow : OpenClaim := { program := "ytomfoaaaeidpnaadoor", sum := "070085d5cd92a76087f23819a5531e52ef9d0773c03be3e21479208036dabf48", func := "spindle/spindlelaw38.BoundGrows", spec := "boundGrows", unfollowed := true, recurses := true, named := ["spindle/kinds.quarters", "spindle/mb.sizes"], apart := false, laid := [("spindle/kinds.quarters", laid_spindle_kinds_quarters), ("spindle/mb.sizes", laid_spindle_mb_sizes)], narrowed := true }
def BoundGrowsUptoSaid : Prop := boundGrowsUptoRow.holds Tryd.pinned (OpenSpec.upto boundGrowsSpec)

/-- 'spindlelaw38.BoundTrees', WHERE WHAT IT READS IS OF BULK AT MOST 1048576: true; the input reads as it did. -/
def boundTreesUptoRow : OpenClaim := { program := "ytomfoaaaeidpnaadoor", sum := "070085d5cd92a76087f23819a5531e52ef9d0773c03be3e21479208036dabf48", func := "spindle/spindlelaw38.BoundTrees", spec := "boundTrees", unfollowed := true, recurses := true, named := ["spindle/kinds.quarters", "spindle/mb.sizes"], apart := false, laid := [("spindle/kinds.quarters", laid_spindle_kinds_quarters), ("spindle/mb.sizes", laid_spindle_mb_sizes)], narrowed := true }
def BoundTreesUptoSaid : Prop := boundTreesUptoRow.holds Tryd.pinned (OpenSpec.upto boundTreesSpec)

/-- 'spindlelaw38.BoundExamples', WHERE WHAT IT READS IS OF BULK AT MOST 1048576: true; the input reads as it did. -/
def boundExamplesUptoRow : OpenClaim := { program := "ytomfoaaaeidpnaadoor", sum := "070085d5cd92a76087f23819a5531e52ef9d0773c03be3e21479208036dabf48", func := "spindle/spindlelaw38.BoundExamples", spec := "boundExamples", unfollowed := true, recurses := true, named := ["spindle/kinds.quarters", "spindle/mb.sizes"], apart := false, laid := [("spindle/kinds.quarters", laid_spindle_kinds_quarters), ("spindle/mb.sizes", laid_spindle_mb_sizes)], narrowed := true }
def BoundExamplesUptoSaid : Prop := boundExamplesUptoRow.holds Tryd.pinned (OpenSpec.upto boundExamplesSpec)

/-- 'spindlelaw38.BoundSums', WHERE WHAT IT READS IS OF BULK AT MOST 1048576: true; the input reads as it did. -/
def boundSumsUptoRow : OpenClaim := { program := "ytomfoaaaeidpnaadoor", sum := "070085d5cd92a76087f23819a5531e52ef9d0773c03be3e21479208036dabf48", func := "spindle/spindlelaw38.BoundSums", spec := "boundSums", unfollowed := true, recurses := true, named := ["spindle/kinds.quarters", "spindle/mb.sizes"], apart := false, laid := [("spindle/kinds.quarters", laid_spindle_kinds_quarters), ("spindle/mb.sizes", laid_spindle_mb_sizes)], narrowed := true }
def BoundSumsUptoSaid : Prop := boundSumsUptoRow.holds Tryd.pinned (OpenSpec.upto boundSumsSpec)

/-- 'spindlelaw40.ScriptMbs', WHERE WHAT IT READS IS OF BULK AT MOST 1048576: true; the input reads as it did. -/
def scriptMbsUptoRow : OpenClaim := { program := "ytomfoaaaeidpnaadoor", sum := "070085d5cd92a76087f23819a5531e52ef9d0773c03be3e21479208036dabf48", func := "spindle/spindlelaw40.ScriptMbs", spec := "scriptMbs", named := ["spindle/mb.sizes"], apart := false, laid := [("spindle/mb.sizes", laid_spindle_mb_sizes)], narrowed := true }
def ScriptMbsUptoSaid : Prop := scriptMbsUptoRow.holds Tryd.pinned (OpenSpec.upto scriptMbsSpec)

/-- 'spindlelaw40.ScriptUsed', WHERE WHAT IT READS IS OF BULK AT MOST 1048576: true; the input reads as it did. -/
def scriptUsedUptoRow : OpenClaim := { program := "ytomfoaaaeidpnaadoor", sum := "070085d5cd92a76087f23819a5531e52ef9d0773c03be3e21479208036dabf48", func := "spindle/spindlelaw40.ScriptUsed", spec := "scriptUsed", named := ["spindle/mb.sizes"], apart := false, laid := [("spindle/mb.sizes", laid_spindle_mb_sizes)], narrowed := true }
def ScriptUsedUptoSaid : Prop := scriptUsedUptoRow.holds Tryd.pinned (OpenSpec.upto scriptUsedSpec)

/-- 'spindlelaw40.ScriptSmall', WHERE WHAT IT READS IS OF BULK AT MOST 1048576: true; the input reads as it did. -/
def scriptSmallUptoRow : OpenClaim := { program := "ytomfoaaaeidpnaadoor", sum := "070085d5cd92a76087f23819a5531e52ef9d0773c03be3e21479208036dabf48", func := "spindle/spindlelaw40.ScriptSmall", spec := "scriptSmall", named := ["spindle/mb.sizes"], apart := false, laid := [("spindle/mb.sizes", laid_spindle_mb_sizes)], narrowed := true }
def ScriptSmallUptoSaid : Prop := scriptSmallUptoRow.holds Tryd.pinned (OpenSpec.upto scriptSmallSpec)

/-- 'spindlelaw40.ScriptKinds', WHERE WHAT IT READS IS OF BULK AT MOST 1048576: true; the input reads as it did. -/
def scriptKindsUptoRow : OpenClaim := { program := "ytomfoaaaeidpnaadoor", sum := "070085d5cd92a76087f23819a5531e52ef9d0773c03be3e21479208036dabf48", func := "spindle/spindlelaw40.ScriptKinds", spec := "scriptKinds", named := ["spindle/mb.sizes"], apart := false, laid := [("spindle/mb.sizes", laid_spindle_mb_sizes)], narrowed := true }
def ScriptKindsUptoSaid : Prop := scriptKindsUptoRow.holds Tryd.pinned (OpenSpec.upto scriptKindsSpec)

/-- 'spindlelaw40.ScriptMbValid', WHERE WHAT IT READS IS OF BULK AT MOST 1048576: true; the input reads as it did. -/
def scriptMbValidUptoRow : OpenClaim := { program := "ytomfoaaaeidpnaadoor", sum := "070085d5cd92a76087f23819a5531e52ef9d0773c03be3e21479208036dabf48", func := "spindle/spindlelaw40.ScriptMbValid", spec := "scriptMbValid", unfollowed := true, recurses := true, named := ["spindle/mb.sizes", "spindle/kinds.quarters"], apart := false, laid := [("spindle/kinds.quarters", laid_spindle_kinds_quarters), ("spindle/mb.sizes", laid_spindle_mb_sizes)], narrowed := true }
def ScriptMbValidUptoSaid : Prop := scriptMbValidUptoRow.holds Tryd.pinned (OpenSpec.upto scriptMbValidSpec)

/-- 'spindlelaw40.ScriptReads', WHERE WHAT IT READS IS OF BULK AT MOST 1048576: true; the input reads as it did. -/
def scriptReadsUptoRow : OpenClaim := { program := "ytomfoaaaeidpnaadoor", sum := "070085d5cd92a76087f23819a5531e52ef9d0773c03be3e21479208036dabf48", func := "spindle/spindlelaw40.ScriptReads", spec := "scriptReads", unfollowed := true, recurses := true, named := ["spindle/mb.sizes"], apart := false, laid := [("spindle/mb.sizes", laid_spindle_mb_sizes)], narrowed := true }
def ScriptReadsUptoSaid : Prop := scriptReadsUptoRow.holds Tryd.pinned (OpenSpec.upto scriptReadsSpec)

/-- 'spindlelaw40.ScriptExamples', WHERE WHAT IT READS IS OF BULK AT MOST 1048576: true; the input reads as it did. -/
def scriptExamplesUptoRow : OpenClaim := { program := "ytomfoaaaeidpnaadoor", sum := "070085d5cd92a76087f23819a5531e52ef9d0773c03be3e21479208036dabf48", func := "spindle/spindlelaw40.ScriptExamples", spec := "scriptExamples", unfollowed := true, recurses := true, named := ["spindle/mb.sizes"], apart := false, laid := [("spindle/mb.sizes", laid_spindle_mb_sizes)], narrowed := true }
def ScriptExamplesUptoSaid : Prop := scriptExamplesUptoRow.holds Tryd.pinned (OpenSpec.upto scriptExamplesSpec)

/-- 'spindlelaw40.ScriptMore', WHERE WHAT IT READS IS OF BULK AT MOST 1048576: true; the input reads as it did. -/
def scriptMoreUptoRow : OpenClaim := { program := "ytomfoaaaeidpnaadoor", sum := "070085d5cd92a76087f23819a5531e52ef9d0773c03be3e21479208036dabf48", func := "spindle/spindlelaw40.ScriptMore", spec := "scriptMore", unfollowed := true, recurses := true, named := ["spindle/mb.sizes"], apart := false, laid := [("spindle/mb.sizes", laid_spindle_mb_sizes)], narrowed := true }
def ScriptMoreUptoSaid : Prop := scriptMoreUptoRow.holds Tryd.pinned (OpenSpec.upto scriptMoreSpec)

/-- 'spindlelaw40.ScriptModes', WHERE WHAT IT READS IS OF BULK AT MOST 1048576: true; the input reads as it did. -/
def scriptModesUptoRow : OpenClaim := { program := "ytomfoaaaeidpnaadoor", sum := "070085d5cd92a76087f23819a5531e52ef9d0773c03be3e21479208036dabf48", func := "spindle/spindlelaw40.ScriptModes", spec := "scriptModes", unfollowed := true, recurses := true, named := ["spindle/mb.sizes"], apart := false, laid := [("spindle/mb.sizes", laid_spindle_mb_sizes)], narrowed := true }
def ScriptModesUptoSaid : Prop := scriptModesUptoRow.holds Tryd.pinned (OpenSpec.upto scriptModesSpec)

end Rows
end Go.Proofs.YtomfoaaaeidpnaaDoor
