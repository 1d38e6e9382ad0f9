/-
  NARROWER THAN 'FOR EVERY INPUT', by the rows' own cells (each row's printed sentence says how): MbChecks: laid · MbSpoils: laid · MbWider: laid · MbExamples: laid · MbLists: laid · MbEquals: laid · ElemsMatches: laid · ElemsCopies: laid · ElemsExamples: laid · ElemsOnce: laid · ElemsRelated: laid · ElemsEach: laid.
  DERIVED. THE GIVEN ROWS OF THIS SEAT. 12 by the template 'for every input the law returns true; each argument reads behind the call as it read before'; 0 by the template 'total and deterministic' (their statements: YteeeabnfgpolgaaDoorTotals.lean).
  GIVEN WITH THE SEED: the statements are not yours to turn. If you find one false, say at which input.
  Laid BY PROGRAM, IN A SANDBOX (cutbox-rows.mjs): the forced cells as the released guide's own fill.sh prints them over the translation a272a7b536ab1154… (all of the seat's roots in one cut). By AI agents, Wed Nov 11 2026. No macro, syntax, notation, axiom, sorry.
-/
import Derived.Test.YteeeabnfgpolgaaDoorChecked
import GoSem.Claim
import GoSem.ClaimJoined
import GoSem.ClaimMapViews
import Derived.JoinedTies
import Derived.KernelRfl
namespace Go.Proofs.YteeeabnfgpolgaaDoor
/- THE CELL 'sum', in the pinned program and in every row, IS THE sha256 OF THE DUMP (.gsa) THAT YteeeabnfgpolgaaDoorProg.lean LOADS. Nothing in Lean hashes anything: it is a label: what it is worth is what the hold of that sum in a sandbox is worth. -/
noncomputable def Tryd.pinned : Pinned := { name := "yteeeabnfgpolgaadoor", sum := "a272a7b536ab1154b9f40b2b71d9dbbea8aec344ecf74e14baed3e75c1733c0d", checked := Tryd.checked }
namespace Rows
def none {H : Type} : Left H := { results := [], args := [] }

/- WHAT THE LISTED PACKAGE-LEVEL VARIABLES READ AS WHEN THE CALL BEGINS. Each datum BY PROGRAM (the guide's laid-datum.mjs) off the statement by which the dump's own 'gosem.cut.vars' lays the variable. In a bare row this is a premise. The card (YteeeabnfgpolgaaDoorCards.lean) ties it to the program's text. -/
def laid_spindle_kinds_quarters {H : Type} : DataW H := .agg [.slice [.agg [.lit (.int .i64 0), .lit (.int .i64 0), .lit (.int .i64 2), .lit (.int .i64 2), .lit (.int .i64 0)]] [], .slice [.agg [.lit (.int .i64 0), .lit (.int .i64 0), .lit (.int .i64 2), .lit (.int .i64 1), .lit (.int .i64 0)], .agg [.lit (.int .i64 0), .lit (.int .i64 1), .lit (.int .i64 2), .lit (.int .i64 1), .lit (.int .i64 0)]] [], .slice [.agg [.lit (.int .i64 0), .lit (.int .i64 0), .lit (.int .i64 1), .lit (.int .i64 2), .lit (.int .i64 0)], .agg [.lit (.int .i64 1), .lit (.int .i64 0), .lit (.int .i64 1), .lit (.int .i64 2), .lit (.int .i64 0)]] [], .slice [.agg [.lit (.int .i64 0), .lit (.int .i64 0), .lit (.int .i64 1), .lit (.int .i64 1), .lit (.int .i64 0)], .agg [.lit (.int .i64 1), .lit (.int .i64 0), .lit (.int .i64 1), .lit (.int .i64 1), .lit (.int .i64 0)], .agg [.lit (.int .i64 0), .lit (.int .i64 1), .lit (.int .i64 1), .lit (.int .i64 1), .lit (.int .i64 0)], .agg [.lit (.int .i64 1), .lit (.int .i64 1), .lit (.int .i64 1), .lit (.int .i64 1), .lit (.int .i64 0)]] []]
def laid_spindle_mb_sizes {H : Type} : DataW H := .agg [.lit (.int .i64 16), .lit (.int .i64 15), .lit (.int .i64 16), .lit (.int .i64 4), .lit (.int .i64 15)]
def laid_spindle_elems_deep {H : Type} : DataW H := .iface "func table" (.agg [.iface "func" (.lit (.string [115, 112, 105, 110, 100, 108, 101, 47, 101, 108, 101, 109, 115, 46, 100, 101, 101, 112, 36, 49])), .iface "func" (.lit (.string [115, 112, 105, 110, 100, 108, 101, 47, 101, 108, 101, 109, 115, 46, 100, 101, 101, 112, 36, 50]))])

/-- 'spindlelaw13.MbChecks': WHATEVER THE INPUT: true; the input reads as it did. -/
def mbChecksSpec : ChangeSpec := { name := "mbChecks", fn := fun _ => fun
  | [d1, d2] => { results := [.lit (.bool true)], args := [d1, d2] }
  | _ => none }
def mbChecksRow : OpenClaim := { program := "yteeeabnfgpolgaadoor", sum := "a272a7b536ab1154b9f40b2b71d9dbbea8aec344ecf74e14baed3e75c1733c0d", func := "spindle/spindlelaw13.MbChecks", spec := "mbChecks", unfollowed := true, recurses := true, named := ["spindle/kinds.quarters", "spindle/mb.sizes"], apart := false, laid := [("spindle/kinds.quarters", laid_spindle_kinds_quarters), ("spindle/mb.sizes", laid_spindle_mb_sizes)] }
def MbChecksSaid : Prop := mbChecksRow.holds Tryd.pinned (OpenSpec.ofChange mbChecksSpec)

/-- ITS FALSE NEIGHBOUR: 'it returns false'. Refute it at one input. -/
def mbChecksWrong : ChangeSpec := { name := "mbChecks", fn := fun _ => fun
  | [d1, d2] => { results := [.lit (.bool false)], args := [d1, d2] }
  | _ => none }
def MbChecksWrongFalsely : Prop := mbChecksRow.holds Tryd.pinned (OpenSpec.ofChange mbChecksWrong)

/-- 'spindlelaw13.MbSpoils': WHATEVER THE INPUT: true; the input reads as it did. -/
def mbSpoilsSpec : ChangeSpec := { name := "mbSpoils", fn := fun _ => fun
  | [d1, d2, d3] => { results := [.lit (.bool true)], args := [d1, d2, d3] }
  | _ => none }
def mbSpoilsRow : OpenClaim := { program := "yteeeabnfgpolgaadoor", sum := "a272a7b536ab1154b9f40b2b71d9dbbea8aec344ecf74e14baed3e75c1733c0d", func := "spindle/spindlelaw13.MbSpoils", spec := "mbSpoils", unfollowed := true, recurses := true, named := ["spindle/kinds.quarters", "spindle/mb.sizes"], apart := false, laid := [("spindle/kinds.quarters", laid_spindle_kinds_quarters), ("spindle/mb.sizes", laid_spindle_mb_sizes)] }
def MbSpoilsSaid : Prop := mbSpoilsRow.holds Tryd.pinned (OpenSpec.ofChange mbSpoilsSpec)

/-- ITS FALSE NEIGHBOUR: 'it returns false'. Refute it at one input. -/
def mbSpoilsWrong : ChangeSpec := { name := "mbSpoils", fn := fun _ => fun
  | [d1, d2, d3] => { results := [.lit (.bool false)], args := [d1, d2, d3] }
  | _ => none }
def MbSpoilsWrongFalsely : Prop := mbSpoilsRow.holds Tryd.pinned (OpenSpec.ofChange mbSpoilsWrong)

/-- 'spindlelaw13.MbWider': WHATEVER THE INPUT: true; the input reads as it did. -/
def mbWiderSpec : ChangeSpec := { name := "mbWider", fn := fun _ => fun
  | [d1, d2, d3] => { results := [.lit (.bool true)], args := [d1, d2, d3] }
  | _ => none }
def mbWiderRow : OpenClaim := { program := "yteeeabnfgpolgaadoor", sum := "a272a7b536ab1154b9f40b2b71d9dbbea8aec344ecf74e14baed3e75c1733c0d", func := "spindle/spindlelaw13.MbWider", spec := "mbWider", unfollowed := true, recurses := true, named := ["spindle/kinds.quarters", "spindle/mb.sizes"], apart := false, laid := [("spindle/kinds.quarters", laid_spindle_kinds_quarters), ("spindle/mb.sizes", laid_spindle_mb_sizes)] }
def MbWiderSaid : Prop := mbWiderRow.holds Tryd.pinned (OpenSpec.ofChange mbWiderSpec)

/-- ITS FALSE NEIGHBOUR: 'it returns false'. Refute it at one input. -/
def mbWiderWrong : ChangeSpec := { name := "mbWider", fn := fun _ => fun
  | [d1, d2, d3] => { results := [.lit (.bool false)], args := [d1, d2, d3] }
  | _ => none }
def MbWiderWrongFalsely : Prop := mbWiderRow.holds Tryd.pinned (OpenSpec.ofChange mbWiderWrong)

/-- 'spindlelaw13.MbExamples': WHATEVER THE INPUT: true; the input reads as it did. -/
def mbExamplesSpec : ChangeSpec := { name := "mbExamples", fn := fun _ => fun
  | [] => { results := [.lit (.bool true)], args := [] }
  | _ => none }
def mbExamplesRow : OpenClaim := { program := "yteeeabnfgpolgaadoor", sum := "a272a7b536ab1154b9f40b2b71d9dbbea8aec344ecf74e14baed3e75c1733c0d", func := "spindle/spindlelaw13.MbExamples", spec := "mbExamples", unfollowed := true, recurses := true, named := ["spindle/mb.sizes", "spindle/kinds.quarters"], apart := false, laid := [("spindle/kinds.quarters", laid_spindle_kinds_quarters), ("spindle/mb.sizes", laid_spindle_mb_sizes)] }
def MbExamplesSaid : Prop := mbExamplesRow.holds Tryd.pinned (OpenSpec.ofChange mbExamplesSpec)

/-- ITS FALSE NEIGHBOUR: 'it returns false'. Refute it at one input. -/
def mbExamplesWrong : ChangeSpec := { name := "mbExamples", fn := fun _ => fun
  | [] => { results := [.lit (.bool false)], args := [] }
  | _ => none }
def MbExamplesWrongFalsely : Prop := mbExamplesRow.holds Tryd.pinned (OpenSpec.ofChange mbExamplesWrong)

/-- 'spindlelaw13.MbLists': WHATEVER THE INPUT: true; the input reads as it did. -/
def mbListsSpec : ChangeSpec := { name := "mbLists", fn := fun _ => fun
  | [d1, d2, d3] => { results := [.lit (.bool true)], args := [d1, d2, d3] }
  | _ => none }
def mbListsRow : OpenClaim := { program := "yteeeabnfgpolgaadoor", sum := "a272a7b536ab1154b9f40b2b71d9dbbea8aec344ecf74e14baed3e75c1733c0d", func := "spindle/spindlelaw13.MbLists", spec := "mbLists", unfollowed := true, recurses := true, named := ["spindle/mb.sizes", "spindle/kinds.quarters"], apart := false, laid := [("spindle/kinds.quarters", laid_spindle_kinds_quarters), ("spindle/mb.sizes", laid_spindle_mb_sizes)] }
def MbListsSaid : Prop := mbListsRow.holds Tryd.pinned (OpenSpec.ofChange mbListsSpec)

/-- ITS FALSE NEIGHBOUR: 'it returns false'. Refute it at one input. -/
def mbListsWrong : ChangeSpec := { name := "mbLists", fn := fun _ => fun
  | [d1, d2, d3] => { results := [.lit (.bool false)], args := [d1, d2, d3] }
  | _ => none }
def MbListsWrongFalsely : Prop := mbListsRow.holds Tryd.pinned (OpenSpec.ofChange mbListsWrong)

/-- 'spindlelaw13.MbEquals': WHATEVER THE INPUT: true; the input reads as it did. -/
def mbEqualsSpec : ChangeSpec := { name := "mbEquals", fn := fun _ => fun
  | [d1, d2] => { results := [.lit (.bool true)], args := [d1, d2] }
  | _ => none }
def mbEqualsRow : OpenClaim := { program := "yteeeabnfgpolgaadoor", sum := "a272a7b536ab1154b9f40b2b71d9dbbea8aec344ecf74e14baed3e75c1733c0d", func := "spindle/spindlelaw13.MbEquals", spec := "mbEquals", unfollowed := true, recurses := true, named := ["spindle/mb.sizes", "spindle/kinds.quarters"], apart := false, laid := [("spindle/kinds.quarters", laid_spindle_kinds_quarters), ("spindle/mb.sizes", laid_spindle_mb_sizes)] }
def MbEqualsSaid : Prop := mbEqualsRow.holds Tryd.pinned (OpenSpec.ofChange mbEqualsSpec)

/-- ITS FALSE NEIGHBOUR: 'it returns false'. Refute it at one input. -/
def mbEqualsWrong : ChangeSpec := { name := "mbEquals", fn := fun _ => fun
  | [d1, d2] => { results := [.lit (.bool false)], args := [d1, d2] }
  | _ => none }
def MbEqualsWrongFalsely : Prop := mbEqualsRow.holds Tryd.pinned (OpenSpec.ofChange mbEqualsWrong)

/-- 'spindlelaw33.ElemsMatches': WHATEVER THE INPUT: true; the input reads as it did. -/
def elemsMatchesSpec : ChangeSpec := { name := "elemsMatches", fn := fun _ => fun
  | [d1, d2] => { results := [.lit (.bool true)], args := [d1, d2] }
  | _ => none }
def elemsMatchesRow : OpenClaim := { program := "yteeeabnfgpolgaadoor", sum := "a272a7b536ab1154b9f40b2b71d9dbbea8aec344ecf74e14baed3e75c1733c0d", func := "spindle/spindlelaw33.ElemsMatches", spec := "elemsMatches", unfollowed := true, recurses := true, named := ["spindle/elems.deep"], apart := false, laid := [("spindle/elems.deep", laid_spindle_elems_deep)] }
def ElemsMatchesSaid : Prop := elemsMatchesRow.holds Tryd.pinned (OpenSpec.ofChange elemsMatchesSpec)

/-- ITS FALSE NEIGHBOUR: 'it returns false'. Refute it at one input. -/
def elemsMatchesWrong : ChangeSpec := { name := "elemsMatches", fn := fun _ => fun
  | [d1, d2] => { results := [.lit (.bool false)], args := [d1, d2] }
  | _ => none }
def ElemsMatchesWrongFalsely : Prop := elemsMatchesRow.holds Tryd.pinned (OpenSpec.ofChange elemsMatchesWrong)

/-- 'spindlelaw33.ElemsCopies': WHATEVER THE INPUT: true; the input reads as it did. -/
def elemsCopiesSpec : ChangeSpec := { name := "elemsCopies", fn := fun _ => fun
  | [d] => { results := [.lit (.bool true)], args := [d] }
  | _ => none }
def elemsCopiesRow : OpenClaim := { program := "yteeeabnfgpolgaadoor", sum := "a272a7b536ab1154b9f40b2b71d9dbbea8aec344ecf74e14baed3e75c1733c0d", func := "spindle/spindlelaw33.ElemsCopies", spec := "elemsCopies", unfollowed := true, recurses := true, named := ["spindle/elems.deep"], apart := false, laid := [("spindle/elems.deep", laid_spindle_elems_deep)] }
def ElemsCopiesSaid : Prop := elemsCopiesRow.holds Tryd.pinned (OpenSpec.ofChange elemsCopiesSpec)

/-- ITS FALSE NEIGHBOUR: 'it returns false'. Refute it at one input. -/
def elemsCopiesWrong : ChangeSpec := { name := "elemsCopies", fn := fun _ => fun
  | [d] => { results := [.lit (.bool false)], args := [d] }
  | _ => none }
def ElemsCopiesWrongFalsely : Prop := elemsCopiesRow.holds Tryd.pinned (OpenSpec.ofChange elemsCopiesWrong)

/-- 'spindlelaw33.ElemsExamples': WHATEVER THE INPUT: true; the input reads as it did. -/
def elemsExamplesSpec : ChangeSpec := { name := "elemsExamples", fn := fun _ => fun
  | [] => { results := [.lit (.bool true)], args := [] }
  | _ => none }
def elemsExamplesRow : OpenClaim := { program := "yteeeabnfgpolgaadoor", sum := "a272a7b536ab1154b9f40b2b71d9dbbea8aec344ecf74e14baed3e75c1733c0d", func := "spindle/spindlelaw33.ElemsExamples", spec := "elemsExamples", unfollowed := true, recurses := true, named := ["spindle/elems.deep"], apart := false, laid := [("spindle/elems.deep", laid_spindle_elems_deep)] }
def ElemsExamplesSaid : Prop := elemsExamplesRow.holds Tryd.pinned (OpenSpec.ofChange elemsExamplesSpec)

/-- ITS FALSE NEIGHBOUR: 'it returns false'. Refute it at one input. -/
def elemsExamplesWrong : ChangeSpec := { name := "elemsExamples", fn := fun _ => fun
  | [] => { results := [.lit (.bool false)], args := [] }
  | _ => none }
def ElemsExamplesWrongFalsely : Prop := elemsExamplesRow.holds Tryd.pinned (OpenSpec.ofChange elemsExamplesWrong)

/-- 'spindlelaw33.ElemsOnce': WHATEVER THE INPUT: true; the input reads as it did. -/
def elemsOnceSpec : ChangeSpec := { name := "elemsOnce", fn := fun _ => fun
  | [d] => { results := [.lit (.bool true)], args := [d] }
  | _ => none }
def elemsOnceRow : OpenClaim := { program := "yteeeabnfgpolgaadoor", sum := "a272a7b536ab1154b9f40b2b71d9dbbea8aec344ecf74e14baed3e75c1733c0d", func := "spindle/spindlelaw33.ElemsOnce", spec := "elemsOnce", unfollowed := true, recurses := true, named := ["spindle/elems.deep"], apart := false, laid := [("spindle/elems.deep", laid_spindle_elems_deep)] }
def ElemsOnceSaid : Prop := elemsOnceRow.holds Tryd.pinned (OpenSpec.ofChange elemsOnceSpec)

/-- ITS FALSE NEIGHBOUR: 'it returns false'. Refute it at one input. -/
def elemsOnceWrong : ChangeSpec := { name := "elemsOnce", fn := fun _ => fun
  | [d] => { results := [.lit (.bool false)], args := [d] }
  | _ => none }
def ElemsOnceWrongFalsely : Prop := elemsOnceRow.holds Tryd.pinned (OpenSpec.ofChange elemsOnceWrong)

/-- 'spindlelaw33.ElemsRelated': WHATEVER THE INPUT: true; the input reads as it did. -/
def elemsRelatedSpec : ChangeSpec := { name := "elemsRelated", fn := fun _ => fun
  | [d1, d2, d3] => { results := [.lit (.bool true)], args := [d1, d2, d3] }
  | _ => none }
def elemsRelatedRow : OpenClaim := { program := "yteeeabnfgpolgaadoor", sum := "a272a7b536ab1154b9f40b2b71d9dbbea8aec344ecf74e14baed3e75c1733c0d", func := "spindle/spindlelaw33.ElemsRelated", spec := "elemsRelated", unfollowed := true, recurses := true, named := ["spindle/elems.deep"], apart := false, laid := [("spindle/elems.deep", laid_spindle_elems_deep)] }
def ElemsRelatedSaid : Prop := elemsRelatedRow.holds Tryd.pinned (OpenSpec.ofChange elemsRelatedSpec)

/-- ITS FALSE NEIGHBOUR: 'it returns false'. Refute it at one input. -/
def elemsRelatedWrong : ChangeSpec := { name := "elemsRelated", fn := fun _ => fun
  | [d1, d2, d3] => { results := [.lit (.bool false)], args := [d1, d2, d3] }
  | _ => none }
def ElemsRelatedWrongFalsely : Prop := elemsRelatedRow.holds Tryd.pinned (OpenSpec.ofChange elemsRelatedWrong)

/-- 'spindlelaw33.ElemsEach': WHATEVER THE INPUT: true; the input reads as it did. -/
def elemsEachSpec : ChangeSpec := { name := "elemsEach", fn := fun _ => fun
  | [d1, d2, d3] => { results := [.lit (.bool true)], args := [d1, d2, d3] }
  | _ => none }
def elemsEachRow : OpenClaim := { program := "yteeeabnfgpolgaadoor", sum := "a272a7b536ab1154b9f40b2b71d9dbbea8aec344ecf74e14baed3e75c1733c0d", func := "spindle/spindlelaw33.ElemsEach", spec := "elemsEach", unfollowed := true, recurses := true, named := ["spindle/elems.deep"], apart := false, laid := [("spindle/elems.deep", laid_spindle_elems_deep)] }
def ElemsEachSaid : Prop := elemsEachRow.holds Tryd.pinned (OpenSpec.ofChange elemsEachSpec)

/-- ITS FALSE NEIGHBOUR: 'it returns false'. Refute it at one input. -/
def elemsEachWrong : ChangeSpec := { name := "elemsEach", fn := fun _ => fun
  | [d1, d2, d3] => { results := [.lit (.bool false)], args := [d1, d2, d3] }
  | _ => none }
def ElemsEachWrongFalsely : Prop := elemsEachRow.holds Tryd.pinned (OpenSpec.ofChange elemsEachWrong)

/- THE SECOND FORM. 'bulk': how many values and letters a reading holds, each counted each time it is reached (what is shared counts as often as it is met; a slice's spare places count too). A statement '..UptoSaid' is the law's where the arguments, and the package variables that the reading takes, are together of bulk at most 1048576: NARROWER than '..Said'. Prove '..Said' where nothing that the law and all that it calls make is longer than what came in: it says more and counts as full. Else prove '..UptoSaid'. A law counts once. -/
mutual
def uptoBulk {H : Type} : DataW H → Nat
  | .lit (.string bytes) => bytes.length + 1
  | .lit _ => 1
  | .nil => 1
  | .ptr d => uptoBulk d + 1
  | .slice elems spare => uptoBulkAll elems + uptoBulkAll spare + 1
  | .agg parts => uptoBulkAll parts + 1
  | .iface _ d => uptoBulk d + 1
  | .map entries => uptoBulkEntries entries + 1
  | .held _ => 1
def uptoBulkAll {H : Type} : List (DataW H) → Nat
  | [] => 0
  | d :: r => uptoBulk d + uptoBulkAll r
def uptoBulkEntries {H : Type} : List (Lit × DataW H) → Nat
  | [] => 0
  | x :: r => uptoBulkEntry x + uptoBulkEntries r
def uptoBulkEntry {H : Type} : Lit × DataW H → Nat
  | (.string bytes, d) => bytes.length + uptoBulk d + 1
  | (_, d) => uptoBulk d + 1
 end
def uptoSmall : (H : Type) → List (DataW H) → Bool := fun _ ds => decide (uptoBulkAll ds ≤ 1048576)
def OpenSpec.upto (s : _root_.Go.ChangeSpec) : _root_.Go.OpenSpec := { _root_.Go.OpenSpec.ofChange s with cond := some uptoSmall }

/-- 'spindlelaw13.MbChecks', WHERE WHAT IT READS IS OF BULK AT MOST 1048576: true; the input reads as it did. -/
def mbChecksUptoRow : OpenClaim := { program := "yteeeabnfgpolgaadoor", sum := "a272a7b536ab1154b9f40b2b71d9dbbea8aec344ecf74e14baed3e75c1733c0d", func := "spindle/spindlelaw13.MbChecks", spec := "mbChecks", unfollowed := true, recurses := true, named := ["spindle/kinds.quarters", "spindle/mb.sizes"], apart := false, laid := [("spindle/kinds.quarters", laid_spindle_kinds_quarters), ("spindle/mb.sizes", laid_spindle_mb_sizes)], narrowed := true }
def MbChecksUptoSaid : Prop := mbChecksUptoRow.holds Tryd.pinned (OpenSpec.upto mbChecksSpec)

/-- 'spindlelaw13.MbSpoils', WHERE WHAT IT READS IS OF BULK AT MOST 1048576: true; the input reads as it did. -/
def mbSpoilsUptoRow : OpenClaim := { program := "yteeeabnfgpolgaadoor", sum := "a272a7b536ab1154b9f40b2b71d9dbbea8aec344ecf74e14baed3e75c1733c0d", func := "spindle/spindlelaw13.MbSpoils", spec := "mbSpoils", unfollowed := true, recurses := true, named := ["spindle/kinds.quarters", "spindle/mb.sizes"], apart := false, laid := [("spindle/kinds.quarters", laid_spindle_kinds_quarters), ("spindle/mb.sizes", laid_spindle_mb_sizes)], narrowed := true }
def MbSpoilsUptoSaid : Prop := mbSpoilsUptoRow.holds Tryd.pinned (OpenSpec.upto mbSpoilsSpec)

/-- 'spindlelaw13.MbWider', WHERE WHAT IT READS IS OF BULK AT MOST 1048576: true; the input reads as it did. -/
def mbWiderUptoRow : OpenClaim := { program := "yteeeabnfgpolgaadoor", sum := "a272a7b536ab1154b9f40b2b71d9dbbea8aec344ecf74e14baed3e75c1733c0d", func := "spindle/spindlelaw13.MbWider", spec := "mbWider", unfollowed := true, recurses := true, named := ["spindle/kinds.quarters", "spindle/mb.sizes"], apart := false, laid := [("spindle/kinds.quarters", laid_spindle_kinds_quarters), ("spindle/mb.sizes", laid_spindle_mb_sizes)], narrowed := true }
def MbWiderUptoSaid : Prop := mbWiderUptoRow.holds Tryd.pinned (OpenSpec.upto mbWiderSpec)

/-- 'spindlelaw13.MbExamples', WHERE WHAT IT READS IS OF BULK AT MOST 1048576: true; the input reads as it did. -/
def mbExamplesUptoRow : OpenClaim := { program := "yteeeabnfgpolgaadoor", sum := "a272a7b536ab1154b9f40b2b71d9dbbea8aec344ecf74e14baed3e75c1733c0d", func := "spindle/spindlelaw13.MbExamples", spec := "mbExamples", unfollowed := true, recurses := true, named := ["spindle/mb.sizes", "spindle/kinds.quarters"], apart := false, laid := [("spindle/kinds.quarters", laid_spindle_kinds_quarters), ("spindle/mb.sizes", laid_spindle_mb_sizes)], narrowed := true }
def MbExamplesUptoSaid : Prop := mbExamplesUptoRow.holds Tryd.pinned (OpenSpec.upto mbExamplesSpec)

/-- 'spindlelaw13.MbLists', WHERE WHAT IT READS IS OF BULK AT MOST 1048576: true; the input reads as it did. -/
def mbListsUptoRow : OpenClaim := { program := "yteeeabnfgpolgaadoor", sum := "a272a7b536ab1154b9f40b2b71d9dbbea8aec344ecf74e14baed3e75c1733c0d", func := "spindle/spindlelaw13.MbLists", spec := "mbLists", unfollowed := true, recurses := true, named := ["spindle/mb.sizes", "spindle/kinds.quarters"], apart := false, laid := [("spindle/kinds.quarters", laid_spindle_kinds_quarters), ("spindle/mb.sizes", laid_spindle_mb_sizes)], narrowed := true }
def MbListsUptoSaid : Prop := mbListsUptoRow.holds Tryd.pinned (OpenSpec.upto mbListsSpec)

/-- 'spindlelaw13.MbEquals', WHERE WHAT IT READS IS OF BULK AT MOST 1048576: true; the input reads as it did. -/
def mbEqualsUptoRow : OpenClaim := { program := "yteeeabnfgpolgaadoor", sum := "a272a7b536ab1154b9f40b2b71d9dbbea8aec344ecf74e14baed3e75c1733c0d", func := "spindle/spindlelaw13.MbEquals", spec := "mbEquals", unfollowed := true, recurses := true, named := ["spindle/mb.sizes", "spindle/kinds.quarters"], apart := false, laid := [("spindle/kinds.quarters", laid_spindle_kinds_quarters), ("spindle/mb.sizes", laid_spindle_mb_sizes)], narrowed := true }
def MbEqualsUptoSaid : Prop := mbEqualsUptoRow.holds Tryd.pinned (OpenSpec.upto mbEqualsSpec)

/-- 'spindlelaw33.ElemsMatches', WHERE WHAT IT READS IS OF BULK AT MOST 1048576: true; the input reads as it did. -/
def elemsMatchesUptoRow : OpenClaim := { program := "yteeeabnfgpolgaadoor", sum := "a272a7b536ab1154b9f40b2b71d9dbbea8aec344ecf74e14baed3e75c1733c0d", func := "spindle/spindlelaw33.ElemsMatches", spec := "elemsMatches", unfollowed := true, recurses := true, named := ["spindle/elems.deep"], apart := false, laid := [("spindle/elems.deep", laid_spindle_elems_deep)], narrowed := true }
def ElemsMatchesUptoSaid : Prop := elemsMatchesUptoRow.holds Tryd.pinned (OpenSpec.upto elemsMatchesSpec)

/-- 'spindlelaw33.ElemsCopies', WHERE WHAT IT READS IS OF BULK AT MOST 1048576: true; the input reads as it did. -/
def elemsCopiesUptoRow : OpenClaim := { program := "yteeeabnfgpolgaadoor", sum := "a272a7b536ab1154b9f40b2b71d9dbbea8aec344ecf74e14baed3e75c1733c0d", func := "spindle/spindlelaw33.ElemsCopies", spec := "elemsCopies", unfollowed := true, recurses := true, named := ["spindle/elems.deep"], apart := false, laid := [("spindle/elems.deep", laid_spindle_elems_deep)], narrowed := true }
def ElemsCopiesUptoSaid : Prop := elemsCopiesUptoRow.holds Tryd.pinned (OpenSpec.upto elemsCopiesSpec)

/-- 'spindlelaw33.ElemsExamples', WHERE WHAT IT READS IS OF BULK AT MOST 1048576: true; the input reads as it did. -/
def elemsExamplesUptoRow : OpenClaim := { program := "yteeeabnfgpolgaadoor", sum := "a272a7b536ab1154b9f40b2b71d9dbbea8aec344ecf74e14baed3e75c1733c0d", func := "spindle/spindlelaw33.ElemsExamples", spec := "elemsExamples", unfollowed := true, recurses := true, named := ["spindle/elems.deep"], apart := false, laid := [("spindle/elems.deep", laid_spindle_elems_deep)], narrowed := true }
def ElemsExamplesUptoSaid : Prop := elemsExamplesUptoRow.holds Tryd.pinned (OpenSpec.upto elemsExamplesSpec)

/-- 'spindlelaw33.ElemsOnce', WHERE WHAT IT READS IS OF BULK AT MOST 1048576: true; the input reads as it did. -/
def elemsOnceUptoRow : OpenClaim := { program := "yteeeabnfgpolgaadoor", sum := "a272a7b536ab1154b9f40b2b71d9dbbea8aec344ecf74e14baed3e75c1733c0d", func := "spindle/spindlelaw33.ElemsOnce", spec := "elemsOnce", unfollowed := true, recurses := true, named := ["spindle/elems.deep"], apart := false, laid := [("spindle/elems.deep", laid_spindle_elems_deep)], narrowed := true }
def ElemsOnceUptoSaid : Prop := elemsOnceUptoRow.holds Tryd.pinned (OpenSpec.upto elemsOnceSpec)

/-- 'spindlelaw33.ElemsRelated', WHERE WHAT IT READS IS OF BULK AT MOST 1048576: true; the input reads as it did. -/
def elemsRelatedUptoRow : OpenClaim := { program := "yteeeabnfgpolgaadoor", sum := "a272a7b536ab1154b9f40b2b71d9dbbea8aec344ecf74e14baed3e75c1733c0d", func := "spindle/spindlelaw33.ElemsRelated", spec := "elemsRelated", unfollowed := true, recurses := true, named := ["spindle/elems.deep"], apart := false, laid := [("spindle/elems.deep", laid_spindle_elems_deep)], narrowed := true }
def ElemsRelatedUptoSaid : Prop := elemsRelatedUptoRow.holds Tryd.pinned (OpenSpec.upto elemsRelatedSpec)

/-- 'spindlelaw33.ElemsEach', WHERE WHAT IT READS IS OF BULK AT MOST 1048576: true; the input reads as it did. -/
def elemsEachUptoRow : OpenClaim := { program := "yteeeabnfgpolgaadoor", sum := "a272a7b536ab1154b9f40b2b71d9dbbea8aec344ecf74e14baed3e75c1733c0d", func := "spindle/spindlelaw33.ElemsEach", spec := "elemsEach", unfollowed := true, recurses := true, named := ["spindle/elems.deep"], apart := false, laid := [("spindle/elems.deep", laid_spindle_elems_deep)], narrowed := true }
def ElemsEachUptoSaid : Prop := elemsEachUptoRow.holds Tryd.pinned (OpenSpec.upto elemsEachSpec)

end Rows
end Go.Proofs.YteeeabnfgpolgaaDoor
