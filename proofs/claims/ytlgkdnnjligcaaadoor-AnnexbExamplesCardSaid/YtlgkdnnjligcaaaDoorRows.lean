/-
  NARROWER THAN 'FOR EVERY INPUT', by the rows' own cells (each row's printed sentence says how): AnnexbSplits: laid · AnnexbJoins: laid · AnnexbExamples: laid · AnnexbLongest: laid · AnnexbBack: laid · AnnexbCanonical: laid · AnnexbMore: laid · AnnexbOdd: laid.
  DERIVED. THE GIVEN ROWS OF THIS SEAT. 8 by the template 'for every input the law returns true; each argument reads behind the call as it read before'; 0 by the template 'total and deterministic' (their statements: YtlgkdnnjligcaaaDoorTotals.lean).
  GIVEN WITH THE SEED: the statements are not yours to turn. If you find one false, say at which input.
  Laid BY PROGRAM, IN A SANDBOX (cutbox-rows.mjs): the forced cells as the released guide's own fill.sh prints them over the translation 9ff0e4c7323ccb2f… (all of the seat's roots in one cut). By AI agents, Wed Nov 11 2026. No macro, syntax, notation, axiom, sorry.
-/
import Derived.Test.YtlgkdnnjligcaaaDoorChecked
import GoSem.PinnedTables
import GoSem.Claim
import GoSem.ClaimJoined
import GoSem.ClaimMapViews
import Derived.JoinedTies
import Derived.KernelRfl
namespace Go.Proofs.YtlgkdnnjligcaaaDoor
/- THE CELL 'sum', in the pinned program and in every row, IS THE sha256 OF THE DUMP (.gsa) THAT YtlgkdnnjligcaaaDoorProg.lean LOADS. Nothing in Lean hashes anything: it is a label: what it is worth is what the hold of that sum in a sandbox is worth. -/
noncomputable def Tryd.pinned : Pinned := { name := "ytlgkdnnjligcaaadoor", sum := "9ff0e4c7323ccb2feae9443f619be363ff0fc19331102691691d964e0cf6e5a2", checked := Tryd.checked }
namespace Rows
def none {H : Type} : Left H := { results := [], args := [] }

/- WHAT THE LISTED PACKAGE-LEVEL VARIABLES READ AS WHEN THE CALL BEGINS. Each datum BY PROGRAM (the guide's laid-datum.mjs) off the statement by which the dump's own 'gosem.cut.vars' lays the variable. In a bare row this is a premise. The card (YtlgkdnnjligcaaaDoorCards.lean) ties it to the program's text. -/
def laid_unicode_utf8_acceptRanges {H : Type} : DataW H := .agg [.agg [.lit (.int .u8 128), .lit (.int .u8 191)], .agg [.lit (.int .u8 160), .lit (.int .u8 191)], .agg [.lit (.int .u8 128), .lit (.int .u8 159)], .agg [.lit (.int .u8 144), .lit (.int .u8 191)], .agg [.lit (.int .u8 128), .lit (.int .u8 143)], .agg [.lit (.int .u8 0), .lit (.int .u8 0)], .agg [.lit (.int .u8 0), .lit (.int .u8 0)], .agg [.lit (.int .u8 0), .lit (.int .u8 0)], .agg [.lit (.int .u8 0), .lit (.int .u8 0)], .agg [.lit (.int .u8 0), .lit (.int .u8 0)], .agg [.lit (.int .u8 0), .lit (.int .u8 0)], .agg [.lit (.int .u8 0), .lit (.int .u8 0)], .agg [.lit (.int .u8 0), .lit (.int .u8 0)], .agg [.lit (.int .u8 0), .lit (.int .u8 0)], .agg [.lit (.int .u8 0), .lit (.int .u8 0)], .agg [.lit (.int .u8 0), .lit (.int .u8 0)]]
/-- One of Go's own tables, pinned by name: the form's constant. -/
def laid_unicode_utf8_first : DataW Unit := Go.Pinned.utf8First

/-- 'spindlelaw04.AnnexbSplits': WHATEVER THE INPUT: true; the input reads as it did. -/
def annexbSplitsSpec : ChangeSpec := { name := "annexbSplits", fn := fun _ => fun
  | [d] => { results := [.lit (.bool true)], args := [d] }
  | _ => none }
def annexbSplitsRow : OpenClaim := { program := "ytlgkdnnjligcaaadoor", sum := "9ff0e4c7323ccb2feae9443f619be363ff0fc19331102691691d964e0cf6e5a2", func := "spindle/spindlelaw04.AnnexbSplits", spec := "annexbSplits", inPlace := ["internal/bytealg.IndexByteString", "internal/bytealg.IndexString"], unfollowed := true, recurses := true, named := ["internal/bytealg.MaxLen", "unicode/utf8.first", "unicode/utf8.acceptRanges"], apart := false, laid := [("unicode/utf8.acceptRanges", laid_unicode_utf8_acceptRanges), ("unicode/utf8.first", laid_unicode_utf8_first)] }
def AnnexbSplitsSaid : Prop := annexbSplitsRow.holds Tryd.pinned (OpenSpec.ofChange annexbSplitsSpec)

/-- ITS FALSE NEIGHBOUR: 'it returns false'. Refute it at one input. -/
def annexbSplitsWrong : ChangeSpec := { name := "annexbSplits", fn := fun _ => fun
  | [d] => { results := [.lit (.bool false)], args := [d] }
  | _ => none }
def AnnexbSplitsWrongFalsely : Prop := annexbSplitsRow.holds Tryd.pinned (OpenSpec.ofChange annexbSplitsWrong)

/-- 'spindlelaw04.AnnexbJoins': WHATEVER THE INPUT: true; the input reads as it did. -/
def annexbJoinsSpec : ChangeSpec := { name := "annexbJoins", fn := fun _ => fun
  | [d1, d2, d3] => { results := [.lit (.bool true)], args := [d1, d2, d3] }
  | _ => none }
def annexbJoinsRow : OpenClaim := { program := "ytlgkdnnjligcaaadoor", sum := "9ff0e4c7323ccb2feae9443f619be363ff0fc19331102691691d964e0cf6e5a2", func := "spindle/spindlelaw04.AnnexbJoins", spec := "annexbJoins", inPlace := ["internal/bytealg.IndexByteString", "internal/bytealg.IndexString"], unfollowed := true, recurses := true, named := ["internal/bytealg.MaxLen", "unicode/utf8.first", "unicode/utf8.acceptRanges"], apart := false, laid := [("unicode/utf8.acceptRanges", laid_unicode_utf8_acceptRanges), ("unicode/utf8.first", laid_unicode_utf8_first)] }
def AnnexbJoinsSaid : Prop := annexbJoinsRow.holds Tryd.pinned (OpenSpec.ofChange annexbJoinsSpec)

/-- ITS FALSE NEIGHBOUR: 'it returns false'. Refute it at one input. -/
def annexbJoinsWrong : ChangeSpec := { name := "annexbJoins", fn := fun _ => fun
  | [d1, d2, d3] => { results := [.lit (.bool false)], args := [d1, d2, d3] }
  | _ => none }
def AnnexbJoinsWrongFalsely : Prop := annexbJoinsRow.holds Tryd.pinned (OpenSpec.ofChange annexbJoinsWrong)

/-- 'spindlelaw04.AnnexbExamples': WHATEVER THE INPUT: true; the input reads as it did. -/
def annexbExamplesSpec : ChangeSpec := { name := "annexbExamples", fn := fun _ => fun
  | [] => { results := [.lit (.bool true)], args := [] }
  | _ => none }
def annexbExamplesRow : OpenClaim := { program := "ytlgkdnnjligcaaadoor", sum := "9ff0e4c7323ccb2feae9443f619be363ff0fc19331102691691d964e0cf6e5a2", func := "spindle/spindlelaw04.AnnexbExamples", spec := "annexbExamples", inPlace := ["internal/bytealg.IndexByteString", "internal/bytealg.IndexString"], unfollowed := true, recurses := true, named := ["unicode/utf8.first", "unicode/utf8.acceptRanges", "internal/bytealg.MaxLen"], apart := false, laid := [("unicode/utf8.acceptRanges", laid_unicode_utf8_acceptRanges), ("unicode/utf8.first", laid_unicode_utf8_first)] }
def AnnexbExamplesSaid : Prop := annexbExamplesRow.holds Tryd.pinned (OpenSpec.ofChange annexbExamplesSpec)

/-- ITS FALSE NEIGHBOUR: 'it returns false'. Refute it at one input. -/
def annexbExamplesWrong : ChangeSpec := { name := "annexbExamples", fn := fun _ => fun
  | [] => { results := [.lit (.bool false)], args := [] }
  | _ => none }
def AnnexbExamplesWrongFalsely : Prop := annexbExamplesRow.holds Tryd.pinned (OpenSpec.ofChange annexbExamplesWrong)

/-- 'spindlelaw04.AnnexbLongest': WHATEVER THE INPUT: true; the input reads as it did. -/
def annexbLongestSpec : ChangeSpec := { name := "annexbLongest", fn := fun _ => fun
  | [] => { results := [.lit (.bool true)], args := [] }
  | _ => none }
def annexbLongestRow : OpenClaim := { program := "ytlgkdnnjligcaaadoor", sum := "9ff0e4c7323ccb2feae9443f619be363ff0fc19331102691691d964e0cf6e5a2", func := "spindle/spindlelaw04.AnnexbLongest", spec := "annexbLongest", inPlace := ["internal/bytealg.IndexByteString", "internal/bytealg.IndexString"], unfollowed := true, recurses := true, named := ["internal/bytealg.MaxLen", "unicode/utf8.first", "unicode/utf8.acceptRanges"], apart := false, laid := [("unicode/utf8.acceptRanges", laid_unicode_utf8_acceptRanges), ("unicode/utf8.first", laid_unicode_utf8_first)] }
def AnnexbLongestSaid : Prop := annexbLongestRow.holds Tryd.pinned (OpenSpec.ofChange annexbLongestSpec)

/-- ITS FALSE NEIGHBOUR: 'it returns false'. Refute it at one input. -/
def annexbLongestWrong : ChangeSpec := { name := "annexbLongest", fn := fun _ => fun
  | [] => { results := [.lit (.bool false)], args := [] }
  | _ => none }
def AnnexbLongestWrongFalsely : Prop := annexbLongestRow.holds Tryd.pinned (OpenSpec.ofChange annexbLongestWrong)

/-- 'spindlelaw04.AnnexbBack': WHATEVER THE INPUT: true; the input reads as it did. -/
def annexbBackSpec : ChangeSpec := { name := "annexbBack", fn := fun _ => fun
  | [d1, d2] => { results := [.lit (.bool true)], args := [d1, d2] }
  | _ => none }
def annexbBackRow : OpenClaim := { program := "ytlgkdnnjligcaaadoor", sum := "9ff0e4c7323ccb2feae9443f619be363ff0fc19331102691691d964e0cf6e5a2", func := "spindle/spindlelaw04.AnnexbBack", spec := "annexbBack", inPlace := ["internal/bytealg.IndexByteString", "internal/bytealg.IndexString"], unfollowed := true, recurses := true, named := ["internal/bytealg.MaxLen", "unicode/utf8.first", "unicode/utf8.acceptRanges"], apart := false, laid := [("unicode/utf8.acceptRanges", laid_unicode_utf8_acceptRanges), ("unicode/utf8.first", laid_unicode_utf8_first)] }
def AnnexbBackSaid : Prop := annexbBackRow.holds Tryd.pinned (OpenSpec.ofChange annexbBackSpec)

/-- ITS FALSE NEIGHBOUR: 'it returns false'. Refute it at one input. -/
def annexbBackWrong : ChangeSpec := { name := "annexbBack", fn := fun _ => fun
  | [d1, d2] => { results := [.lit (.bool false)], args := [d1, d2] }
  | _ => none }
def AnnexbBackWrongFalsely : Prop := annexbBackRow.holds Tryd.pinned (OpenSpec.ofChange annexbBackWrong)

/-- 'spindlelaw04.AnnexbCanonical': WHATEVER THE INPUT: true; the input reads as it did. -/
def annexbCanonicalSpec : ChangeSpec := { name := "annexbCanonical", fn := fun _ => fun
  | [d] => { results := [.lit (.bool true)], args := [d] }
  | _ => none }
def annexbCanonicalRow : OpenClaim := { program := "ytlgkdnnjligcaaadoor", sum := "9ff0e4c7323ccb2feae9443f619be363ff0fc19331102691691d964e0cf6e5a2", func := "spindle/spindlelaw04.AnnexbCanonical", spec := "annexbCanonical", inPlace := ["internal/bytealg.IndexByteString", "internal/bytealg.IndexString"], unfollowed := true, recurses := true, named := ["internal/bytealg.MaxLen", "unicode/utf8.first", "unicode/utf8.acceptRanges"], apart := false, laid := [("unicode/utf8.acceptRanges", laid_unicode_utf8_acceptRanges), ("unicode/utf8.first", laid_unicode_utf8_first)] }
def AnnexbCanonicalSaid : Prop := annexbCanonicalRow.holds Tryd.pinned (OpenSpec.ofChange annexbCanonicalSpec)

/-- ITS FALSE NEIGHBOUR: 'it returns false'. Refute it at one input. -/
def annexbCanonicalWrong : ChangeSpec := { name := "annexbCanonical", fn := fun _ => fun
  | [d] => { results := [.lit (.bool false)], args := [d] }
  | _ => none }
def AnnexbCanonicalWrongFalsely : Prop := annexbCanonicalRow.holds Tryd.pinned (OpenSpec.ofChange annexbCanonicalWrong)

/-- 'spindlelaw04.AnnexbMore': WHATEVER THE INPUT: true; the input reads as it did. -/
def annexbMoreSpec : ChangeSpec := { name := "annexbMore", fn := fun _ => fun
  | [d1, d2] => { results := [.lit (.bool true)], args := [d1, d2] }
  | _ => none }
def annexbMoreRow : OpenClaim := { program := "ytlgkdnnjligcaaadoor", sum := "9ff0e4c7323ccb2feae9443f619be363ff0fc19331102691691d964e0cf6e5a2", func := "spindle/spindlelaw04.AnnexbMore", spec := "annexbMore", inPlace := ["internal/bytealg.IndexByteString", "internal/bytealg.IndexString"], unfollowed := true, recurses := true, named := ["internal/bytealg.MaxLen", "unicode/utf8.first", "unicode/utf8.acceptRanges"], apart := false, laid := [("unicode/utf8.acceptRanges", laid_unicode_utf8_acceptRanges), ("unicode/utf8.first", laid_unicode_utf8_first)] }
def AnnexbMoreSaid : Prop := annexbMoreRow.holds Tryd.pinned (OpenSpec.ofChange annexbMoreSpec)

/-- ITS FALSE NEIGHBOUR: 'it returns false'. Refute it at one input. -/
def annexbMoreWrong : ChangeSpec := { name := "annexbMore", fn := fun _ => fun
  | [d1, d2] => { results := [.lit (.bool false)], args := [d1, d2] }
  | _ => none }
def AnnexbMoreWrongFalsely : Prop := annexbMoreRow.holds Tryd.pinned (OpenSpec.ofChange annexbMoreWrong)

/-- 'spindlelaw04.AnnexbOdd': WHATEVER THE INPUT: true; the input reads as it did. -/
def annexbOddSpec : ChangeSpec := { name := "annexbOdd", fn := fun _ => fun
  | [d1, d2, d3] => { results := [.lit (.bool true)], args := [d1, d2, d3] }
  | _ => none }
def annexbOddRow : OpenClaim := { program := "ytlgkdnnjligcaaadoor", sum := "9ff0e4c7323ccb2feae9443f619be363ff0fc19331102691691d964e0cf6e5a2", func := "spindle/spindlelaw04.AnnexbOdd", spec := "annexbOdd", inPlace := ["internal/bytealg.IndexByteString", "internal/bytealg.IndexString"], unfollowed := true, recurses := true, named := ["internal/bytealg.MaxLen", "unicode/utf8.first", "unicode/utf8.acceptRanges"], apart := false, laid := [("unicode/utf8.acceptRanges", laid_unicode_utf8_acceptRanges), ("unicode/utf8.first", laid_unicode_utf8_first)] }
def AnnexbOddSaid : Prop := annexbOddRow.holds Tryd.pinned (OpenSpec.ofChange annexbOddSpec)

/-- ITS FALSE NEIGHBOUR: 'it returns false'. Refute it at one input. -/
def annexbOddWrong : ChangeSpec := { name := "annexbOdd", fn := fun _ => fun
  | [d1, d2, d3] => { results := [.lit (.bool false)], args := [d1, d2, d3] }
  | _ => none }
def AnnexbOddWrongFalsely : Prop := annexbOddRow.holds Tryd.pinned (OpenSpec.ofChange annexbOddWrong)

/- THE SECOND FORM. 'bulk': how many values and letters a reading holds, each counted each time it is reached (what is shared counts as often as it is met; a slice's spare places count too). A statement '..UptoSaid' is the law's where the arguments, and the package variables that the reading takes, are together of bulk at most 1048576: NARROWER than '..Said'. Prove '..Said' where nothing that the law and all that it calls make is longer than what came in: it says more and counts as full. Else prove '..UptoSaid'. A law counts once. -/
mutual
def uptoBulk {H : Type} : DataW H → Nat
  | .lit (.string bytes) => bytes.length + 1
  | .lit _ => 1
  | .nil => 1
  | .ptr d => uptoBulk d + 1
  | .slice elems spare => uptoBulkAll elems + uptoBulkAll spare + 1
  | .agg parts => uptoBulkAll parts + 1
  | .iface _ d => uptoBulk d + 1
  | .map entries => uptoBulkEntries entries + 1
  | .held _ => 1
def uptoBulkAll {H : Type} : List (DataW H) → Nat
  | [] => 0
  | d :: r => uptoBulk d + uptoBulkAll r
def uptoBulkEntries {H : Type} : List (Lit × DataW H) → Nat
  | [] => 0
  | x :: r => uptoBulkEntry x + uptoBulkEntries r
def uptoBulkEntry {H : Type} : Lit × DataW H → Nat
  | (.string bytes, d) => bytes.length + uptoBulk d + 1
  | (_, d) => uptoBulk d + 1
 end
def uptoSmall : (H : Type) → List (DataW H) → Bool := fun _ ds => decide (uptoBulkAll ds ≤ 1048576)
def OpenSpec.upto (s : _root_.Go.ChangeSpec) : _root_.Go.OpenSpec := { _root_.Go.OpenSpec.ofChange s with cond := some uptoSmall }

/-- 'spindlelaw04.AnnexbSplits', WHERE WHAT IT READS IS OF BULK AT MOST 1048576: true; the input reads as it did. -/
def annexbSplitsUptoRow : OpenClaim := { program := "ytlgkdnnjligcaaadoor", sum := "9ff0e4c7323ccb2feae9443f619be363ff0fc19331102691691d964e0cf6e5a2", func := "spindle/spindlelaw04.AnnexbSplits", spec := "annexbSplits", inPlace := ["internal/bytealg.IndexByteString", "internal/bytealg.IndexString"], unfollowed := true, recurses := true, named := ["internal/bytealg.MaxLen", "unicode/utf8.first", "unicode/utf8.acceptRanges"], apart := false, laid := [("unicode/utf8.acceptRanges", laid_unicode_utf8_acceptRanges), ("unicode/utf8.first", laid_unicode_utf8_first)], narrowed := true }
def AnnexbSplitsUptoSaid : Prop := annexbSplitsUptoRow.holds Tryd.pinned (OpenSpec.upto annexbSplitsSpec)

/-- 'spindlelaw04.AnnexbJoins', WHERE WHAT IT READS IS OF BULK AT MOST 1048576: true; the input reads as it did. -/
def annexbJoinsUptoRow : OpenClaim := { program := "ytlgkdnnjligcaaadoor", sum := "9ff0e4c7323ccb2feae9443f619be363ff0fc19331102691691d964e0cf6e5a2", func := "spindle/spindlelaw04.AnnexbJoins", spec := "annexbJoins", inPlace := ["internal/bytealg.IndexByteString", "internal/bytealg.IndexString"], unfollowed := true, recurses := true, named := ["internal/bytealg.MaxLen", "unicode/utf8.first", "unicode/utf8.acceptRanges"], apart := false, laid := [("unicode/utf8.acceptRanges", laid_unicode_utf8_acceptRanges), ("unicode/utf8.first", laid_unicode_utf8_first)], narrowed := true }
def AnnexbJoinsUptoSaid : Prop := annexbJoinsUptoRow.holds Tryd.pinned (OpenSpec.upto annexbJoinsSpec)

/-- 'spindlelaw04.AnnexbExamples', WHERE WHAT IT READS IS OF BULK AT MOST 1048576: true; the input reads as it did. -/
def annexbExamplesUptoRow : OpenClaim := { program := "ytlgkdnnjligcaaadoor", sum := "9ff0e4c7323ccb2feae9443f619be363ff0fc19331102691691d964e0cf6e5a2", func := "spindle/spindlelaw04.AnnexbExamples", spec := "annexbExamples", inPlace := ["internal/bytealg.IndexByteString", "internal/bytealg.IndexString"], unfollowed := true, recurses := true, named := ["unicode/utf8.first", "unicode/utf8.acceptRanges", "internal/bytealg.MaxLen"], apart := false, laid := [("unicode/utf8.acceptRanges", laid_unicode_utf8_acceptRanges), ("unicode/utf8.first", laid_unicode_utf8_first)], narrowed := true }
def AnnexbExamplesUptoSaid : Prop := annexbExamplesUptoRow.holds Tryd.pinned (OpenSpec.upto annexbExamplesSpec)

/-- 'spindlelaw04.AnnexbLongest', WHERE WHAT IT READS IS OF BULK AT MOST 1048576: true; the input reads as it did. -/
def annexbLongestUptoRow : OpenClaim := { program := "ytlgkdnnjligcaaadoor", sum := "9ff0e4c7323ccb2feae9443f619be363ff0fc19331102691691d964e0cf6e5a2", func := "spindle/spindlelaw04.AnnexbLongest", spec := "annexbLongest", inPlace := ["internal/bytealg.IndexByteString", "internal/bytealg.IndexString"], unfollowed := true, recurses := true, named := ["internal/bytealg.MaxLen", "unicode/utf8.first", "unicode/utf8.acceptRanges"], apart := false, laid := [("unicode/utf8.acceptRanges", laid_unicode_utf8_acceptRanges), ("unicode/utf8.first", laid_unicode_utf8_first)], narrowed := true }
def AnnexbLongestUptoSaid : Prop := annexbLongestUptoRow.holds Tryd.pinned (OpenSpec.upto annexbLongestSpec)

/-- 'spindlelaw04.AnnexbBack', WHERE WHAT IT READS IS OF BULK AT MOST 1048576: true; the input reads as it did. -/
def annexbBackUptoRow : OpenClaim := { program := "ytlgkdnnjligcaaadoor", sum := "9ff0e4c7323ccb2feae9443f619be363ff0fc19331102691691d964e0cf6e5a2", func := "spindle/spindlelaw04.AnnexbBack", spec := "annexbBack", inPlace := ["internal/bytealg.IndexByteString", "internal/bytealg.IndexString"], unfollowed := true, recurses := true, named := ["internal/bytealg.MaxLen", "unicode/utf8.first", "unicode/utf8.acceptRanges"], apart := false, laid := [("unicode/utf8.acceptRanges", laid_unicode_utf8_acceptRanges), ("unicode/utf8.first", laid_unicode_utf8_first)], narrowed := true }
def AnnexbBackUptoSaid : Prop := annexbBackUptoRow.holds Tryd.pinned (OpenSpec.upto annexbBackSpec)

/-- 'spindlelaw04.AnnexbCanonical', WHERE WHAT IT READS IS OF BULK AT MOST 1048576: true; the input reads as it did. -/
def annexbCanonicalUptoRow : OpenClaim := { program := "ytlgkdnnjligcaaadoor", sum := "9ff0e4c7323ccb2feae9443f619be363ff0fc19331102691691d964e0cf6e5a2", func := "spindle/spindlelaw04.AnnexbCanonical", spec := "annexbCanonical", inPlace := ["internal/bytealg.IndexByteString", "internal/bytealg.IndexString"], unfollowed := true, recurses := true, named := ["internal/bytealg.MaxLen", "unicode/utf8.first", "unicode/utf8.acceptRanges"], apart := false, laid := [("unicode/utf8.acceptRanges", laid_unicode_utf8_acceptRanges), ("unicode/utf8.first", laid_unicode_utf8_first)], narrowed := true }
def AnnexbCanonicalUptoSaid : Prop := annexbCanonicalUptoRow.holds Tryd.pinned (OpenSpec.upto annexbCanonicalSpec)

/-- 'spindlelaw04.AnnexbMore', WHERE WHAT IT READS IS OF BULK AT MOST 1048576: true; the input reads as it did. -/
def annexbMoreUptoRow : OpenClaim := { program := "ytlgkdnnjligcaaadoor", sum := "9ff0e4c7323ccb2feae9443f619be363ff0fc19331102691691d964e0cf6e5a2", func := "spindle/spindlelaw04.AnnexbMore", spec := "annexbMore", inPlace := ["internal/bytealg.IndexByteString", "internal/bytealg.IndexString"], unfollowed := true, recurses := true, named := ["internal/bytealg.MaxLen", "unicode/utf8.first", "unicode/utf8.acceptRanges"], apart := false, laid := [("unicode/utf8.acceptRanges", laid_unicode_utf8_acceptRanges), ("unicode/utf8.first", laid_unicode_utf8_first)], narrowed := true }
def AnnexbMoreUptoSaid : Prop := annexbMoreUptoRow.holds Tryd.pinned (OpenSpec.upto annexbMoreSpec)

/-- 'spindlelaw04.AnnexbOdd', WHERE WHAT IT READS IS OF BULK AT MOST 1048576: true; the input reads as it did. -/
def annexbOddUptoRow : OpenClaim := { program := "ytlgkdnnjligcaaadoor", sum := "9ff0e4c7323ccb2feae9443f619be363ff0fc19331102691691d964e0cf6e5a2", func := "spindle/spindlelaw04.AnnexbOdd", spec := "annexbOdd", inPlace := ["internal/bytealg.IndexByteString", "internal/bytealg.IndexString"], unfollowed := true, recurses := true, named := ["internal/bytealg.MaxLen", "unicode/utf8.first", "unicode/utf8.acceptRanges"], apart := false, laid := [("unicode/utf8.acceptRanges", laid_unicode_utf8_acceptRanges), ("unicode/utf8.first", laid_unicode_utf8_first)], narrowed := true }
def AnnexbOddUptoSaid : Prop := annexbOddUptoRow.holds Tryd.pinned (OpenSpec.upto annexbOddSpec)

end Rows
end Go.Proofs.YtlgkdnnjligcaaaDoor
