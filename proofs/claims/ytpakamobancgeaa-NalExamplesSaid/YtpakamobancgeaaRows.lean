/-
  No cell of these rows narrows 'for every input' (looked for: loops, veiled, ifaces, maps, wideKeys, modest, calm, conditions, laid).
  DERIVED. THE GIVEN ROWS OF THIS SEAT. 8 by the template 'for every input the law returns true; each argument reads behind the call as it read before'; 0 by the template 'total and deterministic' (their statements: YtpakamobancgeaaTotals.lean).
  GIVEN WITH THE SEED: the statements are not yours to turn. If you find one false, say at which input.
  Laid BY PROGRAM, IN A SANDBOX (cutbox-rows.mjs): the forced cells as the released guide's own fill.sh prints them over the translation 0336005dfaaa9483… (all of the seat's roots in one cut). By AI agents, Wed Nov 11 2026. No macro, syntax, notation, axiom, sorry.
-/
import Derived.Test.YtpakamobancgeaaChecked
import GoSem.Claim
import GoSem.ClaimJoined
import GoSem.ClaimMapViews
import Derived.JoinedTies
import Derived.KernelRfl
namespace Go.Proofs.Ytpakamobancgeaa
/- THE CELL 'sum', in the pinned program and in every row, IS THE sha256 OF THE DUMP (.gsa) THAT YtpakamobancgeaaProg.lean LOADS. Nothing in Lean hashes anything: it is a label: what it is worth is what the hold of that sum in a sandbox is worth. -/
noncomputable def Try.pinned : Pinned := { name := "ytpakamobancgeaa", sum := "0336005dfaaa948367254741aeef8c8d616cb71d418ef3a6fa5047586d629684", checked := Try.checked }
namespace Rows
def none {H : Type} : Left H := { results := [], args := [] }

/-- 'spindlelaw03.NalEncodes': WHATEVER THE INPUT: true; the input reads as it did. -/
def nalEncodesSpec : ChangeSpec := { name := "nalEncodes", fn := fun _ => fun
  | [d] => { results := [.lit (.bool true)], args := [d] }
  | _ => none }
def nalEncodesRow : OpenClaim := { program := "ytpakamobancgeaa", sum := "0336005dfaaa948367254741aeef8c8d616cb71d418ef3a6fa5047586d629684", func := "spindle/spindlelaw03.NalEncodes", spec := "nalEncodes", unfollowed := true, recurses := true, apart := false }
def NalEncodesSaid : Prop := nalEncodesRow.holds Try.pinned (OpenSpec.ofChange nalEncodesSpec)

/-- ITS FALSE NEIGHBOUR: 'it returns false'. Refute it at one input. -/
def nalEncodesWrong : ChangeSpec := { name := "nalEncodes", fn := fun _ => fun
  | [d] => { results := [.lit (.bool false)], args := [d] }
  | _ => none }
def NalEncodesWrongFalsely : Prop := nalEncodesRow.holds Try.pinned (OpenSpec.ofChange nalEncodesWrong)

/-- 'spindlelaw03.NalLengths': WHATEVER THE INPUT: true; the input reads as it did. -/
def nalLengthsSpec : ChangeSpec := { name := "nalLengths", fn := fun _ => fun
  | [d] => { results := [.lit (.bool true)], args := [d] }
  | _ => none }
def nalLengthsRow : OpenClaim := { program := "ytpakamobancgeaa", sum := "0336005dfaaa948367254741aeef8c8d616cb71d418ef3a6fa5047586d629684", func := "spindle/spindlelaw03.NalLengths", spec := "nalLengths", unfollowed := true, recurses := true, apart := false }
def NalLengthsSaid : Prop := nalLengthsRow.holds Try.pinned (OpenSpec.ofChange nalLengthsSpec)

/-- ITS FALSE NEIGHBOUR: 'it returns false'. Refute it at one input. -/
def nalLengthsWrong : ChangeSpec := { name := "nalLengths", fn := fun _ => fun
  | [d] => { results := [.lit (.bool false)], args := [d] }
  | _ => none }
def NalLengthsWrongFalsely : Prop := nalLengthsRow.holds Try.pinned (OpenSpec.ofChange nalLengthsWrong)

/-- 'spindlelaw03.NalParts': WHATEVER THE INPUT: true; the input reads as it did. -/
def nalPartsSpec : ChangeSpec := { name := "nalParts", fn := fun _ => fun
  | [d1, d2] => { results := [.lit (.bool true)], args := [d1, d2] }
  | _ => none }
def nalPartsRow : OpenClaim := { program := "ytpakamobancgeaa", sum := "0336005dfaaa948367254741aeef8c8d616cb71d418ef3a6fa5047586d629684", func := "spindle/spindlelaw03.NalParts", spec := "nalParts", unfollowed := true, recurses := true, apart := false }
def NalPartsSaid : Prop := nalPartsRow.holds Try.pinned (OpenSpec.ofChange nalPartsSpec)

/-- ITS FALSE NEIGHBOUR: 'it returns false'. Refute it at one input. -/
def nalPartsWrong : ChangeSpec := { name := "nalParts", fn := fun _ => fun
  | [d1, d2] => { results := [.lit (.bool false)], args := [d1, d2] }
  | _ => none }
def NalPartsWrongFalsely : Prop := nalPartsRow.holds Try.pinned (OpenSpec.ofChange nalPartsWrong)

/-- 'spindlelaw03.NalZeros': WHATEVER THE INPUT: true; the input reads as it did. -/
def nalZerosSpec : ChangeSpec := { name := "nalZeros", fn := fun _ => fun
  | [d1, d2] => { results := [.lit (.bool true)], args := [d1, d2] }
  | _ => none }
def nalZerosRow : OpenClaim := { program := "ytpakamobancgeaa", sum := "0336005dfaaa948367254741aeef8c8d616cb71d418ef3a6fa5047586d629684", func := "spindle/spindlelaw03.NalZeros", spec := "nalZeros", unfollowed := true, recurses := true, apart := false }
def NalZerosSaid : Prop := nalZerosRow.holds Try.pinned (OpenSpec.ofChange nalZerosSpec)

/-- ITS FALSE NEIGHBOUR: 'it returns false'. Refute it at one input. -/
def nalZerosWrong : ChangeSpec := { name := "nalZeros", fn := fun _ => fun
  | [d1, d2] => { results := [.lit (.bool false)], args := [d1, d2] }
  | _ => none }
def NalZerosWrongFalsely : Prop := nalZerosRow.holds Try.pinned (OpenSpec.ofChange nalZerosWrong)

/-- 'spindlelaw03.NalBack': WHATEVER THE INPUT: true; the input reads as it did. -/
def nalBackSpec : ChangeSpec := { name := "nalBack", fn := fun _ => fun
  | [d] => { results := [.lit (.bool true)], args := [d] }
  | _ => none }
def nalBackRow : OpenClaim := { program := "ytpakamobancgeaa", sum := "0336005dfaaa948367254741aeef8c8d616cb71d418ef3a6fa5047586d629684", func := "spindle/spindlelaw03.NalBack", spec := "nalBack", unfollowed := true, recurses := true, apart := false }
def NalBackSaid : Prop := nalBackRow.holds Try.pinned (OpenSpec.ofChange nalBackSpec)

/-- ITS FALSE NEIGHBOUR: 'it returns false'. Refute it at one input. -/
def nalBackWrong : ChangeSpec := { name := "nalBack", fn := fun _ => fun
  | [d] => { results := [.lit (.bool false)], args := [d] }
  | _ => none }
def NalBackWrongFalsely : Prop := nalBackRow.holds Try.pinned (OpenSpec.ofChange nalBackWrong)

/-- 'spindlelaw03.NalMatches': WHATEVER THE INPUT: true; the input reads as it did. -/
def nalMatchesSpec : ChangeSpec := { name := "nalMatches", fn := fun _ => fun
  | [d] => { results := [.lit (.bool true)], args := [d] }
  | _ => none }
def nalMatchesRow : OpenClaim := { program := "ytpakamobancgeaa", sum := "0336005dfaaa948367254741aeef8c8d616cb71d418ef3a6fa5047586d629684", func := "spindle/spindlelaw03.NalMatches", spec := "nalMatches", unfollowed := true, recurses := true, apart := false }
def NalMatchesSaid : Prop := nalMatchesRow.holds Try.pinned (OpenSpec.ofChange nalMatchesSpec)

/-- ITS FALSE NEIGHBOUR: 'it returns false'. Refute it at one input. -/
def nalMatchesWrong : ChangeSpec := { name := "nalMatches", fn := fun _ => fun
  | [d] => { results := [.lit (.bool false)], args := [d] }
  | _ => none }
def NalMatchesWrongFalsely : Prop := nalMatchesRow.holds Try.pinned (OpenSpec.ofChange nalMatchesWrong)

/-- 'spindlelaw03.NalExamples': WHATEVER THE INPUT: true; the input reads as it did. -/
def nalExamplesSpec : ChangeSpec := { name := "nalExamples", fn := fun _ => fun
  | [] => { results := [.lit (.bool true)], args := [] }
  | _ => none }
def nalExamplesRow : OpenClaim := { program := "ytpakamobancgeaa", sum := "0336005dfaaa948367254741aeef8c8d616cb71d418ef3a6fa5047586d629684", func := "spindle/spindlelaw03.NalExamples", spec := "nalExamples", unfollowed := true, recurses := true, apart := false }
def NalExamplesSaid : Prop := nalExamplesRow.holds Try.pinned (OpenSpec.ofChange nalExamplesSpec)

/-- ITS FALSE NEIGHBOUR: 'it returns false'. Refute it at one input. -/
def nalExamplesWrong : ChangeSpec := { name := "nalExamples", fn := fun _ => fun
  | [] => { results := [.lit (.bool false)], args := [] }
  | _ => none }
def NalExamplesWrongFalsely : Prop := nalExamplesRow.holds Try.pinned (OpenSpec.ofChange nalExamplesWrong)

/-- 'spindlelaw03.NalUnits': WHATEVER THE INPUT: true; the input reads as it did. -/
def nalUnitsSpec : ChangeSpec := { name := "nalUnits", fn := fun _ => fun
  | [d1, d2, d3, d4] => { results := [.lit (.bool true)], args := [d1, d2, d3, d4] }
  | _ => none }
def nalUnitsRow : OpenClaim := { program := "ytpakamobancgeaa", sum := "0336005dfaaa948367254741aeef8c8d616cb71d418ef3a6fa5047586d629684", func := "spindle/spindlelaw03.NalUnits", spec := "nalUnits", unfollowed := true, recurses := true, apart := false }
def NalUnitsSaid : Prop := nalUnitsRow.holds Try.pinned (OpenSpec.ofChange nalUnitsSpec)

/-- ITS FALSE NEIGHBOUR: 'it returns false'. Refute it at one input. -/
def nalUnitsWrong : ChangeSpec := { name := "nalUnits", fn := fun _ => fun
  | [d1, d2, d3, d4] => { results := [.lit (.bool false)], args := [d1, d2, d3, d4] }
  | _ => none }
def NalUnitsWrongFalsely : Prop := nalUnitsRow.holds Try.pinned (OpenSpec.ofChange nalUnitsWrong)

/- THE SECOND FORM. 'bulk': how many values and letters a reading holds, each counted each time it is reached (what is shared counts as often as it is met; a slice's spare places count too). A statement '..UptoSaid' is the law's where the arguments, and the package variables that the reading takes, are together of bulk at most 1048576: NARROWER than '..Said'. Prove '..Said' where nothing that the law and all that it calls make is longer than what came in: it says more and counts as full. Else prove '..UptoSaid'. A law counts once. -/
mutual
def uptoBulk {H : Type} : DataW H → Nat
  | .lit (.string bytes) => bytes.length + 1
  | .lit _ => 1
  | .nil => 1
  | .ptr d => uptoBulk d + 1
  | .slice elems spare => uptoBulkAll elems + uptoBulkAll spare + 1
  | .agg parts => uptoBulkAll parts + 1
  | .iface _ d => uptoBulk d + 1
  | .map entries => uptoBulkEntries entries + 1
  | .held _ => 1
def uptoBulkAll {H : Type} : List (DataW H) → Nat
  | [] => 0
  | d :: r => uptoBulk d + uptoBulkAll r
def uptoBulkEntries {H : Type} : List (Lit × DataW H) → Nat
  | [] => 0
  | x :: r => uptoBulkEntry x + uptoBulkEntries r
def uptoBulkEntry {H : Type} : Lit × DataW H → Nat
  | (.string bytes, d) => bytes.length + uptoBulk d + 1
  | (_, d) => uptoBulk d + 1
 end
def uptoSmall : (H : Type) → List (DataW H) → Bool := fun _ ds => decide (uptoBulkAll ds ≤ 1048576)
def OpenSpec.upto (s : _root_.Go.ChangeSpec) : _root_.Go.OpenSpec := { _root_.Go.OpenSpec.ofChange s with cond := some uptoSmall }

/-- 'spindlelaw03.NalEncodes', WHERE WHAT IT READS IS OF BULK AT MOST 1048576: true; the input reads as it did. -/
def nalEncodesUptoRow : OpenClaim := { program := "ytpakamobancgeaa", sum := "0336005dfaaa948367254741aeef8c8d616cb71d418ef3a6fa5047586d629684", func := "spindle/spindlelaw03.NalEncodes", spec := "nalEncodes", unfollowed := true, recurses := true, apart := false, narrowed := true }
def NalEncodesUptoSaid : Prop := nalEncodesUptoRow.holds Try.pinned (OpenSpec.upto nalEncodesSpec)

/-- 'spindlelaw03.NalLengths', WHERE WHAT IT READS IS OF BULK AT MOST 1048576: true; the input reads as it did. -/
def nalLengthsUptoRow : OpenClaim := { program := "ytpakamobancgeaa", sum := "0336005dfaaa948367254741aeef8c8d616cb71d418ef3a6fa5047586d629684", func := "spindle/spindlelaw03.NalLengths", spec := "nalLengths", unfollowed := true, recurses := true, apart := false, narrowed := true }
def NalLengthsUptoSaid : Prop := nalLengthsUptoRow.holds Try.pinned (OpenSpec.upto nalLengthsSpec)

/-- 'spindlelaw03.NalParts', WHERE WHAT IT READS IS OF BULK AT MOST 1048576: true; the input reads as it did. -/
def nalPartsUptoRow : OpenClaim := { program := "ytpakamobancgeaa", sum := "0336005dfaaa948367254741aeef8c8d616cb71d418ef3a6fa5047586d629684", func := "spindle/spindlelaw03.NalParts", spec := "nalParts", unfollowed := true, recurses := true, apart := false, narrowed := true }
def NalPartsUptoSaid : Prop := nalPartsUptoRow.holds Try.pinned (OpenSpec.upto nalPartsSpec)

/-- 'spindlelaw03.NalZeros', WHERE WHAT IT READS IS OF BULK AT MOST 1048576: true; the input reads as it did. -/
def nalZerosUptoRow : OpenClaim := { program := "ytpakamobancgeaa", sum := "0336005dfaaa948367254741aeef8c8d616cb71d418ef3a6fa5047586d629684", func := "spindle/spindlelaw03.NalZeros", spec := "nalZeros", unfollowed := true, recurses := true, apart := false, narrowed := true }
def NalZerosUptoSaid : Prop := nalZerosUptoRow.holds Try.pinned (OpenSpec.upto nalZerosSpec)

/-- 'spindlelaw03.NalBack', WHERE WHAT IT READS IS OF BULK AT MOST 1048576: true; the input reads as it did. -/
def nalBackUptoRow : OpenClaim := { program := "ytpakamobancgeaa", sum := "0336005dfaaa948367254741aeef8c8d616cb71d418ef3a6fa5047586d629684", func := "spindle/spindlelaw03.NalBack", spec := "nalBack", unfollowed := true, recurses := true, apart := false, narrowed := true }
def NalBackUptoSaid : Prop := nalBackUptoRow.holds Try.pinned (OpenSpec.upto nalBackSpec)

/-- 'spindlelaw03.NalMatches', WHERE WHAT IT READS IS OF BULK AT MOST 1048576: true; the input reads as it did. -/
def nalMatchesUptoRow : OpenClaim := { program := "ytpakamobancgeaa", sum := "0336005dfaaa948367254741aeef8c8d616cb71d418ef3a6fa5047586d629684", func := "spindle/spindlelaw03.NalMatches", spec := "nalMatches", unfollowed := true, recurses := true, apart := false, narrowed := true }
def NalMatchesUptoSaid : Prop := nalMatchesUptoRow.holds Try.pinned (OpenSpec.upto nalMatchesSpec)

/-- 'spindlelaw03.NalExamples', WHERE WHAT IT READS IS OF BULK AT MOST 1048576: true; the input reads as it did. -/
def nalExamplesUptoRow : OpenClaim := { program := "ytpakamobancgeaa", sum := "0336005dfaaa948367254741aeef8c8d616cb71d418ef3a6fa5047586d629684", func := "spindle/spindlelaw03.NalExamples", spec := "nalExamples", unfollowed := true, recurses := true, apart := false, narrowed := true }
def NalExamplesUptoSaid : Prop := nalExamplesUptoRow.holds Try.pinned (OpenSpec.upto nalExamplesSpec)

/-- 'spindlelaw03.NalUnits', WHERE WHAT IT READS IS OF BULK AT MOST 1048576: true; the input reads as it did. -/
def nalUnitsUptoRow : OpenClaim := { program := "ytpakamobancgeaa", sum := "0336005dfaaa948367254741aeef8c8d616cb71d418ef3a6fa5047586d629684", func := "spindle/spindlelaw03.NalUnits", spec := "nalUnits", unfollowed := true, recurses := true, apart := false, narrowed := true }
def NalUnitsUptoSaid : Prop := nalUnitsUptoRow.holds Try.pinned (OpenSpec.upto nalUnitsSpec)

end Rows
end Go.Proofs.Ytpakamobancgeaa
