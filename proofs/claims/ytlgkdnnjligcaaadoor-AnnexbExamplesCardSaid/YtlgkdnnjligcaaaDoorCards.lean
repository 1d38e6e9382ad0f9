/-
  DERIVED. GIVEN WITH THE SEED: THE CARDS: each row of YtlgkdnnjligcaaaDoorRows.lean that lists a variable, with what it lists TIED to the program's text (the seventh form; the later family's looks); each row that meets fmt, with fmt's text TOLD by the authors' own Lean function (tested against real Go, not proved from fmt's source: count such statements apart). THE CARD IS WHAT COUNTS. Prove the row's statement (the work); the ties are given (YtlgkdnnjligcaaaDoorTie.lean); close each card by the builder's one call (the guide's Derived/Test/ToyasCard.lean, 'card_holds'). Laid BY PROGRAM, IN A SANDBOX (cutbox-door.mjs). By AI agents, Wed Nov 11 2026. No macro, syntax, notation, axiom, sorry.
-/
import Derived.Test.YtlgkdnnjligcaaaDoorRows
import GoSem.ClaimSeven
namespace Go.Proofs.YtlgkdnnjligcaaaDoor
namespace Rows

/-- THE TIED CARD OF 'spindlelaw04.AnnexbSplits'. -/
def annexbSplitsCard : Claim7 := { stood := { row := annexbSplitsRow, standIns := [], harness := (true, "52367cf25e094ea715ceeef4751093b9f97a8c45a009b61517ffd7b420c776ed"), looks := false }, kinds := [], alts := [], laidByText := true, laidKinds := [.data, .pinned], laidTests := true, laidLooks := .later }
def AnnexbSplitsCardSaid : Prop := Claim7.holds Tryd.pinned (.plain (OpenSpec.ofChange annexbSplitsSpec)) annexbSplitsCard

/-- THE TIED CARD OF 'spindlelaw04.AnnexbJoins'. -/
def annexbJoinsCard : Claim7 := { stood := { row := annexbJoinsRow, standIns := [], harness := (true, "52367cf25e094ea715ceeef4751093b9f97a8c45a009b61517ffd7b420c776ed"), looks := false }, kinds := [], alts := [], laidByText := true, laidKinds := [.data, .pinned], laidTests := true, laidLooks := .later }
def AnnexbJoinsCardSaid : Prop := Claim7.holds Tryd.pinned (.plain (OpenSpec.ofChange annexbJoinsSpec)) annexbJoinsCard

/-- THE TIED CARD OF 'spindlelaw04.AnnexbExamples'. -/
def annexbExamplesCard : Claim7 := { stood := { row := annexbExamplesRow, standIns := [], harness := (true, "52367cf25e094ea715ceeef4751093b9f97a8c45a009b61517ffd7b420c776ed"), looks := false }, kinds := [], alts := [], laidByText := true, laidKinds := [.data, .pinned], laidTests := true, laidLooks := .later }
def AnnexbExamplesCardSaid : Prop := Claim7.holds Tryd.pinned (.plain (OpenSpec.ofChange annexbExamplesSpec)) annexbExamplesCard

/-- THE TIED CARD OF 'spindlelaw04.AnnexbLongest'. -/
def annexbLongestCard : Claim7 := { stood := { row := annexbLongestRow, standIns := [], harness := (true, "52367cf25e094ea715ceeef4751093b9f97a8c45a009b61517ffd7b420c776ed"), looks := false }, kinds := [], alts := [], laidByText := true, laidKinds := [.data, .pinned], laidTests := true, laidLooks := .later }
def AnnexbLongestCardSaid : Prop := Claim7.holds Tryd.pinned (.plain (OpenSpec.ofChange annexbLongestSpec)) annexbLongestCard

/-- THE TIED CARD OF 'spindlelaw04.AnnexbBack'. -/
def annexbBackCard : Claim7 := { stood := { row := annexbBackRow, standIns := [], harness := (true, "52367cf25e094ea715ceeef4751093b9f97a8c45a009b61517ffd7b420c776ed"), looks := false }, kinds := [], alts := [], laidByText := true, laidKinds := [.data, .pinned], laidTests := true, laidLooks := .later }
def AnnexbBackCardSaid : Prop := Claim7.holds Tryd.pinned (.plain (OpenSpec.ofChange annexbBackSpec)) annexbBackCard

/-- THE TIED CARD OF 'spindlelaw04.AnnexbCanonical'. -/
def annexbCanonicalCard : Claim7 := { stood := { row := annexbCanonicalRow, standIns := [], harness := (true, "52367cf25e094ea715ceeef4751093b9f97a8c45a009b61517ffd7b420c776ed"), looks := false }, kinds := [], alts := [], laidByText := true, laidKinds := [.data, .pinned], laidTests := true, laidLooks := .later }
def AnnexbCanonicalCardSaid : Prop := Claim7.holds Tryd.pinned (.plain (OpenSpec.ofChange annexbCanonicalSpec)) annexbCanonicalCard

/-- THE TIED CARD OF 'spindlelaw04.AnnexbMore'. -/
def annexbMoreCard : Claim7 := { stood := { row := annexbMoreRow, standIns := [], harness := (true, "52367cf25e094ea715ceeef4751093b9f97a8c45a009b61517ffd7b420c776ed"), looks := false }, kinds := [], alts := [], laidByText := true, laidKinds := [.data, .pinned], laidTests := true, laidLooks := .later }
def AnnexbMoreCardSaid : Prop := Claim7.holds Tryd.pinned (.plain (OpenSpec.ofChange annexbMoreSpec)) annexbMoreCard

/-- THE TIED CARD OF 'spindlelaw04.AnnexbOdd'. -/
def annexbOddCard : Claim7 := { stood := { row := annexbOddRow, standIns := [], harness := (true, "52367cf25e094ea715ceeef4751093b9f97a8c45a009b61517ffd7b420c776ed"), looks := false }, kinds := [], alts := [], laidByText := true, laidKinds := [.data, .pinned], laidTests := true, laidLooks := .later }
def AnnexbOddCardSaid : Prop := Claim7.holds Tryd.pinned (.plain (OpenSpec.ofChange annexbOddSpec)) annexbOddCard

/-- THE SECOND FORM's CARD OF 'spindlelaw04.AnnexbSplits'. -/
def annexbSplitsUptoCard : Claim7 := { stood := { row := annexbSplitsUptoRow, standIns := [], harness := (true, "52367cf25e094ea715ceeef4751093b9f97a8c45a009b61517ffd7b420c776ed"), looks := false }, kinds := [], alts := [], laidByText := true, laidKinds := [.data, .pinned], laidTests := true, laidLooks := .later }
def AnnexbSplitsUptoCardSaid : Prop := Claim7.holds Tryd.pinned (.plain (OpenSpec.upto annexbSplitsSpec)) annexbSplitsUptoCard

/-- THE SECOND FORM's CARD OF 'spindlelaw04.AnnexbJoins'. -/
def annexbJoinsUptoCard : Claim7 := { stood := { row := annexbJoinsUptoRow, standIns := [], harness := (true, "52367cf25e094ea715ceeef4751093b9f97a8c45a009b61517ffd7b420c776ed"), looks := false }, kinds := [], alts := [], laidByText := true, laidKinds := [.data, .pinned], laidTests := true, laidLooks := .later }
def AnnexbJoinsUptoCardSaid : Prop := Claim7.holds Tryd.pinned (.plain (OpenSpec.upto annexbJoinsSpec)) annexbJoinsUptoCard

/-- THE SECOND FORM's CARD OF 'spindlelaw04.AnnexbExamples'. -/
def annexbExamplesUptoCard : Claim7 := { stood := { row := annexbExamplesUptoRow, standIns := [], harness := (true, "52367cf25e094ea715ceeef4751093b9f97a8c45a009b61517ffd7b420c776ed"), looks := false }, kinds := [], alts := [], laidByText := true, laidKinds := [.data, .pinned], laidTests := true, laidLooks := .later }
def AnnexbExamplesUptoCardSaid : Prop := Claim7.holds Tryd.pinned (.plain (OpenSpec.upto annexbExamplesSpec)) annexbExamplesUptoCard

/-- THE SECOND FORM's CARD OF 'spindlelaw04.AnnexbLongest'. -/
def annexbLongestUptoCard : Claim7 := { stood := { row := annexbLongestUptoRow, standIns := [], harness := (true, "52367cf25e094ea715ceeef4751093b9f97a8c45a009b61517ffd7b420c776ed"), looks := false }, kinds := [], alts := [], laidByText := true, laidKinds := [.data, .pinned], laidTests := true, laidLooks := .later }
def AnnexbLongestUptoCardSaid : Prop := Claim7.holds Tryd.pinned (.plain (OpenSpec.upto annexbLongestSpec)) annexbLongestUptoCard

/-- THE SECOND FORM's CARD OF 'spindlelaw04.AnnexbBack'. -/
def annexbBackUptoCard : Claim7 := { stood := { row := annexbBackUptoRow, standIns := [], harness := (true, "52367cf25e094ea715ceeef4751093b9f97a8c45a009b61517ffd7b420c776ed"), looks := false }, kinds := [], alts := [], laidByText := true, laidKinds := [.data, .pinned], laidTests := true, laidLooks := .later }
def AnnexbBackUptoCardSaid : Prop := Claim7.holds Tryd.pinned (.plain (OpenSpec.upto annexbBackSpec)) annexbBackUptoCard

/-- THE SECOND FORM's CARD OF 'spindlelaw04.AnnexbCanonical'. -/
def annexbCanonicalUptoCard : Claim7 := { stood := { row := annexbCanonicalUptoRow, standIns := [], harness := (true, "52367cf25e094ea715ceeef4751093b9f97a8c45a009b61517ffd7b420c776ed"), looks := false }, kinds := [], alts := [], laidByText := true, laidKinds := [.data, .pinned], laidTests := true, laidLooks := .later }
def AnnexbCanonicalUptoCardSaid : Prop := Claim7.holds Tryd.pinned (.plain (OpenSpec.upto annexbCanonicalSpec)) annexbCanonicalUptoCard

/-- THE SECOND FORM's CARD OF 'spindlelaw04.AnnexbMore'. -/
def annexbMoreUptoCard : Claim7 := { stood := { row := annexbMoreUptoRow, standIns := [], harness := (true, "52367cf25e094ea715ceeef4751093b9f97a8c45a009b61517ffd7b420c776ed"), looks := false }, kinds := [], alts := [], laidByText := true, laidKinds := [.data, .pinned], laidTests := true, laidLooks := .later }
def AnnexbMoreUptoCardSaid : Prop := Claim7.holds Tryd.pinned (.plain (OpenSpec.upto annexbMoreSpec)) annexbMoreUptoCard

/-- THE SECOND FORM's CARD OF 'spindlelaw04.AnnexbOdd'. -/
def annexbOddUptoCard : Claim7 := { stood := { row := annexbOddUptoRow, standIns := [], harness := (true, "52367cf25e094ea715ceeef4751093b9f97a8c45a009b61517ffd7b420c776ed"), looks := false }, kinds := [], alts := [], laidByText := true, laidKinds := [.data, .pinned], laidTests := true, laidLooks := .later }
def AnnexbOddUptoCardSaid : Prop := Claim7.holds Tryd.pinned (.plain (OpenSpec.upto annexbOddSpec)) annexbOddUptoCard
end Rows
end Go.Proofs.YtlgkdnnjligcaaaDoor
