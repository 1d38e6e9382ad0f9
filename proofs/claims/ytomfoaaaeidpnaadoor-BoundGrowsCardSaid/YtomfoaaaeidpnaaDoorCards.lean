/-
  DERIVED. GIVEN WITH THE SEED: THE CARDS: each row of YtomfoaaaeidpnaaDoorRows.lean that lists a variable, with what it lists TIED to the program's text (the seventh form; the later family's looks); each row that meets fmt, with fmt's text TOLD by the authors' own Lean function (tested against real Go, not proved from fmt's source: count such statements apart). THE CARD IS WHAT COUNTS. Prove the row's statement (the work); the ties are given (YtomfoaaaeidpnaaDoorTie.lean); close each card by the builder's one call (the guide's Derived/Test/ToyasCard.lean, 'card_holds'). Laid BY PROGRAM, IN A SANDBOX (cutbox-door.mjs). By AI agents, Wed Nov 11 2026. No macro, syntax, notation, axiom, sorry.
-/
import Derived.Test.YtomfoaaaeidpnaaDoorRows
import GoSem.ClaimSeven
namespace Go.Proofs.YtomfoaaaeidpnaaDoor
namespace Rows

/-- THE TIED CARD OF 'spindlelaw38.BoundMatches'. -/
def boundMatchesCard : Claim7 := { stood := { row := boundMatchesRow, standIns := [], harness := (true, "923d45bd90ad394b4cdac22f458a61c746a13b0642fc0df32ef88f67e5dfba6e"), looks := false }, kinds := [], alts := [], laidByText := true, laidKinds := [.data, .data], laidTests := true, laidLooks := .later }
def BoundMatchesCardSaid : Prop := Claim7.holds Tryd.pinned (.plain (OpenSpec.ofChange boundMatchesSpec)) boundMatchesCard

/-- THE TIED CARD OF 'spindlelaw38.BoundGrows'. -/
def boundGrowsCard : Claim7 := { stood := { row := boundGrowsRow, standIns := [], harness := (true, "923d45bd90ad394b4cdac22f458a61c746a13b0642fc0df32ef88f67e5dfba6e"), looks := false }, kinds := [], alts := [], laidByText := true, laidKinds := [.data, .data], laidTests := true, laidLooks := .later }
def BoundGrowsCardSaid : Prop := Claim7.holds Tryd.pinned (.plain (OpenSpec.ofChange boundGrowsSpec)) boundGrowsCard

/-- THE TIED CARD OF 'spindlelaw38.BoundTrees'. -/
def boundTreesCard : Claim7 := { stood := { row := boundTreesRow, standIns := [], harness := (true, "923d45bd90ad394b4cdac22f458a61c746a13b0642fc0df32ef88f67e5dfba6e"), looks := false }, kinds := [], alts := [], laidByText := true, laidKinds := [.data, .data], laidTests := true, laidLooks := .later }
def BoundTreesCardSaid : Prop := Claim7.holds Tryd.pinned (.plain (OpenSpec.ofChange boundTreesSpec)) boundTreesCard

/-- THE TIED CARD OF 'spindlelaw38.BoundExamples'. -/
def boundExamplesCard : Claim7 := { stood := { row := boundExamplesRow, standIns := [], harness := (true, "923d45bd90ad394b4cdac22f458a61c746a13b0642fc0df32ef88f67e5dfba6e"), looks := false }, kinds := [], alts := [], laidByText := true, laidKinds := [.data, .data], laidTests := true, laidLooks := .later }
def BoundExamplesCardSaid : Prop := Claim7.holds Tryd.pinned (.plain (OpenSpec.ofChange boundExamplesSpec)) boundExamplesCard

/-- THE TIED CARD OF 'spindlelaw38.BoundSums'. -/
def boundSumsCard : Claim7 := { stood := { row := boundSumsRow, standIns := [], harness := (true, "923d45bd90ad394b4cdac22f458a61c746a13b0642fc0df32ef88f67e5dfba6e"), looks := false }, kinds := [], alts := [], laidByText := true, laidKinds := [.data, .data], laidTests := true, laidLooks := .later }
def BoundSumsCardSaid : Prop := Claim7.holds Tryd.pinned (.plain (OpenSpec.ofChange boundSumsSpec)) boundSumsCard

/-- THE TIED CARD OF 'spindlelaw40.ScriptMbs'. -/
def scriptMbsCard : Claim7 := { stood := { row := scriptMbsRow, standIns := [], harness := (true, "923d45bd90ad394b4cdac22f458a61c746a13b0642fc0df32ef88f67e5dfba6e"), looks := false }, kinds := [], alts := [], laidByText := true, laidKinds := [.data], laidTests := true, laidLooks := .later }
def ScriptMbsCardSaid : Prop := Claim7.holds Tryd.pinned (.plain (OpenSpec.ofChange scriptMbsSpec)) scriptMbsCard

/-- THE TIED CARD OF 'spindlelaw40.ScriptUsed'. -/
def scriptUsedCard : Claim7 := { stood := { row := scriptUsedRow, standIns := [], harness := (true, "923d45bd90ad394b4cdac22f458a61c746a13b0642fc0df32ef88f67e5dfba6e"), looks := false }, kinds := [], alts := [], laidByText := true, laidKinds := [.data], laidTests := true, laidLooks := .later }
def ScriptUsedCardSaid : Prop := Claim7.holds Tryd.pinned (.plain (OpenSpec.ofChange scriptUsedSpec)) scriptUsedCard

/-- THE TIED CARD OF 'spindlelaw40.ScriptSmall'. -/
def scriptSmallCard : Claim7 := { stood := { row := scriptSmallRow, standIns := [], harness := (true, "923d45bd90ad394b4cdac22f458a61c746a13b0642fc0df32ef88f67e5dfba6e"), looks := false }, kinds := [], alts := [], laidByText := true, laidKinds := [.data], laidTests := true, laidLooks := .later }
def ScriptSmallCardSaid : Prop := Claim7.holds Tryd.pinned (.plain (OpenSpec.ofChange scriptSmallSpec)) scriptSmallCard

/-- THE TIED CARD OF 'spindlelaw40.ScriptKinds'. -/
def scriptKindsCard : Claim7 := { stood := { row := scriptKindsRow, standIns := [], harness := (true, "923d45bd90ad394b4cdac22f458a61c746a13b0642fc0df32ef88f67e5dfba6e"), looks := false }, kinds := [], alts := [], laidByText := true, laidKinds := [.data], laidTests := true, laidLooks := .later }
def ScriptKindsCardSaid : Prop := Claim7.holds Tryd.pinned (.plain (OpenSpec.ofChange scriptKindsSpec)) scriptKindsCard

/-- THE TIED CARD OF 'spindlelaw40.ScriptMbValid'. -/
def scriptMbValidCard : Claim7 := { stood := { row := scriptMbValidRow, standIns := [], harness := (true, "923d45bd90ad394b4cdac22f458a61c746a13b0642fc0df32ef88f67e5dfba6e"), looks := false }, kinds := [], alts := [], laidByText := true, laidKinds := [.data, .data], laidTests := true, laidLooks := .later }
def ScriptMbValidCardSaid : Prop := Claim7.holds Tryd.pinned (.plain (OpenSpec.ofChange scriptMbValidSpec)) scriptMbValidCard

/-- THE TIED CARD OF 'spindlelaw40.ScriptReads'. -/
def scriptReadsCard : Claim7 := { stood := { row := scriptReadsRow, standIns := [], harness := (true, "923d45bd90ad394b4cdac22f458a61c746a13b0642fc0df32ef88f67e5dfba6e"), looks := false }, kinds := [], alts := [], laidByText := true, laidKinds := [.data], laidTests := true, laidLooks := .later }
def ScriptReadsCardSaid : Prop := Claim7.holds Tryd.pinned (.plain (OpenSpec.ofChange scriptReadsSpec)) scriptReadsCard

/-- THE TIED CARD OF 'spindlelaw40.ScriptExamples'. -/
def scriptExamplesCard : Claim7 := { stood := { row := scriptExamplesRow, standIns := [], harness := (true, "923d45bd90ad394b4cdac22f458a61c746a13b0642fc0df32ef88f67e5dfba6e"), looks := false }, kinds := [], alts := [], laidByText := true, laidKinds := [.data], laidTests := true, laidLooks := .later }
def ScriptExamplesCardSaid : Prop := Claim7.holds Tryd.pinned (.plain (OpenSpec.ofChange scriptExamplesSpec)) scriptExamplesCard

/-- THE TIED CARD OF 'spindlelaw40.ScriptMore'. -/
def scriptMoreCard : Claim7 := { stood := { row := scriptMoreRow, standIns := [], harness := (true, "923d45bd90ad394b4cdac22f458a61c746a13b0642fc0df32ef88f67e5dfba6e"), looks := false }, kinds := [], alts := [], laidByText := true, laidKinds := [.data], laidTests := true, laidLooks := .later }
def ScriptMoreCardSaid : Prop := Claim7.holds Tryd.pinned (.plain (OpenSpec.ofChange scriptMoreSpec)) scriptMoreCard

/-- THE TIED CARD OF 'spindlelaw40.ScriptModes'. -/
def scriptModesCard : Claim7 := { stood := { row := scriptModesRow, standIns := [], harness := (true, "923d45bd90ad394b4cdac22f458a61c746a13b0642fc0df32ef88f67e5dfba6e"), looks := false }, kinds := [], alts := [], laidByText := true, laidKinds := [.data], laidTests := true, laidLooks := .later }
def ScriptModesCardSaid : Prop := Claim7.holds Tryd.pinned (.plain (OpenSpec.ofChange scriptModesSpec)) scriptModesCard

/-- THE SECOND FORM's CARD OF 'spindlelaw38.BoundMatches'. -/
def boundMatchesUptoCard : Claim7 := { stood := { row := boundMatchesUptoRow, standIns := [], harness := (true, "923d45bd90ad394b4cdac22f458a61c746a13b0642fc0df32ef88f67e5dfba6e"), looks := false }, kinds := [], alts := [], laidByText := true, laidKinds := [.data, .data], laidTests := true, laidLooks := .later }
def BoundMatchesUptoCardSaid : Prop := Claim7.holds Tryd.pinned (.plain (OpenSpec.upto boundMatchesSpec)) boundMatchesUptoCard

/-- THE SECOND FORM's CARD OF 'spindlelaw38.BoundGrows'. -/
def boundGrowsUptoCard : Claim7 := { stood := { row := boundGrowsUptoRow, standIns := [], harness := (true, "923d45bd90ad394b4cdac22f458a61c746a13b0642fc0df32ef88f67e5dfba6e"), looks := false }, kinds := [], alts := [], laidByText := true, laidKinds := [.data, .data], laidTests := true, laidLooks := .later }
def BoundGrowsUptoCardSaid : Prop := Claim7.holds Tryd.pinned (.plain (OpenSpec.upto boundGrowsSpec)) boundGrowsUptoCard

/-- THE SECOND FORM's CARD OF 'spindlelaw38.BoundTrees'. -/
def boundTreesUptoCard : Claim7 := { stood := { row := boundTreesUptoRow, standIns := [], harness := (true, "923d45bd90ad394b4cdac22f458a61c746a13b0642fc0df32ef88f67e5dfba6e"), looks := false }, kinds := [], alts := [], laidByText := true, laidKinds := [.data, .data], laidTests := true, laidLooks := .later }
def BoundTreesUptoCardSaid : Prop := Claim7.holds Tryd.pinned (.plain (OpenSpec.upto boundTreesSpec)) boundTreesUptoCard

/-- THE SECOND FORM's CARD OF 'spindlelaw38.BoundExamples'. -/
def boundExamplesUptoCard : Claim7 := { stood := { row := boundExamplesUptoRow, standIns := [], harness := (true, "923d45bd90ad394b4cdac22f458a61c746a13b0642fc0df32ef88f67e5dfba6e"), looks := false }, kinds := [], alts := [], laidByText := true, laidKinds := [.data, .data], laidTests := true, laidLooks := .later }
def BoundExamplesUptoCardSaid : Prop := Claim7.holds Tryd.pinned (.plain (OpenSpec.upto boundExamplesSpec)) boundExamplesUptoCard

/-- THE SECOND FORM's CARD OF 'spindlelaw38.BoundSums'. -/
def boundSumsUptoCard : Claim7 := { stood := { row := boundSumsUptoRow, standIns := [], harness := (true, "923d45bd90ad394b4cdac22f458a61c746a13b0642fc0df32ef88f67e5dfba6e"), looks := false }, kinds := [], alts := [], laidByText := true, laidKinds := [.data, .data], laidTests := true, laidLooks := .later }
def BoundSumsUptoCardSaid : Prop := Claim7.holds Tryd.pinned (.plain (OpenSpec.upto boundSumsSpec)) boundSumsUptoCard

/-- THE SECOND FORM's CARD OF 'spindlelaw40.ScriptMbs'. -/
def scriptMbsUptoCard : Claim7 := { stood := { row := scriptMbsUptoRow, standIns := [], harness := (true, "923d45bd90ad394b4cdac22f458a61c746a13b0642fc0df32ef88f67e5dfba6e"), looks := false }, kinds := [], alts := [], laidByText := true, laidKinds := [.data], laidTests := true, laidLooks := .later }
def ScriptMbsUptoCardSaid : Prop := Claim7.holds Tryd.pinned (.plain (OpenSpec.upto scriptMbsSpec)) scriptMbsUptoCard

/-- THE SECOND FORM's CARD OF 'spindlelaw40.ScriptUsed'. -/
def scriptUsedUptoCard : Claim7 := { stood := { row := scriptUsedUptoRow, standIns := [], harness := (true, "923d45bd90ad394b4cdac22f458a61c746a13b0642fc0df32ef88f67e5dfba6e"), looks := false }, kinds := [], alts := [], laidByText := true, laidKinds := [.data], laidTests := true, laidLooks := .later }
def ScriptUsedUptoCardSaid : Prop := Claim7.holds Tryd.pinned (.plain (OpenSpec.upto scriptUsedSpec)) scriptUsedUptoCard

/-- THE SECOND FORM's CARD OF 'spindlelaw40.ScriptSmall'. -/
def scriptSmallUptoCard : Claim7 := { stood := { row := scriptSmallUptoRow, standIns := [], harness := (true, "923d45bd90ad394b4cdac22f458a61c746a13b0642fc0df32ef88f67e5dfba6e"), looks := false }, kinds := [], alts := [], laidByText := true, laidKinds := [.data], laidTests := true, laidLooks := .later }
def ScriptSmallUptoCardSaid : Prop := Claim7.holds Tryd.pinned (.plain (OpenSpec.upto scriptSmallSpec)) scriptSmallUptoCard

/-- THE SECOND FORM's CARD OF 'spindlelaw40.ScriptKinds'. -/
def scriptKindsUptoCard : Claim7 := { stood := { row := scriptKindsUptoRow, standIns := [], harness := (true, "923d45bd90ad394b4cdac22f458a61c746a13b0642fc0df32ef88f67e5dfba6e"), looks := false }, kinds := [], alts := [], laidByText := true, laidKinds := [.data], laidTests := true, laidLooks := .later }
def ScriptKindsUptoCardSaid : Prop := Claim7.holds Tryd.pinned (.plain (OpenSpec.upto scriptKindsSpec)) scriptKindsUptoCard

/-- THE SECOND FORM's CARD OF 'spindlelaw40.ScriptMbValid'. -/
def scriptMbValidUptoCard : Claim7 := { stood := { row := scriptMbValidUptoRow, standIns := [], harness := (true, "923d45bd90ad394b4cdac22f458a61c746a13b0642fc0df32ef88f67e5dfba6e"), looks := false }, kinds := [], alts := [], laidByText := true, laidKinds := [.data, .data], laidTests := true, laidLooks := .later }
def ScriptMbValidUptoCardSaid : Prop := Claim7.holds Tryd.pinned (.plain (OpenSpec.upto scriptMbValidSpec)) scriptMbValidUptoCard

/-- THE SECOND FORM's CARD OF 'spindlelaw40.ScriptReads'. -/
def scriptReadsUptoCard : Claim7 := { stood := { row := scriptReadsUptoRow, standIns := [], harness := (true, "923d45bd90ad394b4cdac22f458a61c746a13b0642fc0df32ef88f67e5dfba6e"), looks := false }, kinds := [], alts := [], laidByText := true, laidKinds := [.data], laidTests := true, laidLooks := .later }
def ScriptReadsUptoCardSaid : Prop := Claim7.holds Tryd.pinned (.plain (OpenSpec.upto scriptReadsSpec)) scriptReadsUptoCard

/-- THE SECOND FORM's CARD OF 'spindlelaw40.ScriptExamples'. -/
def scriptExamplesUptoCard : Claim7 := { stood := { row := scriptExamplesUptoRow, standIns := [], harness := (true, "923d45bd90ad394b4cdac22f458a61c746a13b0642fc0df32ef88f67e5dfba6e"), looks := false }, kinds := [], alts := [], laidByText := true, laidKinds := [.data], laidTests := true, laidLooks := .later }
def ScriptExamplesUptoCardSaid : Prop := Claim7.holds Tryd.pinned (.plain (OpenSpec.upto scriptExamplesSpec)) scriptExamplesUptoCard

/-- THE SECOND FORM's CARD OF 'spindlelaw40.ScriptMore'. -/
def scriptMoreUptoCard : Claim7 := { stood := { row := scriptMoreUptoRow, standIns := [], harness := (true, "923d45bd90ad394b4cdac22f458a61c746a13b0642fc0df32ef88f67e5dfba6e"), looks := false }, kinds := [], alts := [], laidByText := true, laidKinds := [.data], laidTests := true, laidLooks := .later }
def ScriptMoreUptoCardSaid : Prop := Claim7.holds Tryd.pinned (.plain (OpenSpec.upto scriptMoreSpec)) scriptMoreUptoCard

/-- THE SECOND FORM's CARD OF 'spindlelaw40.ScriptModes'. -/
def scriptModesUptoCard : Claim7 := { stood := { row := scriptModesUptoRow, standIns := [], harness := (true, "923d45bd90ad394b4cdac22f458a61c746a13b0642fc0df32ef88f67e5dfba6e"), looks := false }, kinds := [], alts := [], laidByText := true, laidKinds := [.data], laidTests := true, laidLooks := .later }
def ScriptModesUptoCardSaid : Prop := Claim7.holds Tryd.pinned (.plain (OpenSpec.upto scriptModesSpec)) scriptModesUptoCard
end Rows
end Go.Proofs.YtomfoaaaeidpnaaDoor
