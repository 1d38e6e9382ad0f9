/-
  DERIVED. GIVEN WITH THE SEED: THE CARDS: each row of YteeeabnfgpolgaaDoorRows.lean that lists a variable, with what it lists TIED to the program's text (the seventh form; the later family's looks); each row that meets fmt, with fmt's text TOLD by the authors' own Lean function (tested against real Go, not proved from fmt's source: count such statements apart). THE CARD IS WHAT COUNTS. Prove the row's statement (the work); the ties are given (YteeeabnfgpolgaaDoorTie.lean); close each card by the builder's one call (the guide's Derived/Test/ToyasCard.lean, 'card_holds'). Laid BY PROGRAM, IN A SANDBOX (cutbox-door.mjs). By AI agents, Wed Nov 11 2026. No macro, syntax, notation, axiom, sorry.
-/
import Derived.Test.YteeeabnfgpolgaaDoorRows
import GoSem.ClaimSeven
namespace Go.Proofs.YteeeabnfgpolgaaDoor
namespace Rows

/-- THE TIED CARD OF 'spindlelaw13.MbChecks'. -/
def mbChecksCard : Claim7 := { stood := { row := mbChecksRow, standIns := [], harness := (true, "c4595509cbb9a86babfa98fa4542a0238fff0c19ac82e59bb02f37c4e60ed658"), looks := false }, kinds := [], alts := [], laidByText := true, laidKinds := [.data, .data], laidTests := true, laidLooks := .later }
def MbChecksCardSaid : Prop := Claim7.holds Tryd.pinned (.plain (OpenSpec.ofChange mbChecksSpec)) mbChecksCard

/-- THE TIED CARD OF 'spindlelaw13.MbSpoils'. -/
def mbSpoilsCard : Claim7 := { stood := { row := mbSpoilsRow, standIns := [], harness := (true, "c4595509cbb9a86babfa98fa4542a0238fff0c19ac82e59bb02f37c4e60ed658"), looks := false }, kinds := [], alts := [], laidByText := true, laidKinds := [.data, .data], laidTests := true, laidLooks := .later }
def MbSpoilsCardSaid : Prop := Claim7.holds Tryd.pinned (.plain (OpenSpec.ofChange mbSpoilsSpec)) mbSpoilsCard

/-- THE TIED CARD OF 'spindlelaw13.MbWider'. -/
def mbWiderCard : Claim7 := { stood := { row := mbWiderRow, standIns := [], harness := (true, "c4595509cbb9a86babfa98fa4542a0238fff0c19ac82e59bb02f37c4e60ed658"), looks := false }, kinds := [], alts := [], laidByText := true, laidKinds := [.data, .data], laidTests := true, laidLooks := .later }
def MbWiderCardSaid : Prop := Claim7.holds Tryd.pinned (.plain (OpenSpec.ofChange mbWiderSpec)) mbWiderCard

/-- THE TIED CARD OF 'spindlelaw13.MbExamples'. -/
def mbExamplesCard : Claim7 := { stood := { row := mbExamplesRow, standIns := [], harness := (true, "c4595509cbb9a86babfa98fa4542a0238fff0c19ac82e59bb02f37c4e60ed658"), looks := false }, kinds := [], alts := [], laidByText := true, laidKinds := [.data, .data], laidTests := true, laidLooks := .later }
def MbExamplesCardSaid : Prop := Claim7.holds Tryd.pinned (.plain (OpenSpec.ofChange mbExamplesSpec)) mbExamplesCard

/-- THE TIED CARD OF 'spindlelaw13.MbLists'. -/
def mbListsCard : Claim7 := { stood := { row := mbListsRow, standIns := [], harness := (true, "c4595509cbb9a86babfa98fa4542a0238fff0c19ac82e59bb02f37c4e60ed658"), looks := false }, kinds := [], alts := [], laidByText := true, laidKinds := [.data, .data], laidTests := true, laidLooks := .later }
def MbListsCardSaid : Prop := Claim7.holds Tryd.pinned (.plain (OpenSpec.ofChange mbListsSpec)) mbListsCard

/-- THE TIED CARD OF 'spindlelaw13.MbEquals'. -/
def mbEqualsCard : Claim7 := { stood := { row := mbEqualsRow, standIns := [], harness := (true, "c4595509cbb9a86babfa98fa4542a0238fff0c19ac82e59bb02f37c4e60ed658"), looks := false }, kinds := [], alts := [], laidByText := true, laidKinds := [.data, .data], laidTests := true, laidLooks := .later }
def MbEqualsCardSaid : Prop := Claim7.holds Tryd.pinned (.plain (OpenSpec.ofChange mbEqualsSpec)) mbEqualsCard

/-- THE TIED CARD OF 'spindlelaw33.ElemsMatches'. -/
def elemsMatchesCard : Claim7 := { stood := { row := elemsMatchesRow, standIns := [], harness := (true, "c4595509cbb9a86babfa98fa4542a0238fff0c19ac82e59bb02f37c4e60ed658"), looks := false }, kinds := [], alts := [], laidByText := true, laidKinds := [.funcs], laidTests := true, laidLooks := .later }
def ElemsMatchesCardSaid : Prop := Claim7.holds Tryd.pinned (.plain (OpenSpec.ofChange elemsMatchesSpec)) elemsMatchesCard

/-- THE TIED CARD OF 'spindlelaw33.ElemsCopies'. -/
def elemsCopiesCard : Claim7 := { stood := { row := elemsCopiesRow, standIns := [], harness := (true, "c4595509cbb9a86babfa98fa4542a0238fff0c19ac82e59bb02f37c4e60ed658"), looks := false }, kinds := [], alts := [], laidByText := true, laidKinds := [.funcs], laidTests := true, laidLooks := .later }
def ElemsCopiesCardSaid : Prop := Claim7.holds Tryd.pinned (.plain (OpenSpec.ofChange elemsCopiesSpec)) elemsCopiesCard

/-- THE TIED CARD OF 'spindlelaw33.ElemsExamples'. -/
def elemsExamplesCard : Claim7 := { stood := { row := elemsExamplesRow, standIns := [], harness := (true, "c4595509cbb9a86babfa98fa4542a0238fff0c19ac82e59bb02f37c4e60ed658"), looks := false }, kinds := [], alts := [], laidByText := true, laidKinds := [.funcs], laidTests := true, laidLooks := .later }
def ElemsExamplesCardSaid : Prop := Claim7.holds Tryd.pinned (.plain (OpenSpec.ofChange elemsExamplesSpec)) elemsExamplesCard

/-- THE TIED CARD OF 'spindlelaw33.ElemsOnce'. -/
def elemsOnceCard : Claim7 := { stood := { row := elemsOnceRow, standIns := [], harness := (true, "c4595509cbb9a86babfa98fa4542a0238fff0c19ac82e59bb02f37c4e60ed658"), looks := false }, kinds := [], alts := [], laidByText := true, laidKinds := [.funcs], laidTests := true, laidLooks := .later }
def ElemsOnceCardSaid : Prop := Claim7.holds Tryd.pinned (.plain (OpenSpec.ofChange elemsOnceSpec)) elemsOnceCard

/-- THE TIED CARD OF 'spindlelaw33.ElemsRelated'. -/
def elemsRelatedCard : Claim7 := { stood := { row := elemsRelatedRow, standIns := [], harness := (true, "c4595509cbb9a86babfa98fa4542a0238fff0c19ac82e59bb02f37c4e60ed658"), looks := false }, kinds := [], alts := [], laidByText := true, laidKinds := [.funcs], laidTests := true, laidLooks := .later }
def ElemsRelatedCardSaid : Prop := Claim7.holds Tryd.pinned (.plain (OpenSpec.ofChange elemsRelatedSpec)) elemsRelatedCard

/-- THE TIED CARD OF 'spindlelaw33.ElemsEach'. -/
def elemsEachCard : Claim7 := { stood := { row := elemsEachRow, standIns := [], harness := (true, "c4595509cbb9a86babfa98fa4542a0238fff0c19ac82e59bb02f37c4e60ed658"), looks := false }, kinds := [], alts := [], laidByText := true, laidKinds := [.funcs], laidTests := true, laidLooks := .later }
def ElemsEachCardSaid : Prop := Claim7.holds Tryd.pinned (.plain (OpenSpec.ofChange elemsEachSpec)) elemsEachCard

/-- THE SECOND FORM's CARD OF 'spindlelaw13.MbChecks'. -/
def mbChecksUptoCard : Claim7 := { stood := { row := mbChecksUptoRow, standIns := [], harness := (true, "c4595509cbb9a86babfa98fa4542a0238fff0c19ac82e59bb02f37c4e60ed658"), looks := false }, kinds := [], alts := [], laidByText := true, laidKinds := [.data, .data], laidTests := true, laidLooks := .later }
def MbChecksUptoCardSaid : Prop := Claim7.holds Tryd.pinned (.plain (OpenSpec.upto mbChecksSpec)) mbChecksUptoCard

/-- THE SECOND FORM's CARD OF 'spindlelaw13.MbSpoils'. -/
def mbSpoilsUptoCard : Claim7 := { stood := { row := mbSpoilsUptoRow, standIns := [], harness := (true, "c4595509cbb9a86babfa98fa4542a0238fff0c19ac82e59bb02f37c4e60ed658"), looks := false }, kinds := [], alts := [], laidByText := true, laidKinds := [.data, .data], laidTests := true, laidLooks := .later }
def MbSpoilsUptoCardSaid : Prop := Claim7.holds Tryd.pinned (.plain (OpenSpec.upto mbSpoilsSpec)) mbSpoilsUptoCard

/-- THE SECOND FORM's CARD OF 'spindlelaw13.MbWider'. -/
def mbWiderUptoCard : Claim7 := { stood := { row := mbWiderUptoRow, standIns := [], harness := (true, "c4595509cbb9a86babfa98fa4542a0238fff0c19ac82e59bb02f37c4e60ed658"), looks := false }, kinds := [], alts := [], laidByText := true, laidKinds := [.data, .data], laidTests := true, laidLooks := .later }
def MbWiderUptoCardSaid : Prop := Claim7.holds Tryd.pinned (.plain (OpenSpec.upto mbWiderSpec)) mbWiderUptoCard

/-- THE SECOND FORM's CARD OF 'spindlelaw13.MbExamples'. -/
def mbExamplesUptoCard : Claim7 := { stood := { row := mbExamplesUptoRow, standIns := [], harness := (true, "c4595509cbb9a86babfa98fa4542a0238fff0c19ac82e59bb02f37c4e60ed658"), looks := false }, kinds := [], alts := [], laidByText := true, laidKinds := [.data, .data], laidTests := true, laidLooks := .later }
def MbExamplesUptoCardSaid : Prop := Claim7.holds Tryd.pinned (.plain (OpenSpec.upto mbExamplesSpec)) mbExamplesUptoCard

/-- THE SECOND FORM's CARD OF 'spindlelaw13.MbLists'. -/
def mbListsUptoCard : Claim7 := { stood := { row := mbListsUptoRow, standIns := [], harness := (true, "c4595509cbb9a86babfa98fa4542a0238fff0c19ac82e59bb02f37c4e60ed658"), looks := false }, kinds := [], alts := [], laidByText := true, laidKinds := [.data, .data], laidTests := true, laidLooks := .later }
def MbListsUptoCardSaid : Prop := Claim7.holds Tryd.pinned (.plain (OpenSpec.upto mbListsSpec)) mbListsUptoCard

/-- THE SECOND FORM's CARD OF 'spindlelaw13.MbEquals'. -/
def mbEqualsUptoCard : Claim7 := { stood := { row := mbEqualsUptoRow, standIns := [], harness := (true, "c4595509cbb9a86babfa98fa4542a0238fff0c19ac82e59bb02f37c4e60ed658"), looks := false }, kinds := [], alts := [], laidByText := true, laidKinds := [.data, .data], laidTests := true, laidLooks := .later }
def MbEqualsUptoCardSaid : Prop := Claim7.holds Tryd.pinned (.plain (OpenSpec.upto mbEqualsSpec)) mbEqualsUptoCard

/-- THE SECOND FORM's CARD OF 'spindlelaw33.ElemsMatches'. -/
def elemsMatchesUptoCard : Claim7 := { stood := { row := elemsMatchesUptoRow, standIns := [], harness := (true, "c4595509cbb9a86babfa98fa4542a0238fff0c19ac82e59bb02f37c4e60ed658"), looks := false }, kinds := [], alts := [], laidByText := true, laidKinds := [.funcs], laidTests := true, laidLooks := .later }
def ElemsMatchesUptoCardSaid : Prop := Claim7.holds Tryd.pinned (.plain (OpenSpec.upto elemsMatchesSpec)) elemsMatchesUptoCard

/-- THE SECOND FORM's CARD OF 'spindlelaw33.ElemsCopies'. -/
def elemsCopiesUptoCard : Claim7 := { stood := { row := elemsCopiesUptoRow, standIns := [], harness := (true, "c4595509cbb9a86babfa98fa4542a0238fff0c19ac82e59bb02f37c4e60ed658"), looks := false }, kinds := [], alts := [], laidByText := true, laidKinds := [.funcs], laidTests := true, laidLooks := .later }
def ElemsCopiesUptoCardSaid : Prop := Claim7.holds Tryd.pinned (.plain (OpenSpec.upto elemsCopiesSpec)) elemsCopiesUptoCard

/-- THE SECOND FORM's CARD OF 'spindlelaw33.ElemsExamples'. -/
def elemsExamplesUptoCard : Claim7 := { stood := { row := elemsExamplesUptoRow, standIns := [], harness := (true, "c4595509cbb9a86babfa98fa4542a0238fff0c19ac82e59bb02f37c4e60ed658"), looks := false }, kinds := [], alts := [], laidByText := true, laidKinds := [.funcs], laidTests := true, laidLooks := .later }
def ElemsExamplesUptoCardSaid : Prop := Claim7.holds Tryd.pinned (.plain (OpenSpec.upto elemsExamplesSpec)) elemsExamplesUptoCard

/-- THE SECOND FORM's CARD OF 'spindlelaw33.ElemsOnce'. -/
def elemsOnceUptoCard : Claim7 := { stood := { row := elemsOnceUptoRow, standIns := [], harness := (true, "c4595509cbb9a86babfa98fa4542a0238fff0c19ac82e59bb02f37c4e60ed658"), looks := false }, kinds := [], alts := [], laidByText := true, laidKinds := [.funcs], laidTests := true, laidLooks := .later }
def ElemsOnceUptoCardSaid : Prop := Claim7.holds Tryd.pinned (.plain (OpenSpec.upto elemsOnceSpec)) elemsOnceUptoCard

/-- THE SECOND FORM's CARD OF 'spindlelaw33.ElemsRelated'. -/
def elemsRelatedUptoCard : Claim7 := { stood := { row := elemsRelatedUptoRow, standIns := [], harness := (true, "c4595509cbb9a86babfa98fa4542a0238fff0c19ac82e59bb02f37c4e60ed658"), looks := false }, kinds := [], alts := [], laidByText := true, laidKinds := [.funcs], laidTests := true, laidLooks := .later }
def ElemsRelatedUptoCardSaid : Prop := Claim7.holds Tryd.pinned (.plain (OpenSpec.upto elemsRelatedSpec)) elemsRelatedUptoCard

/-- THE SECOND FORM's CARD OF 'spindlelaw33.ElemsEach'. -/
def elemsEachUptoCard : Claim7 := { stood := { row := elemsEachUptoRow, standIns := [], harness := (true, "c4595509cbb9a86babfa98fa4542a0238fff0c19ac82e59bb02f37c4e60ed658"), looks := false }, kinds := [], alts := [], laidByText := true, laidKinds := [.funcs], laidTests := true, laidLooks := .later }
def ElemsEachUptoCardSaid : Prop := Claim7.holds Tryd.pinned (.plain (OpenSpec.upto elemsEachSpec)) elemsEachUptoCard
end Rows
end Go.Proofs.YteeeabnfgpolgaaDoor
