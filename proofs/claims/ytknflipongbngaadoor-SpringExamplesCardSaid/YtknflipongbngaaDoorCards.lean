/-
  DERIVED. GIVEN WITH THE SEED: THE CARDS: each row of YtknflipongbngaaDoorRows.lean that lists a variable, with what it lists TIED to the program's text (the seventh form; the later family's looks); each row that meets fmt, with fmt's text TOLD by the authors' own Lean function (tested against real Go, not proved from fmt's source: count such statements apart). THE CARD IS WHAT COUNTS. Prove the row's statement (the work); the ties are given (YtknflipongbngaaDoorTie.lean); close each card by the builder's one call (the guide's Derived/Test/ToyasCard.lean, 'card_holds'). Laid BY PROGRAM, IN A SANDBOX (cutbox-door.mjs). By AI agents, Wed Nov 11 2026. No macro, syntax, notation, axiom, sorry.
-/
import Derived.Test.YtknflipongbngaaDoorRows
import GoSem.ClaimSeven
namespace Go.Proofs.YtknflipongbngaaDoor
namespace Rows

/-- THE TIED CARD OF 'aguadorlaw01.SpringTells'. -/
def springTellsCard : Claim7 := { stood := { row := springTellsRow, standIns := [], harness := (true, "cbc4ff95632dd8bf1f94b0296bd232dab52e33940a04deaa652700db042aaa60"), looks := false }, kinds := [], alts := [], laidByText := true, laidKinds := [.funcs, .data], laidTests := true, laidLooks := .later }
def SpringTellsCardSaid : Prop := Claim7.holds Tryd.pinned (.plain (OpenSpec.ofChange springTellsSpec)) springTellsCard

/-- THE TIED CARD OF 'aguadorlaw01.SpringReads'. -/
def springReadsCard : Claim7 := { stood := { row := springReadsRow, standIns := [], harness := (true, "cbc4ff95632dd8bf1f94b0296bd232dab52e33940a04deaa652700db042aaa60"), looks := false }, kinds := [], alts := [], laidByText := true, laidKinds := [.funcs, .data], laidTests := true, laidLooks := .later }
def SpringReadsCardSaid : Prop := Claim7.holds Tryd.pinned (.plain (OpenSpec.ofChange springReadsSpec)) springReadsCard

/-- THE TIED CARD OF 'aguadorlaw01.SpringChanges'. -/
def springChangesCard : Claim7 := { stood := { row := springChangesRow, standIns := [], harness := (true, "cbc4ff95632dd8bf1f94b0296bd232dab52e33940a04deaa652700db042aaa60"), looks := false }, kinds := [], alts := [], laidByText := true, laidKinds := [.funcs], laidTests := true, laidLooks := .later }
def SpringChangesCardSaid : Prop := Claim7.holds Tryd.pinned (.plain (OpenSpec.ofChange springChangesSpec)) springChangesCard

/-- THE TIED CARD OF 'aguadorlaw01.SpringFails'. -/
def springFailsCard : Claim7 := { stood := { row := springFailsRow, standIns := [], harness := (true, "cbc4ff95632dd8bf1f94b0296bd232dab52e33940a04deaa652700db042aaa60"), looks := false }, kinds := [], alts := [], laidByText := true, laidKinds := [.funcs, .data], laidTests := true, laidLooks := .later }
def SpringFailsCardSaid : Prop := Claim7.holds Tryd.pinned (.plain (OpenSpec.ofChange springFailsSpec)) springFailsCard

/-- THE TIED CARD OF 'aguadorlaw01.SpringTruth'. -/
def springTruthCard : Claim7 := { stood := { row := springTruthRow, standIns := [], harness := (true, "cbc4ff95632dd8bf1f94b0296bd232dab52e33940a04deaa652700db042aaa60"), looks := false }, kinds := [], alts := [], laidByText := true, laidKinds := [.funcs, .data], laidTests := true, laidLooks := .later }
def SpringTruthCardSaid : Prop := Claim7.holds Tryd.pinned (.plain (OpenSpec.ofChange springTruthSpec)) springTruthCard

/-- THE TIED CARD OF 'aguadorlaw01.SpringEnds'. -/
def springEndsCard : Claim7 := { stood := { row := springEndsRow, standIns := [], harness := (true, "cbc4ff95632dd8bf1f94b0296bd232dab52e33940a04deaa652700db042aaa60"), looks := false }, kinds := [], alts := [], laidByText := true, laidKinds := [.funcs, .data], laidTests := true, laidLooks := .later }
def SpringEndsCardSaid : Prop := Claim7.holds Tryd.pinned (.plain (OpenSpec.ofChange springEndsSpec)) springEndsCard

/-- THE TIED CARD OF 'aguadorlaw01.SpringWeeks'. -/
def springWeeksCard : Claim7 := { stood := { row := springWeeksRow, standIns := [], harness := (true, "cbc4ff95632dd8bf1f94b0296bd232dab52e33940a04deaa652700db042aaa60"), looks := false }, kinds := [], alts := [], laidByText := true, laidKinds := [.funcs, .data], laidTests := true, laidLooks := .later }
def SpringWeeksCardSaid : Prop := Claim7.holds Tryd.pinned (.plain (OpenSpec.ofChange springWeeksSpec)) springWeeksCard

/-- THE TIED CARD OF 'aguadorlaw01.SpringWrong'. -/
def springWrongCard : Claim7 := { stood := { row := springWrongRow, standIns := [], harness := (true, "cbc4ff95632dd8bf1f94b0296bd232dab52e33940a04deaa652700db042aaa60"), looks := false }, kinds := [], alts := [], laidByText := true, laidKinds := [.funcs, .data], laidTests := true, laidLooks := .later }
def SpringWrongCardSaid : Prop := Claim7.holds Tryd.pinned (.plain (OpenSpec.ofChange springWrongSpec)) springWrongCard

/-- THE TIED CARD OF 'aguadorlaw01.SpringFill'. -/
def springFillCard : Claim7 := { stood := { row := springFillRow, standIns := [], harness := (true, "cbc4ff95632dd8bf1f94b0296bd232dab52e33940a04deaa652700db042aaa60"), looks := false }, kinds := [], alts := [], laidByText := true, laidKinds := [.funcs, .data], laidTests := true, laidLooks := .later }
def SpringFillCardSaid : Prop := Claim7.holds Tryd.pinned (.plain (OpenSpec.ofChange springFillSpec)) springFillCard

/-- THE TIED CARD OF 'aguadorlaw01.SpringLook'. -/
def springLookCard : Claim7 := { stood := { row := springLookRow, standIns := [], harness := (true, "cbc4ff95632dd8bf1f94b0296bd232dab52e33940a04deaa652700db042aaa60"), looks := false }, kinds := [], alts := [], laidByText := true, laidKinds := [.funcs, .data], laidTests := true, laidLooks := .later }
def SpringLookCardSaid : Prop := Claim7.holds Tryd.pinned (.plain (OpenSpec.ofChange springLookSpec)) springLookCard

/-- THE TIED CARD OF 'aguadorlaw01.SpringRests'. -/
def springRestsCard : Claim7 := { stood := { row := springRestsRow, standIns := [], harness := (true, "cbc4ff95632dd8bf1f94b0296bd232dab52e33940a04deaa652700db042aaa60"), looks := false }, kinds := [], alts := [], laidByText := true, laidKinds := [.funcs, .data], laidTests := true, laidLooks := .later }
def SpringRestsCardSaid : Prop := Claim7.holds Tryd.pinned (.plain (OpenSpec.ofChange springRestsSpec)) springRestsCard

/-- THE TIED CARD OF 'aguadorlaw01.SpringExamples'. -/
def springExamplesCard : Claim7 := { stood := { row := springExamplesRow, standIns := [], harness := (true, "cbc4ff95632dd8bf1f94b0296bd232dab52e33940a04deaa652700db042aaa60"), looks := false }, kinds := [], alts := [], laidByText := true, laidKinds := [.funcs, .data], laidTests := true, laidLooks := .later }
def SpringExamplesCardSaid : Prop := Claim7.holds Tryd.pinned (.plain (OpenSpec.ofChange springExamplesSpec)) springExamplesCard

/-- THE TIED CARD OF 'aguadorlaw01.SpringMore'. -/
def springMoreCard : Claim7 := { stood := { row := springMoreRow, standIns := [], harness := (true, "cbc4ff95632dd8bf1f94b0296bd232dab52e33940a04deaa652700db042aaa60"), looks := false }, kinds := [], alts := [], laidByText := true, laidKinds := [.funcs, .data], laidTests := true, laidLooks := .later }
def SpringMoreCardSaid : Prop := Claim7.holds Tryd.pinned (.plain (OpenSpec.ofChange springMoreSpec)) springMoreCard

/-- THE SECOND FORM's CARD OF 'aguadorlaw01.SpringTells'. -/
def springTellsUptoCard : Claim7 := { stood := { row := springTellsUptoRow, standIns := [], harness := (true, "cbc4ff95632dd8bf1f94b0296bd232dab52e33940a04deaa652700db042aaa60"), looks := false }, kinds := [], alts := [], laidByText := true, laidKinds := [.funcs, .data], laidTests := true, laidLooks := .later }
def SpringTellsUptoCardSaid : Prop := Claim7.holds Tryd.pinned (.plain (OpenSpec.upto springTellsSpec)) springTellsUptoCard

/-- THE SECOND FORM's CARD OF 'aguadorlaw01.SpringReads'. -/
def springReadsUptoCard : Claim7 := { stood := { row := springReadsUptoRow, standIns := [], harness := (true, "cbc4ff95632dd8bf1f94b0296bd232dab52e33940a04deaa652700db042aaa60"), looks := false }, kinds := [], alts := [], laidByText := true, laidKinds := [.funcs, .data], laidTests := true, laidLooks := .later }
def SpringReadsUptoCardSaid : Prop := Claim7.holds Tryd.pinned (.plain (OpenSpec.upto springReadsSpec)) springReadsUptoCard

/-- THE SECOND FORM's CARD OF 'aguadorlaw01.SpringChanges'. -/
def springChangesUptoCard : Claim7 := { stood := { row := springChangesUptoRow, standIns := [], harness := (true, "cbc4ff95632dd8bf1f94b0296bd232dab52e33940a04deaa652700db042aaa60"), looks := false }, kinds := [], alts := [], laidByText := true, laidKinds := [.funcs], laidTests := true, laidLooks := .later }
def SpringChangesUptoCardSaid : Prop := Claim7.holds Tryd.pinned (.plain (OpenSpec.upto springChangesSpec)) springChangesUptoCard

/-- THE SECOND FORM's CARD OF 'aguadorlaw01.SpringFails'. -/
def springFailsUptoCard : Claim7 := { stood := { row := springFailsUptoRow, standIns := [], harness := (true, "cbc4ff95632dd8bf1f94b0296bd232dab52e33940a04deaa652700db042aaa60"), looks := false }, kinds := [], alts := [], laidByText := true, laidKinds := [.funcs, .data], laidTests := true, laidLooks := .later }
def SpringFailsUptoCardSaid : Prop := Claim7.holds Tryd.pinned (.plain (OpenSpec.upto springFailsSpec)) springFailsUptoCard

/-- THE SECOND FORM's CARD OF 'aguadorlaw01.SpringTruth'. -/
def springTruthUptoCard : Claim7 := { stood := { row := springTruthUptoRow, standIns := [], harness := (true, "cbc4ff95632dd8bf1f94b0296bd232dab52e33940a04deaa652700db042aaa60"), looks := false }, kinds := [], alts := [], laidByText := true, laidKinds := [.funcs, .data], laidTests := true, laidLooks := .later }
def SpringTruthUptoCardSaid : Prop := Claim7.holds Tryd.pinned (.plain (OpenSpec.upto springTruthSpec)) springTruthUptoCard

/-- THE SECOND FORM's CARD OF 'aguadorlaw01.SpringEnds'. -/
def springEndsUptoCard : Claim7 := { stood := { row := springEndsUptoRow, standIns := [], harness := (true, "cbc4ff95632dd8bf1f94b0296bd232dab52e33940a04deaa652700db042aaa60"), looks := false }, kinds := [], alts := [], laidByText := true, laidKinds := [.funcs, .data], laidTests := true, laidLooks := .later }
def SpringEndsUptoCardSaid : Prop := Claim7.holds Tryd.pinned (.plain (OpenSpec.upto springEndsSpec)) springEndsUptoCard

/-- THE SECOND FORM's CARD OF 'aguadorlaw01.SpringWeeks'. -/
def springWeeksUptoCard : Claim7 := { stood := { row := springWeeksUptoRow, standIns := [], harness := (true, "cbc4ff95632dd8bf1f94b0296bd232dab52e33940a04deaa652700db042aaa60"), looks := false }, kinds := [], alts := [], laidByText := true, laidKinds := [.funcs, .data], laidTests := true, laidLooks := .later }
def SpringWeeksUptoCardSaid : Prop := Claim7.holds Tryd.pinned (.plain (OpenSpec.upto springWeeksSpec)) springWeeksUptoCard

/-- THE SECOND FORM's CARD OF 'aguadorlaw01.SpringWrong'. -/
def springWrongUptoCard : Claim7 := { stood := { row := springWrongUptoRow, standIns := [], harness := (true, "cbc4ff95632dd8bf1f94b0296bd232dab52e33940a04deaa652700db042aaa60"), looks := false }, kinds := [], alts := [], laidByText := true, laidKinds := [.funcs, .data], laidTests := true, laidLooks := .later }
def SpringWrongUptoCardSaid : Prop := Claim7.holds Tryd.pinned (.plain (OpenSpec.upto springWrongSpec)) springWrongUptoCard

/-- THE SECOND FORM's CARD OF 'aguadorlaw01.SpringFill'. -/
def springFillUptoCard : Claim7 := { stood := { row := springFillUptoRow, standIns := [], harness := (true, "cbc4ff95632dd8bf1f94b0296bd232dab52e33940a04deaa652700db042aaa60"), looks := false }, kinds := [], alts := [], laidByText := true, laidKinds := [.funcs, .data], laidTests := true, laidLooks := .later }
def SpringFillUptoCardSaid : Prop := Claim7.holds Tryd.pinned (.plain (OpenSpec.upto springFillSpec)) springFillUptoCard

/-- THE SECOND FORM's CARD OF 'aguadorlaw01.SpringLook'. -/
def springLookUptoCard : Claim7 := { stood := { row := springLookUptoRow, standIns := [], harness := (true, "cbc4ff95632dd8bf1f94b0296bd232dab52e33940a04deaa652700db042aaa60"), looks := false }, kinds := [], alts := [], laidByText := true, laidKinds := [.funcs, .data], laidTests := true, laidLooks := .later }
def SpringLookUptoCardSaid : Prop := Claim7.holds Tryd.pinned (.plain (OpenSpec.upto springLookSpec)) springLookUptoCard

/-- THE SECOND FORM's CARD OF 'aguadorlaw01.SpringRests'. -/
def springRestsUptoCard : Claim7 := { stood := { row := springRestsUptoRow, standIns := [], harness := (true, "cbc4ff95632dd8bf1f94b0296bd232dab52e33940a04deaa652700db042aaa60"), looks := false }, kinds := [], alts := [], laidByText := true, laidKinds := [.funcs, .data], laidTests := true, laidLooks := .later }
def SpringRestsUptoCardSaid : Prop := Claim7.holds Tryd.pinned (.plain (OpenSpec.upto springRestsSpec)) springRestsUptoCard

/-- THE SECOND FORM's CARD OF 'aguadorlaw01.SpringExamples'. -/
def springExamplesUptoCard : Claim7 := { stood := { row := springExamplesUptoRow, standIns := [], harness := (true, "cbc4ff95632dd8bf1f94b0296bd232dab52e33940a04deaa652700db042aaa60"), looks := false }, kinds := [], alts := [], laidByText := true, laidKinds := [.funcs, .data], laidTests := true, laidLooks := .later }
def SpringExamplesUptoCardSaid : Prop := Claim7.holds Tryd.pinned (.plain (OpenSpec.upto springExamplesSpec)) springExamplesUptoCard

/-- THE SECOND FORM's CARD OF 'aguadorlaw01.SpringMore'. -/
def springMoreUptoCard : Claim7 := { stood := { row := springMoreUptoRow, standIns := [], harness := (true, "cbc4ff95632dd8bf1f94b0296bd232dab52e33940a04deaa652700db042aaa60"), looks := false }, kinds := [], alts := [], laidByText := true, laidKinds := [.funcs, .data], laidTests := true, laidLooks := .later }
def SpringMoreUptoCardSaid : Prop := Claim7.holds Tryd.pinned (.plain (OpenSpec.upto springMoreSpec)) springMoreUptoCard
end Rows
end Go.Proofs.YtknflipongbngaaDoor
