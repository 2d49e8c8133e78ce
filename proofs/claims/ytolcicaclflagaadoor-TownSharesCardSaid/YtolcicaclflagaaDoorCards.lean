/-
  DERIVED. GIVEN WITH THE SEED: THE CARDS: each row of YtolcicaclflagaaDoorRows.lean that lists a variable, with what it lists TIED to the program's text (the seventh form; the later family's looks); each row that meets fmt, with fmt's text TOLD by the authors' own Lean function (tested against real Go, not proved from fmt's source: count such statements apart). THE CARD IS WHAT COUNTS. Prove the row's statement (the work); the ties are given (YtolcicaclflagaaDoorTie.lean); close each card by the builder's one call (the guide's Derived/Test/ToyasCard.lean, 'card_holds'). Laid BY PROGRAM, IN A SANDBOX (cutbox-door.mjs). By AI agents, Wed Nov 11 2026. No macro, syntax, notation, axiom, sorry.
-/
import Derived.Test.YtolcicaclflagaaDoorRows
import GoSem.ClaimSeven
namespace Go.Proofs.YtolcicaclflagaaDoor
namespace Rows

/-- THE TIED CARD OF 'aguadorlaw09.TownTells'. -/
def townTellsCard : Claim7 := { stood := { row := townTellsRow, standIns := [], harness := (true, "a491fc05ce3948639d9cd0b4fb41dd195dcf60b97dabb8e87b7e096b8afd678e"), looks := false }, kinds := [], alts := [], laidByText := true, laidKinds := [.funcs, .data, .funcs], laidTests := true, laidLooks := .later }
def TownTellsCardSaid : Prop := Claim7.holds Tryd.pinned (.plain (OpenSpec.ofChange townTellsSpec)) townTellsCard

/-- THE TIED CARD OF 'aguadorlaw09.TownShares'. -/
def townSharesCard : Claim7 := { stood := { row := townSharesRow, standIns := [], harness := (true, "a491fc05ce3948639d9cd0b4fb41dd195dcf60b97dabb8e87b7e096b8afd678e"), looks := false }, kinds := [], alts := [], laidByText := true, laidKinds := [.funcs, .data, .funcs], laidTests := true, laidLooks := .later }
def TownSharesCardSaid : Prop := Claim7.holds Tryd.pinned (.plain (OpenSpec.ofChange townSharesSpec)) townSharesCard

/-- THE TIED CARD OF 'aguadorlaw09.TownProofs'. -/
def townProofsCard : Claim7 := { stood := { row := townProofsRow, standIns := [], harness := (true, "a491fc05ce3948639d9cd0b4fb41dd195dcf60b97dabb8e87b7e096b8afd678e"), looks := false }, kinds := [], alts := [], laidByText := true, laidKinds := [.funcs, .data, .funcs], laidTests := true, laidLooks := .later }
def TownProofsCardSaid : Prop := Claim7.holds Tryd.pinned (.plain (OpenSpec.ofChange townProofsSpec)) townProofsCard

/-- THE SECOND FORM's CARD OF 'aguadorlaw09.TownTells'. -/
def townTellsUptoCard : Claim7 := { stood := { row := townTellsUptoRow, standIns := [], harness := (true, "a491fc05ce3948639d9cd0b4fb41dd195dcf60b97dabb8e87b7e096b8afd678e"), looks := false }, kinds := [], alts := [], laidByText := true, laidKinds := [.funcs, .data, .funcs], laidTests := true, laidLooks := .later }
def TownTellsUptoCardSaid : Prop := Claim7.holds Tryd.pinned (.plain (OpenSpec.upto townTellsSpec)) townTellsUptoCard

/-- THE SECOND FORM's CARD OF 'aguadorlaw09.TownShares'. -/
def townSharesUptoCard : Claim7 := { stood := { row := townSharesUptoRow, standIns := [], harness := (true, "a491fc05ce3948639d9cd0b4fb41dd195dcf60b97dabb8e87b7e096b8afd678e"), looks := false }, kinds := [], alts := [], laidByText := true, laidKinds := [.funcs, .data, .funcs], laidTests := true, laidLooks := .later }
def TownSharesUptoCardSaid : Prop := Claim7.holds Tryd.pinned (.plain (OpenSpec.upto townSharesSpec)) townSharesUptoCard

/-- THE SECOND FORM's CARD OF 'aguadorlaw09.TownProofs'. -/
def townProofsUptoCard : Claim7 := { stood := { row := townProofsUptoRow, standIns := [], harness := (true, "a491fc05ce3948639d9cd0b4fb41dd195dcf60b97dabb8e87b7e096b8afd678e"), looks := false }, kinds := [], alts := [], laidByText := true, laidKinds := [.funcs, .data, .funcs], laidTests := true, laidLooks := .later }
def TownProofsUptoCardSaid : Prop := Claim7.holds Tryd.pinned (.plain (OpenSpec.upto townProofsSpec)) townProofsUptoCard
end Rows
end Go.Proofs.YtolcicaclflagaaDoor
