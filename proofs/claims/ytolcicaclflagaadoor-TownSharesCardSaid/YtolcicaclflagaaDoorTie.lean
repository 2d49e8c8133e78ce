/-
  DERIVED. GIVEN WITH THE SEED: THE PROGRAM's TIES (one call each: nine closed facts by the kernel) AND EACH ROW's TIE, after the 31st guide's Derived/Test/Toyas{Tie, Card}.lean. No idea stands in it: it is a product of the set-up. Laid BY PROGRAM, IN A SANDBOX (cutbox-door.mjs). By AI agents, Wed Nov 11 2026. No macro, syntax, notation, axiom, sorry.
-/
import Derived.Test.YtolcicaclflagaaDoorRows
import Derived.LaidByTextLater
import Derived.SevenTiedAt
import Derived.LaidSub
import Derived.LaidOnce
namespace Go.Proofs.YtolcicaclflagaaDoor
open Go
set_option maxRecDepth 100000
theorem seatTie1 : Tryd.prog.laidByTextLater [("aguador/spring.checks", Rows.laid_aguador_spring_checks), ("aguador/spring.none", Rows.laid_aguador_spring_none), ("aguador/town.checks", Rows.laid_aguador_town_checks)] [.funcs, .data, .funcs] true :=
  Program.laidByTextLater_by_one 32 8 3 (by kernel_rfl) (by kernel_rfl) (by kernel_rfl) (by kernel_rfl) (by kernel_rfl) (by kernel_rfl) (fun _ _ => by kernel_rfl)
theorem noOwnUnsafe : Tryd.pinned.checked.prog.headLifts.contains "ownunsafe" = false := by kernel_rfl
theorem tie : Tryd.prog.laidByTextLater [("aguador/spring.checks", Rows.laid_aguador_spring_checks), ("aguador/spring.none", Rows.laid_aguador_spring_none), ("aguador/town.checks", Rows.laid_aguador_town_checks)] [.funcs, .data, .funcs] true :=
  Program.laidByTextLater.sub seatTie1 ["aguador/spring.checks", "aguador/spring.none", "aguador/town.checks"] (by kernel_rfl) (by kernel_rfl)
theorem townTells_row_tie : Rows.townTellsRow.laidByTextAt .later Tryd.pinned [.funcs, .data, .funcs] true :=
  OpenClaim.laidByTextAt_later rfl rfl tie noOwnUnsafe
theorem townShares_row_tie : Rows.townSharesRow.laidByTextAt .later Tryd.pinned [.funcs, .data, .funcs] true :=
  OpenClaim.laidByTextAt_later rfl rfl tie noOwnUnsafe
theorem townProofs_row_tie : Rows.townProofsRow.laidByTextAt .later Tryd.pinned [.funcs, .data, .funcs] true :=
  OpenClaim.laidByTextAt_later rfl rfl tie noOwnUnsafe
theorem townTellsUpto_row_tie : Rows.townTellsUptoRow.laidByTextAt .later Tryd.pinned [.funcs, .data, .funcs] true :=
  OpenClaim.laidByTextAt_later rfl rfl tie noOwnUnsafe
theorem townSharesUpto_row_tie : Rows.townSharesUptoRow.laidByTextAt .later Tryd.pinned [.funcs, .data, .funcs] true :=
  OpenClaim.laidByTextAt_later rfl rfl tie noOwnUnsafe
theorem townProofsUpto_row_tie : Rows.townProofsUptoRow.laidByTextAt .later Tryd.pinned [.funcs, .data, .funcs] true :=
  OpenClaim.laidByTextAt_later rfl rfl tie noOwnUnsafe
end Go.Proofs.YtolcicaclflagaaDoor
