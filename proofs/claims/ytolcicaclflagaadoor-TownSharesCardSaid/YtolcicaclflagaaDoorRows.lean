/-
  NARROWER THAN 'FOR EVERY INPUT', by the rows' own cells (each row's printed sentence says how): TownTells: laid · TownShares: laid · TownProofs: laid.
  DERIVED. THE GIVEN ROWS OF THIS SEAT. 3 by the template 'for every input the law returns true; each argument reads behind the call as it read before'; 0 by the template 'total and deterministic' (their statements: YtolcicaclflagaaDoorTotals.lean).
  GIVEN WITH THE SEED: the statements are not yours to turn. If you find one false, say at which input.
  Laid BY PROGRAM, IN A SANDBOX (cutbox-rows.mjs): the forced cells as the released guide's own fill.sh prints them over the translation ea07258d38466a13… (all of the seat's roots in one cut). By AI agents, Wed Nov 11 2026. No macro, syntax, notation, axiom, sorry.
-/
import Derived.Test.YtolcicaclflagaaDoorChecked
import GoSem.Claim
import GoSem.ClaimJoined
import GoSem.ClaimMapViews
import Derived.JoinedTies
import Derived.KernelRfl
namespace Go.Proofs.YtolcicaclflagaaDoor
/- THE CELL 'sum', in the pinned program and in every row, IS THE sha256 OF THE DUMP (.gsa) THAT YtolcicaclflagaaDoorProg.lean LOADS. Nothing in Lean hashes anything: it is a label: what it is worth is what the hold of that sum in a sandbox is worth. -/
noncomputable def Tryd.pinned : Pinned := { name := "ytolcicaclflagaadoor", sum := "ea07258d38466a135737bbb41ae3a67738a581f7de851eb60b757a89f6f4f445", checked := Tryd.checked }
namespace Rows
def none {H : Type} : Left H := { results := [], args := [] }

/- WHAT THE LISTED PACKAGE-LEVEL VARIABLES READ AS WHEN THE CALL BEGINS. Each datum BY PROGRAM (the guide's laid-datum.mjs) off the statement by which the dump's own 'gosem.cut.vars' lays the variable. In a bare row this is a premise. The card (YtolcicaclflagaaDoorCards.lean) ties it to the program's text. -/
def laid_aguador_spring_checks {H : Type} : DataW H := .iface "func table" (.agg [.agg [.iface "func" (.lit (.string [97, 103, 117, 97, 100, 111, 114, 47, 115, 112, 114, 105, 110, 103, 46, 99, 104, 101, 99, 107, 115, 36, 49]))], .agg [.iface "func" (.lit (.string [97, 103, 117, 97, 100, 111, 114, 47, 115, 112, 114, 105, 110, 103, 46, 99, 104, 101, 99, 107, 115, 36, 50]))], .agg [.iface "func" (.lit (.string [97, 103, 117, 97, 100, 111, 114, 47, 115, 112, 114, 105, 110, 103, 46, 99, 104, 101, 99, 107, 115, 36, 51]))], .agg [.iface "func" (.lit (.string [97, 103, 117, 97, 100, 111, 114, 47, 115, 112, 114, 105, 110, 103, 46, 99, 104, 101, 99, 107, 115, 36, 52]))], .agg [.iface "func" (.lit (.string [97, 103, 117, 97, 100, 111, 114, 47, 115, 112, 114, 105, 110, 103, 46, 99, 104, 101, 99, 107, 115, 36, 53]))]])
def laid_aguador_spring_none {H : Type} : DataW H := .agg [.lit (.int .i64 1), .lit (.int .i64 0)]
def laid_aguador_town_checks {H : Type} : DataW H := .iface "func table" (.agg [.agg [.iface "func" (.lit (.string [97, 103, 117, 97, 100, 111, 114, 47, 116, 111, 119, 110, 46, 99, 104, 101, 99, 107, 115, 36, 49]))], .agg [.iface "func" (.lit (.string [97, 103, 117, 97, 100, 111, 114, 47, 116, 111, 119, 110, 46, 99, 104, 101, 99, 107, 115, 36, 50]))], .agg [.iface "func" (.lit (.string [97, 103, 117, 97, 100, 111, 114, 47, 116, 111, 119, 110, 46, 99, 104, 101, 99, 107, 115, 36, 51]))]])

/-- 'aguadorlaw09.TownTells': WHATEVER THE INPUT: true; the input reads as it did. -/
def townTellsSpec : ChangeSpec := { name := "townTells", fn := fun _ => fun
  | [d1, d2, d3] => { results := [.lit (.bool true)], args := [d1, d2, d3] }
  | _ => none }
def townTellsRow : OpenClaim := { program := "ytolcicaclflagaadoor", sum := "ea07258d38466a135737bbb41ae3a67738a581f7de851eb60b757a89f6f4f445", func := "aguador/aguadorlaw09.TownTells", spec := "townTells", unfollowed := true, recurses := true, named := ["aguador/town.checks", "aguador/spring.checks", "aguador/spring.none"], apart := false, laid := [("aguador/spring.checks", laid_aguador_spring_checks), ("aguador/spring.none", laid_aguador_spring_none), ("aguador/town.checks", laid_aguador_town_checks)] }
def TownTellsSaid : Prop := townTellsRow.holds Tryd.pinned (OpenSpec.ofChange townTellsSpec)

/-- ITS FALSE NEIGHBOUR: 'it returns false'. Refute it at one input. -/
def townTellsWrong : ChangeSpec := { name := "townTells", fn := fun _ => fun
  | [d1, d2, d3] => { results := [.lit (.bool false)], args := [d1, d2, d3] }
  | _ => none }
def TownTellsWrongFalsely : Prop := townTellsRow.holds Tryd.pinned (OpenSpec.ofChange townTellsWrong)

/-- 'aguadorlaw09.TownShares': WHATEVER THE INPUT: true; the input reads as it did. -/
def townSharesSpec : ChangeSpec := { name := "townShares", fn := fun _ => fun
  | [d1, d2, d3, d4] => { results := [.lit (.bool true)], args := [d1, d2, d3, d4] }
  | _ => none }
def townSharesRow : OpenClaim := { program := "ytolcicaclflagaadoor", sum := "ea07258d38466a135737bbb41ae3a67738a581f7de851eb60b757a89f6f4f445", func := "aguador/aguadorlaw09.TownShares", spec := "townShares", unfollowed := true, recurses := true, named := ["aguador/town.checks", "aguador/spring.checks", "aguador/spring.none"], apart := false, laid := [("aguador/spring.checks", laid_aguador_spring_checks), ("aguador/spring.none", laid_aguador_spring_none), ("aguador/town.checks", laid_aguador_town_checks)] }
def TownSharesSaid : Prop := townSharesRow.holds Tryd.pinned (OpenSpec.ofChange townSharesSpec)

/-- ITS FALSE NEIGHBOUR: 'it returns false'. Refute it at one input. -/
def townSharesWrong : ChangeSpec := { name := "townShares", fn := fun _ => fun
  | [d1, d2, d3, d4] => { results := [.lit (.bool false)], args := [d1, d2, d3, d4] }
  | _ => none }
def TownSharesWrongFalsely : Prop := townSharesRow.holds Tryd.pinned (OpenSpec.ofChange townSharesWrong)

/-- 'aguadorlaw09.TownProofs': WHATEVER THE INPUT: true; the input reads as it did. -/
def townProofsSpec : ChangeSpec := { name := "townProofs", fn := fun _ => fun
  | [d1, d2, d3, d4] => { results := [.lit (.bool true)], args := [d1, d2, d3, d4] }
  | _ => none }
def townProofsRow : OpenClaim := { program := "ytolcicaclflagaadoor", sum := "ea07258d38466a135737bbb41ae3a67738a581f7de851eb60b757a89f6f4f445", func := "aguador/aguadorlaw09.TownProofs", spec := "townProofs", unfollowed := true, recurses := true, named := ["aguador/town.checks", "aguador/spring.checks", "aguador/spring.none"], apart := false, laid := [("aguador/spring.checks", laid_aguador_spring_checks), ("aguador/spring.none", laid_aguador_spring_none), ("aguador/town.checks", laid_aguador_town_checks)] }
def TownProofsSaid : Prop := townProofsRow.holds Tryd.pinned (OpenSpec.ofChange townProofsSpec)

/-- ITS FALSE NEIGHBOUR: 'it returns false'. Refute it at one input. -/
def townProofsWrong : ChangeSpec := { name := "townProofs", fn := fun _ => fun
  | [d1, d2, d3, d4] => { results := [.lit (.bool false)], args := [d1, d2, d3, d4] }
  | _ => none }
def TownProofsWrongFalsely : Prop := townProofsRow.holds Tryd.pinned (OpenSpec.ofChange townProofsWrong)

/- THE SECOND FORM. 'bulk': how many values and letters a reading holds, each counted each time it is reached (what is shared counts as often as it is met; a slice's spare places count too). A statement '..UptoSaid' is the law's where the arguments, and the package variables that the reading takes, are together of bulk at most 1048576: NARROWER than '..Said'. Prove '..Said' where nothing that the law and all that it calls make is longer than what came in: it says more and counts as full. Else prove '..UptoSaid'. A law counts once. -/
mutual
def uptoBulk {H : Type} : DataW H → Nat
  | .lit (.string bytes) => bytes.length + 1
  | .lit _ => 1
  | .nil => 1
  | .ptr d => uptoBulk d + 1
  | .slice elems spare => uptoBulkAll elems + uptoBulkAll spare + 1
  | .agg parts => uptoBulkAll parts + 1
  | .iface _ d => uptoBulk d + 1
  | .map entries => uptoBulkEntries entries + 1
  | .held _ => 1
def uptoBulkAll {H : Type} : List (DataW H) → Nat
  | [] => 0
  | d :: r => uptoBulk d + uptoBulkAll r
def uptoBulkEntries {H : Type} : List (Lit × DataW H) → Nat
  | [] => 0
  | x :: r => uptoBulkEntry x + uptoBulkEntries r
def uptoBulkEntry {H : Type} : Lit × DataW H → Nat
  | (.string bytes, d) => bytes.length + uptoBulk d + 1
  | (_, d) => uptoBulk d + 1
 end
def uptoSmall : (H : Type) → List (DataW H) → Bool := fun _ ds => decide (uptoBulkAll ds ≤ 1048576)
def OpenSpec.upto (s : _root_.Go.ChangeSpec) : _root_.Go.OpenSpec := { _root_.Go.OpenSpec.ofChange s with cond := some uptoSmall }

/-- 'aguadorlaw09.TownTells', WHERE WHAT IT READS IS OF BULK AT MOST 1048576: true; the input reads as it did. -/
def townTellsUptoRow : OpenClaim := { program := "ytolcicaclflagaadoor", sum := "ea07258d38466a135737bbb41ae3a67738a581f7de851eb60b757a89f6f4f445", func := "aguador/aguadorlaw09.TownTells", spec := "townTells", unfollowed := true, recurses := true, named := ["aguador/town.checks", "aguador/spring.checks", "aguador/spring.none"], apart := false, laid := [("aguador/spring.checks", laid_aguador_spring_checks), ("aguador/spring.none", laid_aguador_spring_none), ("aguador/town.checks", laid_aguador_town_checks)], narrowed := true }
def TownTellsUptoSaid : Prop := townTellsUptoRow.holds Tryd.pinned (OpenSpec.upto townTellsSpec)

/-- 'aguadorlaw09.TownShares', WHERE WHAT IT READS IS OF BULK AT MOST 1048576: true; the input reads as it did. -/
def townSharesUptoRow : OpenClaim := { program := "ytolcicaclflagaadoor", sum := "ea07258d38466a135737bbb41ae3a67738a581f7de851eb60b757a89f6f4f445", func := "aguador/aguadorlaw09.TownShares", spec := "townShares", unfollowed := true, recurses := true, named := ["aguador/town.checks", "aguador/spring.checks", "aguador/spring.none"], apart := false, laid := [("aguador/spring.checks", laid_aguador_spring_checks), ("aguador/spring.none", laid_aguador_spring_none), ("aguador/town.checks", laid_aguador_town_checks)], narrowed := true }
def TownSharesUptoSaid : Prop := townSharesUptoRow.holds Tryd.pinned (OpenSpec.upto townSharesSpec)

/-- 'aguadorlaw09.TownProofs', WHERE WHAT IT READS IS OF BULK AT MOST 1048576: true; the input reads as it did. -/
def townProofsUptoRow : OpenClaim := { program := "ytolcicaclflagaadoor", sum := "ea07258d38466a135737bbb41ae3a67738a581f7de851eb60b757a89f6f4f445", func := "aguador/aguadorlaw09.TownProofs", spec := "townProofs", unfollowed := true, recurses := true, named := ["aguador/town.checks", "aguador/spring.checks", "aguador/spring.none"], apart := false, laid := [("aguador/spring.checks", laid_aguador_spring_checks), ("aguador/spring.none", laid_aguador_spring_none), ("aguador/town.checks", laid_aguador_town_checks)], narrowed := true }
def TownProofsUptoSaid : Prop := townProofsUptoRow.holds Tryd.pinned (OpenSpec.upto townProofsSpec)

end Rows
end Go.Proofs.YtolcicaclflagaaDoor
