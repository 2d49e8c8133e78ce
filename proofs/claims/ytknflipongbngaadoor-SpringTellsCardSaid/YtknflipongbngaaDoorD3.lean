/- The variables of the package spring; slices of the call's own as arguments. -/
import Derived.Test.YtknflipongbngaaDoorXV
import Derived.Test.YtknflipongbngaaDoorD2
namespace Go.S
open Go Go.X Go.RowKit
def chkId : Nat → Nat
  | 0 => 153
  | 1 => 154
  | 2 => 155
  | 3 => 156
  | _ => 159
def chkFn (k : Nat) : Value := .func (.func (chkId k)) ⟨[]⟩ ⟨[]⟩
def chkCells : List Value := [chkFn 0, chkFn 1, chkFn 2, chkFn 3, chkFn 4]
def noneCells : List Value := [.int .i64 1, .int .i64 0]
/-- What the package's variables hold. -/
structure Gl (w : World) : Prop where
  checks : ∀ j v, chkCells[j]? = some v → w.cell? ⟨0, 0 + j, none⟩ = some v
  none : ∀ j v, noneCells[j]? = some v → w.cell? ⟨1, 0 + j, none⟩ = some v
variable {w0 w w' : World} {own : X.Own}
theorem cell_keep {a : Addr} {v : Value} (h : w0.cell? a = some v) (hb : Below w0.heap.size w0 w) : w.cell? a = some v := by
  rw [hb.cell (cell_lt h)]; exact h
theorem Gl.inv (h : Gl w0) (hI : Inv w0 own w) : Gl w := ⟨fun j v hj => cell_keep (h.checks j v hj) hI.below, fun j v hj => cell_keep (h.none j v hj) hI.below⟩
theorem Gl.memC (h : Gl w) (own : X.Own) : Mem w own 0 0 chkCells := Mem.out h.checks
theorem Gl.memN (h : Gl w) (own : X.Own) : Mem w own 1 0 noneCells := Mem.out h.none
theorem belowT (hI : Inv w0 own w) (hb : Below w.heap.size w w') : Below w0.heap.size w0 w' := hI.below.trans (hb.mono hI.below.size)
theorem ownCell (hI : Inv w0 own w) {i b j : Nat} {l : List Value} {E : TypeId} {fz : Nat × Nat} {v : Value} (hi : own[i]? = some (b, .cells ⟨l⟩ E fz)) (hl : l[j]? = some v) : w.cell? ⟨b, j, none⟩ = some v := by
  simp [World.cell?, (hI.get hi (live_of_get hl)).2, hl]
theorem ownOnes (hI : Inv w0 own w) {i b : Nat} (l : List Int) {E : TypeId} {fz : Nat × Nat} (hi : own[i]? = some (b, .cells ⟨ints l⟩ E fz)) : RowsAt w (some ⟨b, 0, none⟩) 1 (ones l) :=
  RowsAt.ofOwn hI hi fun n r hn j u hj => by
    simp only [ones, List.getElem?_map, Option.map_eq_some_iff] at hn
    obtain ⟨x, hx, rfl⟩ := hn
    obtain ⟨hlt, he⟩ := List.getElem?_eq_some_iff.1 hj
    have : j = 0 := by simpa using hlt
    subst this
    simp at he
    subst he
    simp [ints, hx]
end Go.S
