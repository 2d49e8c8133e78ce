/- Spans in rows; what a rain leaves, handed back. -/
import Derived.Test.YtknflipongbngaaDoorD4
import Derived.Test.YtknflipongbngaaDoorP10
namespace Go.S
open Go Go.X Go.RowKit
def pairs (M : List Int) (n : Nat) : List (List Value) := (List.range n).map fun i => [.int .i64 (Lo M i), .int .i64 (Hi M i)]
@[simp] theorem length_pairs (M : List Int) (n : Nat) : (pairs M n).length = n := by simp [pairs]
variable {w0 w : World} {own : X.Own}
theorem pairAt {ao : Option Addr} {M : List Int} {n : Nat} (h : RowsAt w ao 2 (pairs M n)) {i : Nat} (hi : i < n) :
    ∃ b o, ao = some ⟨b, o, none⟩ ∧ ∀ own, Mem w own b (o + i * 2) [.int .i64 (Lo M i), .int .i64 (Hi M i)] := h.get (by simp [pairs, hi])
theorem ownPairs (hI : Inv w0 own w) {i b : Nat} {M : List Int} {E : TypeId} {fz : Nat × Nat} (hi : own[i]? = some (b, .cells ⟨ints M⟩ E fz)) {n : Nat} (hM : n * 2 ≤ M.length) : RowsAt w (some ⟨b, 0, none⟩) 2 (pairs M n) :=
  RowsAt.ofOwn hI hi fun k r hk j u hj => by
    simp only [pairs, List.getElem?_map, Option.map_eq_some_iff] at hk
    obtain ⟨i', hi', rfl⟩ := hk
    obtain ⟨hlt, he⟩ := List.getElem?_eq_some_iff.1 hi'
    simp at he hlt
    subst he
    match j, hj with
    | 0, hj => simp at hj; subst hj; exact ints_at rfl (by omega)
    | 1, hj => simp at hj; subst hj; exact ints_at rfl (by omega)
    | j + 2, hj => simp at hj
/-- What a rain leaves, handed back: all that is told if there is no truth is that there is none. -/
structure AfterR (s : Sp) (L : List Int) (rain : Int) (v : Value) : Prop where
  ex : ∃ M : List Int, M.length = 20 ∧ (lvB s L rain → M = ilv (lvL s L rain)) ∧ v = .tuple ⟨[.agg ⟨ints M⟩, .bool (decide (lvB s L rain))]⟩
end Go.S
namespace Go.S
open Go Go.X
theorem span_none {M : List Int} {k : Nat} : ([1, 0] = [Lo M k, Hi M k]) ↔ NoneAt M k := by
  unfold NoneAt
  constructor
  · intro h
    obtain ⟨h1, h2⟩ := List.cons.inj h
    exact ⟨h1.symm, (List.cons.inj h2).1.symm⟩
  · rintro ⟨h1, h2⟩; rw [h1, h2]
theorem after_bool {M : List Int} {n : Nat} {p : Prop} [Decidable p] (h : (∀ w, w < n → ¬NoneAt M w) ↔ p) : decide (¬0 ≤ idxF (fun k => [1, 0] = [Lo M k, Hi M k]) n) = decide p := by
  refine decide_eq_decide.2 ?_
  rw [← h, idxF_nonneg]
  constructor
  · intro hn w hw hN; exact hn ⟨w, hw, span_none.2 hN⟩
  · rintro hn ⟨w, hw, hN⟩; exact hn w hw (span_none.1 hN)
end Go.S
