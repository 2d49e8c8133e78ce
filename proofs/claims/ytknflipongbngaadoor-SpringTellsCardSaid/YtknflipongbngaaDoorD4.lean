/- Springs at work in memory. -/
import Derived.Test.YtknflipongbngaaDoorD3
import Derived.Test.YtknflipongbngaaDoorP5
namespace Go.S
open Go Go.X Go.RowKit
def spanV (p : Int × Int) : Value := .agg ⟨[.int .i64 p.1, .int .i64 p.2]⟩
def sp9 (s : Sp) (bo ro : Option Addr) (bc rc : Nat) : List Value := [.int .i64 s.weeks, .int .i64 s.most, .int .i64 s.fall, .int .i64 s.a0, .int .i64 s.a1, .int .i64 s.w0, .int .i64 s.w1, .slice bo s.book.length bc, .slice ro s.reads.length rc]
/-- A spring at work: 29 cells. -/
def watC (s : Sp) (bo ro : Option Addr) (bc rc : Nat) (M : List Int) : List Value := sp9 s bo ro bc rc ++ ints M
theorem takeApp {A B vs : List Value} {off o' k : Nat} (a : Nat) (ha : A.length = a) (h : takeAt B off k = some vs) (ho : o' = a + off) : takeAt (A ++ B) o' k = some vs := by
  subst ho ha
  induction k generalizing off vs with
  | zero => simpa [takeAt] using h
  | succ k ih =>
    simp only [takeAt] at h ⊢
    split at h
    · rename_i v r hv hr
      rw [List.getElem?_append_right (by omega), Nat.add_sub_cancel_left, hv, Nat.add_assoc, ih hr]
      exact h
    · cases h
theorem atApp {A B : List Value} {v : Value} {off o' : Nat} (a : Nat) (ha : A.length = a) (h : B[off]? = some v) (ho : o' = a + off) : (A ++ B)[o']? = some v := by
  subst ho ha
  rw [List.getElem?_append_right (by omega), Nat.add_sub_cancel_left, h]
theorem putApp {vs B B' : List Value} {off o' : Nat} : ∀ {A : List Value} (a : Nat), A.length = a → putAt B off vs = some B' → o' = a + off → putAt (A ++ B) o' vs = some (A ++ B')
  | [], a, ha, h, ho => by
    simp at ha; subst ha ho
    simpa using h
  | x :: A, a, ha, h, ho => by
    subst ha ho
    have ih := putApp (A := A) (o' := A.length + off) A.length rfl h rfl
    rw [show (x :: A).length + off = (A.length + off) + 1 by simp; omega]
    cases vs with
    | nil => simp [putAt, ih]
    | cons v vs => simp [putAt, ih]
theorem ints_put2' {M : List Int} {off i : Nat} {p : Int × Int} (h : off = i * 2) (hi : i * 2 + 1 < M.length) : putAt (ints M) off [.int .i64 p.1, .int .i64 p.2] = some (ints (set2 M i p)) := ints_put2 h hi
theorem ints_take2' {M : List Int} {off i : Nat} (h : off = i * 2) (hi : i * 2 + 1 < M.length) : takeAt (ints M) off 2 = some [.int .i64 (Lo M i), .int .i64 (Hi M i)] := ints_take2 h hi
theorem watC_one (s : Sp) (bo ro : Option Addr) (bc rc : Nat) (M : List Int) : (watC s bo ro bc rc M).all isOne = true := by
  simp [watC, sp9, isOne, ints]
theorem watC_len {s : Sp} {bo ro : Option Addr} {bc rc : Nat} {M : List Int} (h : M.length = 20) : (watC s bo ro bc rc M).length = 29 := by simp [watC, sp9, h]
end Go.S
namespace Go.S
open Go Go.X
theorem chk_take (k : Nat) (hk : k < 5) : takeAt chkCells ((k : Int).toNat * 1) 1 = some [chkFn k] := by
  match k, hk with
  | 0, _ => rfl
  | 1, _ => rfl
  | 2, _ => rfl
  | 3, _ => rfl
  | 4, _ => rfl
theorem mul2 {a b A B : Int} (h0 : 0 ≤ a) (h1 : a ≤ A) (h2 : 0 ≤ b) (h3 : b ≤ B) : 0 ≤ a * b ∧ a * b ≤ A * B :=
  ⟨Int.mul_nonneg h0 h2, Int.mul_le_mul h1 h3 h2 (by omega)⟩
end Go.S
namespace Go.S
open Go Go.X
theorem at_lo {M : List Int} {off i : Nat} (h : off = i * 2) (hi : i * 2 < M.length) : (ints M)[off]? = some (.int .i64 (Lo M i)) := ints_at h hi
theorem at_hi {M : List Int} {off i : Nat} (h : off = i * 2 + 1) (hi : i * 2 + 1 < M.length) : (ints M)[off]? = some (.int .i64 (Hi M i)) := ints_at h hi
end Go.S
