/- Data in memory: rows of cells behind a slice; arrays of whole numbers. Nothing of the program stands here. -/
import Derived.Test.YtknflipongbngaaDoorXDraw
namespace Go.X
open Go Go.RowKit

/-- The elements of a slice, k cells each. -/
def RowsAt (w : World) (ao : Option Addr) (k : Nat) (rows : List (List Value)) : Prop :=
  rows = [] ∨ ∃ b o, ao = some ⟨b, o, none⟩ ∧ ∀ i r, rows[i]? = some r → ∀ j u, r[j]? = some u → w.cell? ⟨b, o + i * k + j, none⟩ = some u
theorem RowsAt.nil (w : World) (ao : Option Addr) (k : Nat) : RowsAt w ao k [] := .inl rfl
theorem RowsAt.get {w : World} {ao : Option Addr} {k : Nat} {rows : List (List Value)} (h : RowsAt w ao k rows) {i : Nat} {r : List Value} (hi : rows[i]? = some r) :
    ∃ b o, ao = some ⟨b, o, none⟩ ∧ ∀ own, Mem w own b (o + i * k) r := by
  rcases h with rfl | ⟨b, o, h1, h2⟩
  · simp at hi
  · exact ⟨b, o, h1, fun own => Mem.out fun j v hj => h2 i r hi j v hj⟩
theorem cell_lt {w : World} {a : Addr} {v : Value} (h : w.cell? a = some v) : a.block < w.heap.size := by
  unfold World.cell? at h
  split at h
  · rename_i hx; exact (Array.getElem?_eq_some_iff.1 hx).1
  · cases h
/-- What is read is read still, as long as all that there was is kept. -/
theorem RowsAt.inv {w0 w : World} {own : Own} {ao : Option Addr} {k : Nat} {rows : List (List Value)} (h : RowsAt w0 ao k rows) (hI : Inv w0 own w) : RowsAt w ao k rows := by
  rcases h with rfl | ⟨b, o, h1, h2⟩
  · exact .inl rfl
  · exact .inr ⟨b, o, h1, fun i r hi j u hj => by
      have hc := h2 i r hi j u hj
      rw [hI.below.cell (p := ⟨b, o + i * k + j, none⟩) (cell_lt hc)]; exact hc⟩
/-- .. and out of a block of the call's own. -/
theorem RowsAt.ofOwn {w0 w : World} {own : Own} (hI : Inv w0 own w) {i b k : Nat} {l : List Value} {E : TypeId} {fz : Nat × Nat} {rows : List (List Value)} (hi : own[i]? = some (b, .cells ⟨l⟩ E fz))
    (hr : ∀ i r, rows[i]? = some r → ∀ j u, r[j]? = some u → l[i * k + j]? = some u) : RowsAt w (some ⟨b, 0, none⟩) k rows :=
  .inr ⟨b, 0, rfl, fun n r hn j u hj => by
    have := hr n r hn j u hj
    simp [World.cell?, (hI.get hi (live_of_get this)).2, this]⟩

/-- A slice of numbers as rows of one cell. -/
def ones (l : List Int) : List (List Value) := l.map fun x => [Value.int .i64 x]
@[simp] theorem length_ones (l : List Int) : (ones l).length = l.length := by simp [ones]
theorem ones_get {l : List Int} {i : Nat} (h : i < l.length) : (ones l)[i]? = some [.int .i64 (l.getD i 0)] := by simp [ones, h]
abbrev G (L : List Int) (i : Nat) : Int := L.getD i 0
def ints (l : List Int) : List Value := l.map (Value.int .i64)
@[simp] theorem length_ints (l : List Int) : (ints l).length = l.length := by simp [ints]
theorem ints_at {l : List Int} {off i : Nat} (h : off = i) (hi : i < l.length) : (ints l)[off]? = some (.int .i64 (G l i)) := by subst h; simp [ints, hi]
theorem ints_put {l : List Int} {off i : Nat} {x : Int} (h : off = i) (hi : i < l.length) : putAt (ints l) off [.int .i64 x] = some (ints (l.set i x)) := by
  subst h
  rw [putAt_one _ (by simpa using hi)]
  simp [ints, List.map_set]
theorem ints_put2 {l : List Int} {off i : Nat} {x y : Int} (h : off = i) (hi : i + 1 < l.length) : putAt (ints l) off [.int .i64 x, .int .i64 y] = some (ints ((l.set i x).set (i + 1) y)) := by
  subst h
  rw [putAt_two _ _ (by simpa using hi)]
  simp [ints, List.map_set]
theorem ints_take2 {l : List Int} {off i : Nat} (h : off = i) (hi : i + 1 < l.length) : takeAt (ints l) off 2 = some [.int .i64 (G l i), .int .i64 (G l (i + 1))] :=
  takeAt_two (ints_at h (by omega)) (ints_at (by omega) hi)
theorem ints_isOne (l : List Int) : (ints l).all isOne = true := by simp [ints, isOne]
theorem takeAt_all : ∀ (l : List Value), takeAt l 0 l.length = some l := by
  have h : ∀ (l p : List Value), takeAt (p ++ l) p.length l.length = some l := by
    intro l
    induction l with
    | nil => intro p; simp [takeAt]
    | cons x l ih =>
      intro p
      have h1 := ih (p ++ [x])
      simp only [List.append_assoc, List.singleton_append, List.length_append, List.length_singleton] at h1
      simp only [List.length_cons, takeAt]
      rw [h1]
      simp
  intro l
  simpa using h l []
theorem takeAt_full {l : List Value} {k : Nat} (h : l.length = k) : takeAt l 0 k = some l := by subst h; exact takeAt_all l
theorem putAt_all : ∀ (l l' : List Value), l'.length = l.length → putAt l 0 l' = some l'
  | [], l', h => by
    have : l' = [] := List.eq_nil_of_length_eq_zero h
    subst this; rfl
  | x :: l, [], h => by simp at h
  | x :: l, y :: l', h => by simp [putAt, putAt_all l l' (by simpa using h)]

section
variable {C : Cx} {Q : Post} {env : Env} {own : Own} {D : List Deferred} {ops : Array Oper} {rest : List Oper}
variable {d : Nat} {ty : TypeId} {pos : String} {aft : Array Edge} {g : Option (Nat × Bool)} {x y : Operand} {T T' : TypeId}
/-- The address of an element, of a slice of which it is known where it lies. -/
theorem SXL.indexR {ao : Option Addr} {b off n c s : Nat} {k : IntKind} {i : Int} (he : elemP C.P T = some (none, s)) (hx : ev env x = some (.slice ao n c)) (hy : ev env y = some (.int k i)) (ha : ao = some ⟨b, off, none⟩) (hb : 0 ≤ i ∧ i < n)
    (h : SXL C ops rest Q ⟨(d, .pointer (some ⟨b, off + i.toNat * s, none⟩)) :: env, own, D⟩) (hd : Nat.blt d C.n = true := by rfl) (hw : Wanted ops g env = some true := by rfl) :
    SXL C ops ({ dst := some d, op := .indexAddr T x y, type := ty, pos, after := aft, guard := g } :: rest) Q ⟨env, own, D⟩ := by
  subst ha
  exact SXL.indexS he hx hy hb h hd hw
end
end Go.X
