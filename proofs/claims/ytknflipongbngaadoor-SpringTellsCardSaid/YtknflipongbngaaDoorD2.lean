/- Lists that functions hand back. -/
import Derived.Test.YtknflipongbngaaDoorXSl
import Derived.Test.YtknflipongbngaaDoorD1
import Derived.Test.YtknflipongbngaaDoorP3
namespace Go.S
open Go Go.X
def rowsI (A : List (List Int)) : List (List Value) := A.map ints
@[simp] theorem length_rowsI (A : List (List Int)) : (rowsI A).length = A.length := by simp [rowsI]
/-- Rains, and what they leave, handed back. -/
structure RnR (l : List Int) (A : List (List Int)) (v : Value) (own : X.Own) : Prop where
  ex : ∃ r1 r2 : Sl, r1.Ok l.length 1 (ints l) ∧ r2.Ok A.length 20 (rowsI A).flatten ∧ v = .tuple ⟨[r1.val l.length, r2.val A.length]⟩ ∧ own = [r1.ent 3 (ints l), r2.ent 156 (rowsI A).flatten]
structure RnR3 (l : List Int) (A : List (List Int)) (e : Int) (v : Value) (own : X.Own) : Prop where
  ex : ∃ r1 r2 : Sl, r1.Ok l.length 1 (ints l) ∧ r2.Ok A.length 20 (rowsI A).flatten ∧ v = .tuple ⟨[r1.val l.length, r2.val A.length, .int .i64 e]⟩ ∧ own = [r1.ent 3 (ints l), r2.ent 156 (rowsI A).flatten]
structure IsR2 (l : List Int) (e : Int) (v : Value) (own : X.Own) : Prop where
  ex : ∃ r1 : Sl, r1.Ok l.length 1 (ints l) ∧ v = .tuple ⟨[r1.val l.length, .int .i64 e]⟩ ∧ own = [r1.ent 3 (ints l)]
theorem Ok.n {r : Sl} {n : Nat} {l : List Int} (h : r.Ok n 1 (ints l)) : n = l.length := by have := h.len; simp at this; omega
theorem Ok.rows {r : Sl} {n : Nat} {A : List (List Int)} (h : r.Ok n 20 (rowsI A).flatten) (hA : ∀ x ∈ A, x.length = 20) : n = A.length := by
  have h1 := h.len
  rw [length_flatten (k := 20) (by intro q hq; obtain ⟨x, hx, rfl⟩ := List.mem_map.1 hq; simp [hA x hx])] at h1
  simp at h1; omega
theorem _root_.Go.X.Mem.at {w0 : World} {own : X.Own} {b off o' j : Nat} {vs : List Value} {v : Value} (h : Mem w0 own b off vs) (hv : vs[j]? = some v) (ho : o' = off + j) : Mem w0 own b o' [v] := by
  subst ho
  exact h.sub (takeAt_one hv)
theorem rowI {w : World} {ao : Option Addr} {A : List (List Int)} (h : RowsAt w ao 20 (rowsI A)) {i : Nat} (hi : i < A.length) :
    ∃ b o, ao = some ⟨b, o, none⟩ ∧ ∀ own, Mem w own b (o + i * 20) (ints (A.getD i [])) := h.get (by simp [rowsI, hi])
theorem oneI {w : World} {ao : Option Addr} {l : List Int} (h : RowsAt w ao 1 (ones l)) {i : Nat} (hi : i < l.length) :
    ∃ b o, ao = some ⟨b, o, none⟩ ∧ ∀ own, Mem w own b (o + i * 1) [.int .i64 (l.getD i 0)] := h.get (by simp [ones, hi])
theorem len20 {A : List (List Int)} (hA : ∀ x ∈ A, x.length = 20) {i : Nat} (hi : i < A.length) : (A.getD i []).length = 20 := by
  rw [List.getD_eq_getElem?_getD, List.getElem?_eq_getElem hi]
  exact hA _ (List.getElem_mem hi)
theorem ones_flatten (l : List Int) : (ones l).flatten = ints l := by
  induction l with
  | nil => rfl
  | cons x l ih => simpa [ones, ints] using ih
theorem slOnes {w0 w : World} {own : X.Own} (hI : Inv w0 own w) {r : Sl} {E : TypeId} {i : Nat} {l : List Int} {n : Nat} (hok : r.Ok n 1 (ints l)) (hi : own[i]? = some (r.ent E (ints l))) : RowsAt w r.addr 1 (ones l) := by
  rw [← ones_flatten] at hok hi
  exact Sl.rows hI (by omega) hok hi (by intro q hq; obtain ⟨x, _, rfl⟩ := List.mem_map.1 hq; rfl)
theorem slRows {w0 w : World} {own : X.Own} (hI : Inv w0 own w) {r : Sl} {E : TypeId} {i : Nat} {A : List (List Int)} {n : Nat} (hA : ∀ x ∈ A, x.length = 20) (hok : r.Ok n 20 (rowsI A).flatten) (hi : own[i]? = some (r.ent E (rowsI A).flatten)) : RowsAt w r.addr 20 (rowsI A) :=
  Sl.rows hI (by omega) hok hi (by intro q hq; obtain ⟨x, hx, rfl⟩ := List.mem_map.1 hq; simp [hA x hx])
theorem RnR3.errs {s : Sp} {week e : Int} (h : toldE s week = e) (he : e ≠ 0) :
    RnR3 (toldL s week) (toldA s week) (toldE s week) (.tuple ⟨[.slice none 0 0, .slice none 0 0, .int .i64 e]⟩) [Sl.nil.ent 3 [], Sl.nil.ent 156 []] := by
  have hl := toldL_bad h he
  refine ⟨Sl.nil, Sl.nil, ?_, ?_, ?_, ?_⟩ <;> simp only [toldA, hl, lvsL, List.map_nil, List.length_nil, h]
  · exact .none _
  · exact .none _
  · rfl
  · rfl
/-! ### springs handed back -/
def Ln.ints (x : Ln) : List Int := [x.r0, x.r1, x.wk, x.g0, x.g1]
def Rd.ints (x : Rd) : List Int := [x.num, x.wk, x.bu, x.s0, x.s1]
theorem Ln.ints_inj {x y : Ln} : x.ints = y.ints ↔ x = y := by cases x; cases y; simp [Ln.ints]
theorem Rd.ints_inj {x y : Rd} : x.ints = y.ints ↔ x = y := by cases x; cases y; simp [Rd.ints]
def bookC (s : Sp) : List Value := (s.book.map Ln.cells).flatten
def readsC (s : Sp) : List Value := (s.reads.map Rd.cells).flatten
theorem bookC_len (s : Sp) : (bookC s).length = s.book.length * 5 := by
  rw [bookC, length_flatten (k := 5) (by intro q hq; obtain ⟨x, _, rfl⟩ := List.mem_map.1 hq; rfl), List.length_map]
theorem readsC_len (s : Sp) : (readsC s).length = s.reads.length * 5 := by
  rw [readsC, length_flatten (k := 5) (by intro q hq; obtain ⟨x, _, rfl⟩ := List.mem_map.1 hq; rfl), List.length_map]
theorem bookC_one (s : Sp) : (bookC s).all isOne = true := by
  rw [List.all_eq_true]; intro v hv
  obtain ⟨q, hq, hv⟩ := List.mem_flatten.1 hv
  obtain ⟨x, _, rfl⟩ := List.mem_map.1 hq
  simp [Ln.cells] at hv
  rcases hv with rfl | rfl | rfl | rfl | rfl <;> rfl
theorem readsC_one (s : Sp) : (readsC s).all isOne = true := by
  rw [List.all_eq_true]; intro v hv
  obtain ⟨q, hq, hv⟩ := List.mem_flatten.1 hv
  obtain ⟨x, _, rfl⟩ := List.mem_map.1 hq
  simp [Rd.cells] at hv
  rcases hv with rfl | rfl | rfl | rfl | rfl <;> rfl
variable {w : World} {s : Sp} {bo ro : Option Addr}
theorem SpAt.bookSrc (h : SpAt w s bo ro) (own : X.Own) : Src w own bo s.book.length (bookC s) := by
  have := h.book.src (by omega) (by intro q hq; obtain ⟨x, _, rfl⟩ := List.mem_map.1 hq; rfl) own
  rwa [List.length_map] at this
theorem SpAt.readsSrc (h : SpAt w s bo ro) (own : X.Own) : Src w own ro s.reads.length (readsC s) := by
  have := h.reads.src (by omega) (by intro q hq; obtain ⟨x, _, rfl⟩ := List.mem_map.1 hq; rfl) own
  rwa [List.length_map] at this
/-- A spring with lists of its own. -/
def spV (s : Sp) (r1 r2 : Sl) : Value := .agg ⟨[.int .i64 s.weeks, .int .i64 s.most, .int .i64 s.fall, .int .i64 s.a0, .int .i64 s.a1, .int .i64 s.w0, .int .i64 s.w1, r1.val s.book.length, r2.val s.reads.length]⟩
structure SpR (s : Sp) (v : Value) (own : X.Own) : Prop where
  ex : ∃ r1 r2 : Sl, r1.Ok s.book.length 5 (bookC s) ∧ r2.Ok s.reads.length 5 (readsC s) ∧ v = spV s r1 r2 ∧ own = [r1.ent 61 (bookC s), r2.ent 54 (readsC s)]
/-- .. lies in memory. -/
theorem spAtOwn {w0 : World} {own : X.Own} (hI : Inv w0 own w) {r1 r2 : Sl} {i j : Nat} (o1 : r1.Ok s.book.length 5 (bookC s)) (o2 : r2.Ok s.reads.length 5 (readsC s)) (h1 : own[i]? = some (r1.ent 61 (bookC s))) (h2 : own[j]? = some (r2.ent 54 (readsC s))) :
    SpAt w s r1.addr r2.addr :=
  ⟨Sl.rows hI (by omega) o1 h1 (by intro q hq; obtain ⟨x, _, rfl⟩ := List.mem_map.1 hq; rfl), Sl.rows hI (by omega) o2 h2 (by intro q hq; obtain ⟨x, _, rfl⟩ := List.mem_map.1 hq; rfl)⟩
theorem SpAt.lineD (h : SpAt w s bo ro) {i : Nat} (hi : i < s.book.length) :
    ∃ b o, bo = some ⟨b, o, none⟩ ∧ ∀ own, Mem w own b (o + i * 5) (s.book.getD i default).cells := by
  have := h.line hi
  rwa [show s.book[i] = s.book.getD i default from by simp [hi]] at this
theorem SpAt.readD (h : SpAt w s bo ro) {i : Nat} (hi : i < s.reads.length) :
    ∃ b o, ro = some ⟨b, o, none⟩ ∧ ∀ own, Mem w own b (o + i * 5) (s.reads.getD i default).cells := by
  have := h.read hi
  rwa [show s.reads[i] = s.reads.getD i default from by simp [hi]] at this
theorem list_extD {α : Type} [Inhabited α] {l m : List α} (hl : l.length = m.length) (h : ∀ i, i < l.length → l.getD i default = m.getD i default) : l = m :=
  List.ext_getElem hl fun i h1 h2 => by have := h i h1; simpa [h1, h2] using this
theorem sp_ext {x y : Sp} (h : ((((((x.weeks = y.weeks ∧ x.most = y.most) ∧ x.fall = y.fall) ∧ x.a0 = y.a0 ∧ x.a1 = y.a1) ∧ x.w0 = y.w0 ∧ x.w1 = y.w1) ∧ x.book.length = y.book.length) ∧ x.reads.length = y.reads.length))
    (h1 : ∀ i, i < x.book.length → x.book.getD i default = y.book.getD i default) (h2 : ∀ i, i < x.reads.length → x.reads.getD i default = y.reads.getD i default) : x = y := by
  obtain ⟨⟨⟨⟨⟨⟨e1, e2⟩, e3⟩, e4, e5⟩, e6, e7⟩, e8⟩, e9⟩ := h
  have e10 := list_extD e8 h1
  have e11 := list_extD e9 h2
  cases x; cases y; simp_all
end Go.S
