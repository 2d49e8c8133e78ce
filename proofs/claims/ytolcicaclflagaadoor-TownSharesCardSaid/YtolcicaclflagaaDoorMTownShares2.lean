/- Texts of the proof, merged: D2, D3, P4, P5, D4, P6, P7, P8, P9, P10, D5, P11, D6, T1, T2, T3, T4, T5, T6, TD1, Facts, KT1, XVar, XStop, XB, XCv, XBit, P12, P14, P16, P17, P18, P19, T7, TD2, TD3, T8, T9, T10, T13. -/
import Derived.Test.YtolcicaclflagaaDoorMTownShares1
import Derived.Test.YtolcicaclflagaaDoorProg
import Derived.Test.YtolcicaclflagaaDoorCards
import Derived.Test.YtolcicaclflagaaDoorTie
import Derived.WalkKit
import Derived.ProofKit
import Derived.LaidMore
import Derived.LaidHandle
import Derived.LaidSub
import Derived.Stop.Joined
import Derived.Deep.DeepHandedRow
/- Lists that functions hand back. -/
namespace Go.S
open Go Go.X
def rowsI (A : List (List Int)) : List (List Value) := A.map ints
@[simp] theorem length_rowsI (A : List (List Int)) : (rowsI A).length = A.length := by simp [rowsI]
/-- Rains, and what they leave, handed back. -/
structure RnR (l : List Int) (A : List (List Int)) (v : Value) (own : X.Own) : Prop where
  ex : ∃ r1 r2 : Sl, r1.Ok l.length 1 (ints l) ∧ r2.Ok A.length 20 (rowsI A).flatten ∧ v = .tuple ⟨[r1.val l.length, r2.val A.length]⟩ ∧ own = [r1.ent 3 (ints l), r2.ent 155 (rowsI A).flatten]
structure RnR3 (l : List Int) (A : List (List Int)) (e : Int) (v : Value) (own : X.Own) : Prop where
  ex : ∃ r1 r2 : Sl, r1.Ok l.length 1 (ints l) ∧ r2.Ok A.length 20 (rowsI A).flatten ∧ v = .tuple ⟨[r1.val l.length, r2.val A.length, .int .i64 e]⟩ ∧ own = [r1.ent 3 (ints l), r2.ent 155 (rowsI A).flatten]
structure IsR2 (l : List Int) (e : Int) (v : Value) (own : X.Own) : Prop where
  ex : ∃ r1 : Sl, r1.Ok l.length 1 (ints l) ∧ v = .tuple ⟨[r1.val l.length, .int .i64 e]⟩ ∧ own = [r1.ent 3 (ints l)]
theorem Ok.n {r : Sl} {n : Nat} {l : List Int} (h : r.Ok n 1 (ints l)) : n = l.length := by have := h.len; simp at this; omega
theorem Ok.rows {r : Sl} {n : Nat} {A : List (List Int)} (h : r.Ok n 20 (rowsI A).flatten) (hA : ∀ x ∈ A, x.length = 20) : n = A.length := by
  have h1 := h.len
  rw [length_flatten (k := 20) (by intro q hq; obtain ⟨x, hx, rfl⟩ := List.mem_map.1 hq; simp [hA x hx])] at h1
  simp at h1; omega
theorem _root_.Go.X.Mem.at {w0 : World} {own : X.Own} {b off o' j : Nat} {vs : List Value} {v : Value} (h : Mem w0 own b off vs) (hv : vs[j]? = some v) (ho : o' = off + j) : Mem w0 own b o' [v] := by
  subst ho
  exact h.sub (takeAt_one hv)
theorem rowI {w : World} {ao : Option Addr} {A : List (List Int)} (h : RowsAt w ao 20 (rowsI A)) {i : Nat} (hi : i < A.length) :
    ∃ b o, ao = some ⟨b, o, none⟩ ∧ ∀ own, Mem w own b (o + i * 20) (ints (A.getD i [])) := h.get (by simp [rowsI, hi])
theorem oneI {w : World} {ao : Option Addr} {l : List Int} (h : RowsAt w ao 1 (ones l)) {i : Nat} (hi : i < l.length) :
    ∃ b o, ao = some ⟨b, o, none⟩ ∧ ∀ own, Mem w own b (o + i * 1) [.int .i64 (l.getD i 0)] := h.get (by simp [ones, hi])
theorem len20 {A : List (List Int)} (hA : ∀ x ∈ A, x.length = 20) {i : Nat} (hi : i < A.length) : (A.getD i []).length = 20 := by
  rw [List.getD_eq_getElem?_getD, List.getElem?_eq_getElem hi]
  exact hA _ (List.getElem_mem hi)
theorem ones_flatten (l : List Int) : (ones l).flatten = ints l := by
  induction l with
  | nil => rfl
  | cons x l ih => simpa [ones, ints] using ih
theorem slOnes {w0 w : World} {own : X.Own} (hI : Inv w0 own w) {r : Sl} {E : TypeId} {i : Nat} {l : List Int} {n : Nat} (hok : r.Ok n 1 (ints l)) (hi : own[i]? = some (r.ent E (ints l))) : RowsAt w r.addr 1 (ones l) := by
  rw [← ones_flatten] at hok hi
  exact Sl.rows hI (by omega) hok hi (by intro q hq; obtain ⟨x, _, rfl⟩ := List.mem_map.1 hq; rfl)
theorem slRows {w0 w : World} {own : X.Own} (hI : Inv w0 own w) {r : Sl} {E : TypeId} {i : Nat} {A : List (List Int)} {n : Nat} (hA : ∀ x ∈ A, x.length = 20) (hok : r.Ok n 20 (rowsI A).flatten) (hi : own[i]? = some (r.ent E (rowsI A).flatten)) : RowsAt w r.addr 20 (rowsI A) :=
  Sl.rows hI (by omega) hok hi (by intro q hq; obtain ⟨x, hx, rfl⟩ := List.mem_map.1 hq; simp [hA x hx])
theorem RnR3.errs {s : Sp} {week e : Int} (h : toldE s week = e) (he : e ≠ 0) :
    RnR3 (toldL s week) (toldA s week) (toldE s week) (.tuple ⟨[.slice none 0 0, .slice none 0 0, .int .i64 e]⟩) [Sl.nil.ent 3 [], Sl.nil.ent 155 []] := by
  have hl := toldL_bad h he
  refine ⟨Sl.nil, Sl.nil, ?_, ?_, ?_, ?_⟩ <;> simp only [toldA, hl, lvsL, List.map_nil, List.length_nil, h]
  · exact .none _
  · exact .none _
  · rfl
  · rfl
/-! ### springs handed back -/
def Ln.ints (x : Ln) : List Int := [x.r0, x.r1, x.wk, x.g0, x.g1]
def Rd.ints (x : Rd) : List Int := [x.num, x.wk, x.bu, x.s0, x.s1]
theorem Ln.ints_inj {x y : Ln} : x.ints = y.ints ↔ x = y := by cases x; cases y; simp [Ln.ints]
theorem Rd.ints_inj {x y : Rd} : x.ints = y.ints ↔ x = y := by cases x; cases y; simp [Rd.ints]
def bookC (s : Sp) : List Value := (s.book.map Ln.cells).flatten
def readsC (s : Sp) : List Value := (s.reads.map Rd.cells).flatten
theorem bookC_len (s : Sp) : (bookC s).length = s.book.length * 5 := by
  rw [bookC, length_flatten (k := 5) (by intro q hq; obtain ⟨x, _, rfl⟩ := List.mem_map.1 hq; rfl), List.length_map]
theorem readsC_len (s : Sp) : (readsC s).length = s.reads.length * 5 := by
  rw [readsC, length_flatten (k := 5) (by intro q hq; obtain ⟨x, _, rfl⟩ := List.mem_map.1 hq; rfl), List.length_map]
theorem bookC_one (s : Sp) : (bookC s).all isOne = true := by
  rw [List.all_eq_true]; intro v hv
  obtain ⟨q, hq, hv⟩ := List.mem_flatten.1 hv
  obtain ⟨x, _, rfl⟩ := List.mem_map.1 hq
  simp [Ln.cells] at hv
  rcases hv with rfl | rfl | rfl | rfl | rfl <;> rfl
theorem readsC_one (s : Sp) : (readsC s).all isOne = true := by
  rw [List.all_eq_true]; intro v hv
  obtain ⟨q, hq, hv⟩ := List.mem_flatten.1 hv
  obtain ⟨x, _, rfl⟩ := List.mem_map.1 hq
  simp [Rd.cells] at hv
  rcases hv with rfl | rfl | rfl | rfl | rfl <;> rfl
variable {w : World} {s : Sp} {bo ro : Option Addr}
theorem SpAt.bookSrc (h : SpAt w s bo ro) (own : X.Own) : Src w own bo s.book.length (bookC s) := by
  have := h.book.src (by omega) (by intro q hq; obtain ⟨x, _, rfl⟩ := List.mem_map.1 hq; rfl) own
  rwa [List.length_map] at this
theorem SpAt.readsSrc (h : SpAt w s bo ro) (own : X.Own) : Src w own ro s.reads.length (readsC s) := by
  have := h.reads.src (by omega) (by intro q hq; obtain ⟨x, _, rfl⟩ := List.mem_map.1 hq; rfl) own
  rwa [List.length_map] at this
/-- A spring with lists of its own. -/
def spV (s : Sp) (r1 r2 : Sl) : Value := .agg ⟨[.int .i64 s.weeks, .int .i64 s.most, .int .i64 s.fall, .int .i64 s.a0, .int .i64 s.a1, .int .i64 s.w0, .int .i64 s.w1, r1.val s.book.length, r2.val s.reads.length]⟩
structure SpR (s : Sp) (v : Value) (own : X.Own) : Prop where
  ex : ∃ r1 r2 : Sl, r1.Ok s.book.length 5 (bookC s) ∧ r2.Ok s.reads.length 5 (readsC s) ∧ v = spV s r1 r2 ∧ own = [r1.ent 129 (bookC s), r2.ent 131 (readsC s)]
/-- .. lies in memory. -/
theorem spAtOwn {w0 : World} {own : X.Own} (hI : Inv w0 own w) {r1 r2 : Sl} {i j : Nat} (o1 : r1.Ok s.book.length 5 (bookC s)) (o2 : r2.Ok s.reads.length 5 (readsC s)) (h1 : own[i]? = some (r1.ent 129 (bookC s))) (h2 : own[j]? = some (r2.ent 131 (readsC s))) :
    SpAt w s r1.addr r2.addr :=
  ⟨Sl.rows hI (by omega) o1 h1 (by intro q hq; obtain ⟨x, _, rfl⟩ := List.mem_map.1 hq; rfl), Sl.rows hI (by omega) o2 h2 (by intro q hq; obtain ⟨x, _, rfl⟩ := List.mem_map.1 hq; rfl)⟩
theorem SpAt.lineD (h : SpAt w s bo ro) {i : Nat} (hi : i < s.book.length) :
    ∃ b o, bo = some ⟨b, o, none⟩ ∧ ∀ own, Mem w own b (o + i * 5) (s.book.getD i default).cells := by
  have := h.line hi
  rwa [show s.book[i] = s.book.getD i default from by simp [hi]] at this
theorem SpAt.readD (h : SpAt w s bo ro) {i : Nat} (hi : i < s.reads.length) :
    ∃ b o, ro = some ⟨b, o, none⟩ ∧ ∀ own, Mem w own b (o + i * 5) (s.reads.getD i default).cells := by
  have := h.read hi
  rwa [show s.reads[i] = s.reads.getD i default from by simp [hi]] at this
theorem list_extD {α : Type} [Inhabited α] {l m : List α} (hl : l.length = m.length) (h : ∀ i, i < l.length → l.getD i default = m.getD i default) : l = m :=
  List.ext_getElem hl fun i h1 h2 => by have := h i h1; simpa [h1, h2] using this
theorem sp_ext {x y : Sp} (h : ((((((x.weeks = y.weeks ∧ x.most = y.most) ∧ x.fall = y.fall) ∧ x.a0 = y.a0 ∧ x.a1 = y.a1) ∧ x.w0 = y.w0 ∧ x.w1 = y.w1) ∧ x.book.length = y.book.length) ∧ x.reads.length = y.reads.length))
    (h1 : ∀ i, i < x.book.length → x.book.getD i default = y.book.getD i default) (h2 : ∀ i, i < x.reads.length → x.reads.getD i default = y.reads.getD i default) : x = y := by
  obtain ⟨⟨⟨⟨⟨⟨e1, e2⟩, e3⟩, e4, e5⟩, e6, e7⟩, e8⟩, e9⟩ := h
  have e10 := list_extD e8 h1
  have e11 := list_extD e9 h2
  cases x; cases y; simp_all
end Go.S

/- The variables of the package spring; slices of the call's own as arguments. -/
namespace Go.S
open Go Go.X Go.RowKit
def chkId : Nat → Nat
  | 0 => 147
  | 1 => 148
  | 2 => 150
  | 3 => 151
  | _ => 154
def chkFn (k : Nat) : Value := .func (.func (chkId k)) ⟨[]⟩ ⟨[]⟩
def chkCells : List Value := [chkFn 0, chkFn 1, chkFn 2, chkFn 3, chkFn 4]
def noneCells : List Value := [.int .i64 1, .int .i64 0]
/-- What the package's variables hold. -/
structure Gl (w : World) : Prop where
  checks : ∀ j v, chkCells[j]? = some v → w.cell? ⟨1, 0 + j, none⟩ = some v
  none : ∀ j v, noneCells[j]? = some v → w.cell? ⟨2, 0 + j, none⟩ = some v
variable {w0 w w' : World} {own : X.Own}
theorem cell_keep {a : Addr} {v : Value} (h : w0.cell? a = some v) (hb : Below w0.heap.size w0 w) : w.cell? a = some v := by
  rw [hb.cell (cell_lt h)]; exact h
theorem Gl.inv (h : Gl w0) (hI : Inv w0 own w) : Gl w := ⟨fun j v hj => cell_keep (h.checks j v hj) hI.below, fun j v hj => cell_keep (h.none j v hj) hI.below⟩
theorem Gl.memC (h : Gl w) (own : X.Own) : Mem w own 1 0 chkCells := Mem.out h.checks
theorem Gl.memN (h : Gl w) (own : X.Own) : Mem w own 2 0 noneCells := Mem.out h.none
theorem belowT (hI : Inv w0 own w) (hb : Below w.heap.size w w') : Below w0.heap.size w0 w' := hI.below.trans (hb.mono hI.below.size)
theorem ownCell (hI : Inv w0 own w) {i b j : Nat} {l : List Value} {E : TypeId} {fz : Nat × Nat} {v : Value} (hi : own[i]? = some (b, .cells ⟨l⟩ E fz)) (hl : l[j]? = some v) : w.cell? ⟨b, j, none⟩ = some v := by
  simp [World.cell?, (hI.get hi (live_of_get hl)).2, hl]
theorem ownOnes (hI : Inv w0 own w) {i b : Nat} (l : List Int) {E : TypeId} {fz : Nat × Nat} (hi : own[i]? = some (b, .cells ⟨ints l⟩ E fz)) : RowsAt w (some ⟨b, 0, none⟩) 1 (ones l) :=
  RowsAt.ofOwn hI hi fun n r hn j u hj => by
    simp only [ones, List.getElem?_map, Option.map_eq_some_iff] at hn
    obtain ⟨x, hx, rfl⟩ := hn
    obtain ⟨hlt, he⟩ := List.getElem?_eq_some_iff.1 hj
    have : j = 0 := by simpa using hlt
    subst this
    simp at he
    subst he
    simp [ints, hx]
end Go.S

/- What the package spring asks of a spring: the plain words. Nothing of Go stands here. -/
namespace Go.S
def lastN (s : Sp) : Nat → Int
  | 0 => 0
  | k + 1 => (s.reads.getD k default).num
def ckP (s : Sp) : Nat → Prop
  | 0 => Wi s.weeks 1 10 ∧ (Wi s.most 0 100 ∧ Wi s.fall 0 100)
  | 1 => Spn s.a0 s.a1 1 600 ∧ Spn s.w0 s.w1 0 20
  | 2 => (s.book.length : Int) ≤ 8 ∧ (s.reads.length : Int) ≤ 12
  | 3 => BookP s
  | _ => ReadsP s
instance (s : Sp) : ∀ k, Decidable (ckP s k)
  | 0 => inferInstanceAs (Decidable (Wi s.weeks 1 10 ∧ (Wi s.most 0 100 ∧ Wi s.fall 0 100)))
  | 1 => inferInstanceAs (Decidable (Spn s.a0 s.a1 1 600 ∧ Spn s.w0 s.w1 0 20))
  | 2 => inferInstanceAs (Decidable ((s.book.length : Int) ≤ 8 ∧ (s.reads.length : Int) ≤ 12))
  | 3 => inferInstanceAs (Decidable (BookP s))
  | _ + 4 => inferInstanceAs (Decidable (ReadsP s))
theorem in_iff (l : List Int) (lo hi : Int) : (¬∃ k, k < l.length ∧ (l.getD k 0 < lo ∨ hi < l.getD k 0)) ↔ ∀ x ∈ l, Wi x lo hi := by
  constructor
  · intro h x hx
    obtain ⟨k, hk, rfl⟩ := List.getElem_of_mem hx
    refine Decidable.byContradiction fun hn => h ⟨k, hk, ?_⟩
    simp only [List.getD_eq_getElem?_getD, List.getElem?_eq_getElem hk, Option.getD_some]
    omega
  · rintro h ⟨k, hk, hc⟩
    have := h _ (List.getElem_mem hk)
    simp only [List.getD_eq_getElem?_getD, List.getElem?_eq_getElem hk, Option.getD_some] at hc
    omega
theorem book_iff (s : Sp) : (¬∃ k, k < s.book.length ∧ ¬LnP (s.book.getD k default) s.weeks) ↔ BookP s := by
  constructor
  · intro h i hi
    refine Decidable.byContradiction fun hn => h ⟨i, hi, ?_⟩
    simpa [hi] using hn
  · rintro h ⟨k, hk, hc⟩
    exact hc (by simpa [hk] using h k hk)
theorem reads_iff (s : Sp) : ReadsP s ↔ ∀ i, i < s.reads.length → RdP (s.reads.getD i default) s.weeks ∧ lastN s i < (s.reads.getD i default).num := by
  have hg : ∀ i (hi : i < s.reads.length), s.reads.getD i default = s.reads[i] := fun i hi => by simp [hi]
  constructor
  · intro h i hi
    have h1 := h i hi
    rw [hg i hi]
    refine ⟨h1.1, ?_⟩
    cases i with
    | zero => have := h1.1; simp only [lastN]; omega
    | succ i => have := h1.2 (by omega); simpa [lastN] using this
  · intro h i hi
    have h1 := h i hi
    rw [hg i hi] at h1
    refine ⟨h1.1, fun h0 => ?_⟩
    cases i with
    | zero => omega
    | succ i => simpa [lastN] using h1.2
theorem ck_iff (s : Sp) : SpP s ↔ ∀ k, k < 5 → ckP s k := by
  constructor
  · rintro ⟨h1, h2, h3⟩ k hk
    unfold HeadP at h1
    match k, hk with
    | 0, _ => simp only [ckP]; omega
    | 1, _ => simp only [ckP]; omega
    | 2, _ => simp only [ckP]; omega
    | 3, _ => exact h2
    | 4, _ => exact h3
  · intro h
    have h0 := h 0 (by omega); have h1 := h 1 (by omega); have h2 := h 2 (by omega)
    simp only [ckP] at h0 h1 h2
    refine ⟨?_, h 3 (by omega), h 4 (by omega)⟩
    unfold HeadP
    omega
end Go.S

/- What readings leave, as the package spring reckons it: the plain words. Nothing of Go stands here. -/
namespace Go.S
open Go.X (G)
def bothP (a b c d : Int) : Int × Int := if min b d < max a c then (1, 0) else (max a c, min b d)
def readsP (s : Sp) (x : Rd) : Int × Int :=
  bothP ((3600 * x.bu + x.s1 * s.a1 - 1) / (x.s1 * s.a1)) (if 0 < x.s0 * s.a0 then min s.most ((3600 * x.bu) / (x.s0 * s.a0)) else s.most) 0 s.most
def set2 (M : List Int) (i : Nat) (p : Int × Int) : List Int := (M.set (i * 2) p.1).set (i * 2 + 1) p.2
abbrev Lo (M : List Int) (i : Nat) : Int := G M (i * 2)
abbrev Hi (M : List Int) (i : Nat) : Int := G M (i * 2 + 1)
@[simp] theorem length_set2 (M : List Int) (i : Nat) (p : Int × Int) : (set2 M i p).length = M.length := by simp [set2]
def fl0 (s : Sp) : Nat → List Int
  | 0 => List.replicate 20 0
  | k + 1 => set2 (fl0 s k) k (0, s.most)
def flTo (s : Sp) : Nat → List Int
  | 0 => fl0 s s.weeks.toNat
  | k + 1 => let x := s.reads.getD k default
    set2 (flTo s k) x.wk.toNat (bothP (Lo (flTo s k) x.wk.toNat) (Hi (flTo s k) x.wk.toNat) (readsP s x).1 (readsP s x).2)
def flL (s : Sp) : List Int := flTo s s.reads.length
@[simp] theorem fl0_len (s : Sp) : ∀ k, (fl0 s k).length = 20
  | 0 => by simp [fl0]
  | k + 1 => by simp [fl0, fl0_len s k]
@[simp] theorem flTo_len (s : Sp) : ∀ k, (flTo s k).length = 20
  | 0 => by simp [flTo]
  | k + 1 => by simp [flTo, flTo_len s k]
/-- Spans as the package spring keeps them: empty ones are (1, 0), the others lie from 0 to 100. -/
def Sb (M : List Int) : Prop := ∀ i, i < 10 → (Lo M i = 1 ∧ Hi M i = 0) ∨ (0 ≤ Lo M i ∧ Lo M i ≤ Hi M i ∧ Hi M i ≤ 100)
theorem set2_at {M : List Int} (hM : M.length = 20) {i j : Nat} (hi : i < 10) (_hj : j < 10) (p : Int × Int) : Lo (set2 M i p) j = (if i = j then p.1 else Lo M j) ∧ Hi (set2 M i p) j = (if i = j then p.2 else Hi M j) := by
  unfold set2 Lo Hi
  constructor
  · rw [G_set (by simp; omega), if_neg (by omega), G_set (by omega)]
    by_cases h : i = j
    · rw [if_pos (by omega), if_pos h]
    · rw [if_neg (by omega), if_neg h]
  · rw [G_set (by simp; omega)]
    by_cases h : i = j
    · rw [if_pos (by omega), if_pos h]
    · rw [if_neg (by omega), if_neg h, G_set (by omega), if_neg (by omega)]
theorem Sb.set {M : List Int} (hM : M.length = 20) (h : Sb M) {i : Nat} (hi : i < 10) {p : Int × Int} (hp : (p.1 = 1 ∧ p.2 = 0) ∨ (0 ≤ p.1 ∧ p.1 ≤ p.2 ∧ p.2 ≤ 100)) : Sb (set2 M i p) := by
  intro j hj
  obtain ⟨h1, h2⟩ := set2_at hM hi hj p
  rw [h1, h2]
  by_cases e : i = j
  · rw [if_pos e, if_pos e]; exact hp
  · rw [if_neg e, if_neg e]; exact h j hj
theorem bothP_sb {a b c d : Int} (h : (a = 1 ∧ b = 0) ∨ (0 ≤ a ∧ a ≤ b ∧ b ≤ 100)) : ((bothP a b c d).1 = 1 ∧ (bothP a b c d).2 = 0) ∨ (0 ≤ (bothP a b c d).1 ∧ (bothP a b c d).1 ≤ (bothP a b c d).2 ∧ (bothP a b c d).2 ≤ 100) := by
  unfold bothP
  split
  · exact .inl ⟨rfl, rfl⟩
  · refine .inr ?_
    simp only
    omega
theorem fl0_sb {s : Sp} (hm : Wi s.most 0 100) : ∀ k, k ≤ 10 → Sb (fl0 s k)
  | 0, _ => by
    intro i hi
    have h : ∀ i, i < 10 → G (List.replicate 20 (0 : Int)) (i * 2) = 0 ∧ G (List.replicate 20 (0 : Int)) (i * 2 + 1) = 0 := by decide
    have := h i hi
    simp only [fl0, Lo, Hi, this.1, this.2]
    omega
  | k + 1, hk => (fl0_sb hm k (by omega)).set (fl0_len s k) (by omega) (.inr (by simp only; omega))
theorem flTo_sb {s : Sp} (hv : SpP s) : ∀ k, k ≤ s.reads.length → Sb (flTo s k)
  | 0, _ => by
    have h := hv.1; unfold HeadP at h
    exact fl0_sb h.2.1 _ (by omega)
  | k + 1, hk => by
    have ih := flTo_sb hv k (by omega)
    have h1 := hv.1; unfold HeadP at h1
    have h2 := (hv.2.2 k (by omega)).1
    have e : s.reads.getD k default = s.reads[k] := by simp [show k < s.reads.length by omega]
    simp only [flTo, e]
    exact ih.set (flTo_len s k) (by omega) (bothP_sb (ih _ (by omega)))
end Go.S

/- Springs at work in memory. -/
namespace Go.S
open Go Go.X Go.RowKit
def spanV (p : Int × Int) : Value := .agg ⟨[.int .i64 p.1, .int .i64 p.2]⟩
def sp9 (s : Sp) (bo ro : Option Addr) (bc rc : Nat) : List Value := [.int .i64 s.weeks, .int .i64 s.most, .int .i64 s.fall, .int .i64 s.a0, .int .i64 s.a1, .int .i64 s.w0, .int .i64 s.w1, .slice bo s.book.length bc, .slice ro s.reads.length rc]
/-- A spring at work: 29 cells. -/
def watC (s : Sp) (bo ro : Option Addr) (bc rc : Nat) (M : List Int) : List Value := sp9 s bo ro bc rc ++ ints M
theorem takeApp {A B vs : List Value} {off o' k : Nat} (a : Nat) (ha : A.length = a) (h : takeAt B off k = some vs) (ho : o' = a + off) : takeAt (A ++ B) o' k = some vs := by
  subst ho ha
  induction k generalizing off vs with
  | zero => simpa [takeAt] using h
  | succ k ih =>
    simp only [takeAt] at h ⊢
    split at h
    · rename_i v r hv hr
      rw [List.getElem?_append_right (by omega), Nat.add_sub_cancel_left, hv, Nat.add_assoc, ih hr]
      exact h
    · cases h
theorem putApp {vs B B' : List Value} {off o' : Nat} : ∀ {A : List Value} (a : Nat), A.length = a → putAt B off vs = some B' → o' = a + off → putAt (A ++ B) o' vs = some (A ++ B')
  | [], a, ha, h, ho => by
    simp at ha; subst ha ho
    simpa using h
  | x :: A, a, ha, h, ho => by
    subst ha ho
    have ih := putApp (A := A) (o' := A.length + off) A.length rfl h rfl
    rw [show (x :: A).length + off = (A.length + off) + 1 by simp; omega]
    cases vs with
    | nil => simp [putAt, ih]
    | cons v vs => simp [putAt, ih]
theorem ints_put2' {M : List Int} {off i : Nat} {p : Int × Int} (h : off = i * 2) (hi : i * 2 + 1 < M.length) : putAt (ints M) off [.int .i64 p.1, .int .i64 p.2] = some (ints (set2 M i p)) := ints_put2 h hi
theorem ints_take2' {M : List Int} {off i : Nat} (h : off = i * 2) (hi : i * 2 + 1 < M.length) : takeAt (ints M) off 2 = some [.int .i64 (Lo M i), .int .i64 (Hi M i)] := ints_take2 h hi
theorem watC_one (s : Sp) (bo ro : Option Addr) (bc rc : Nat) (M : List Int) : (watC s bo ro bc rc M).all isOne = true := by
  simp [watC, sp9, isOne, ints]
theorem watC_len {s : Sp} {bo ro : Option Addr} {bc rc : Nat} {M : List Int} (h : M.length = 20) : (watC s bo ro bc rc M).length = 29 := by simp [watC, sp9, h]
end Go.S
namespace Go.S
open Go Go.X
theorem chk_take (k : Nat) (hk : k < 5) : takeAt chkCells ((k : Int).toNat * 1) 1 = some [chkFn k] := by
  match k, hk with
  | 0, _ => rfl
  | 1, _ => rfl
  | 2, _ => rfl
  | 3, _ => rfl
  | 4, _ => rfl
theorem mul2 {a b A B : Int} (h0 : 0 ≤ a) (h1 : a ≤ A) (h2 : 0 ≤ b) (h3 : b ≤ B) : 0 ≤ a * b ∧ a * b ≤ A * B :=
  ⟨Int.mul_nonneg h0 h2, Int.mul_le_mul h1 h3 h2 (by omega)⟩
end Go.S
namespace Go.S
open Go Go.X
theorem at_lo {M : List Int} {off i : Nat} (h : off = i * 2) (hi : i * 2 < M.length) : (ints M)[off]? = some (.int .i64 (Lo M i)) := intsAtX h hi
theorem at_hi {M : List Int} {off i : Nat} (h : off = i * 2 + 1) (hi : i * 2 + 1 < M.length) : (ints M)[off]? = some (.int .i64 (Hi M i)) := intsAtX h hi
end Go.S

/- From week to week, and back: both ways of reckoning come to the same. Nothing of Go stands here. -/
namespace Go.S
open Go.X (G)
/-- What is given week by week, within bounds. -/
def Tr (n : Nat) (f : Int) (lo hi : Nat → Int) (t : Nat → Int) : Prop := ∀ w, w < n → lo w ≤ t w ∧ t w ≤ hi w ∧ (0 < w → t (w - 1) - f ≤ t w ∧ t w ≤ t (w - 1))
/-- All truths lie within. -/
def Wn (n : Nat) (f : Int) (lo hi lo' hi' : Nat → Int) : Prop := ∀ t, Tr n f lo hi t → ∀ w, w < n → lo' w ≤ t w ∧ t w ≤ hi' w
/-- The steps of the lower and the upper ends are right. -/
def Stp (n : Nat) (f : Int) (lo hi : Nat → Int) : Prop := ∀ w, w < n → 0 < w → (lo (w - 1) - f ≤ lo w ∧ lo w ≤ lo (w - 1)) ∧ (hi (w - 1) - f ≤ hi w ∧ hi w ≤ hi (w - 1))
theorem ends_true {n : Nat} {f : Int} {lo hi lo' hi' : Nat → Int} (hs : Stp n f lo' hi') (hsub : ∀ w, w < n → lo w ≤ lo' w ∧ hi' w ≤ hi w) (hne : ∀ w, w < n → lo' w ≤ hi' w) : Tr n f lo hi lo' ∧ Tr n f lo hi hi' := by
  constructor
  · intro w hw
    have h1 := hsub w hw; have h2 := hne w hw
    exact ⟨h1.1, by omega, fun h0 => (hs w hw h0).1⟩
  · intro w hw
    have h1 := hsub w hw; have h2 := hne w hw
    exact ⟨by omega, h1.2, fun h0 => (hs w hw h0).2⟩
/-- Two that hold all truths, and whose ends are truths, are the same. -/
theorem hull_unique {n : Nat} {f : Int} {lo hi l1 h1 l2 h2 : Nat → Int} (w1 : Wn n f lo hi l1 h1) (w2 : Wn n f lo hi l2 h2) (t1 : Tr n f lo hi l1 ∧ Tr n f lo hi h1) (t2 : Tr n f lo hi l2 ∧ Tr n f lo hi h2) : ∀ w, w < n → l1 w = l2 w ∧ h1 w = h2 w := by
  intro w hw
  have a := w1 _ t2.1 w hw; have b := w2 _ t1.1 w hw; have c := w1 _ t2.2 w hw; have d := w2 _ t1.2 w hw
  omega

/-! ### the reference: there and back -/
theorem setA_at {M : List Int} (hM : M.length = 20) {i j : Nat} (hi : i < 10) (hj : j < 10) (x y : Int) :
    G ((M.set i x).set (10 + i) y) j = (if i = j then x else G M j) ∧ G ((M.set i x).set (10 + i) y) (10 + j) = (if i = j then y else G M (10 + j)) := by
  constructor
  · rw [G_set (by simp; omega), if_neg (by omega), G_set (by omega)]
  · rw [G_set (by simp; omega)]
    by_cases h : i = j
    · rw [if_pos (by omega), if_pos h]
    · rw [if_neg (by omega), if_neg h, G_set (by omega), if_neg (by omega)]
structure FwdP (n : Nat) (f : Int) (L M : List Int) (j : Nat) : Prop where
  len : M.length = 20
  step : ∀ w, w ≤ j → 0 < w → G M (w - 1) - f ≤ G M w ∧ G M (10 + w) ≤ G M (10 + (w - 1))
  rest : ∀ w, w < 10 → j < w → G M w = G L w ∧ G M (10 + w) = G L (10 + w)
  sub : ∀ w, w < 10 → G L w ≤ G M w ∧ G M (10 + w) ≤ G L (10 + w)
  wn : Wn n f (fun w => G L w) (fun w => G L (10 + w)) (fun w => G M w) (fun w => G M (10 + w))
theorem fwd_ok {n : Nat} {f : Int} {L : List Int} (hL : L.length = 20) (hn : n ≤ 10) (hf : 0 ≤ f) : ∀ j, j + 1 ≤ n → FwdP n f L (fwdTo f L j) j
  | 0, _ => ⟨hL, fun w h h0 => by omega, fun w _ _ => ⟨rfl, rfl⟩, fun w _ => ⟨Int.le_refl _, Int.le_refl _⟩, fun t ht w hw => ⟨(ht w hw).1, (ht w hw).2.1⟩⟩
  | j + 1, hj => by
    have ih := fwd_ok hL hn hf j (by omega)
    have hs := fun (k : Nat) (hk : k < 10) => setA_at ih.len (i := j + 1) (j := k) (by omega) hk (max (G (fwdTo f L j) (j + 1)) (G (fwdTo f L j) j - f)) (min (G (fwdTo f L j) (10 + (j + 1))) (G (fwdTo f L j) (10 + j)))
    refine ⟨by simp [fwdTo, ih.len], fun w hw h0 => ?_, fun w h10 hw => ?_, fun w hw => ?_, fun t ht w hw => ?_⟩
    · simp only [fwdTo]
      have h1 := hs w (by omega); have h2 := hs (w - 1) (by omega)
      rw [h1.1, h1.2, h2.1, h2.2]
      by_cases e : j + 1 = w
      · subst e
        rw [if_pos rfl, if_pos rfl, if_neg (by omega), if_neg (by omega)]
        simp only [Nat.add_sub_cancel]
        omega
      · rw [if_neg e, if_neg e, if_neg (by omega), if_neg (by omega)]
        exact ih.step w (by omega) h0
    · simp only [fwdTo]
      have h1 := hs w h10
      rw [h1.1, h1.2, if_neg (by omega), if_neg (by omega)]
      exact ih.rest w h10 (by omega)
    · simp only [fwdTo]
      have h1 := hs w hw
      rw [h1.1, h1.2]
      have := ih.sub w hw
      by_cases e : j + 1 = w
      · subst e; rw [if_pos rfl, if_pos rfl]; omega
      · rw [if_neg e, if_neg e]; exact this
    · simp only [fwdTo]
      have h1 := hs w (by omega)
      rw [h1.1, h1.2]
      have := ih.wn t ht w hw
      by_cases e : j + 1 = w
      · subst e
        rw [if_pos rfl, if_pos rfl]
        have h2 := ih.wn t ht j (by omega)
        have h3 := (ht (j + 1) hw).2.2 (by omega)
        simp only [Nat.add_sub_cancel] at h3
        simp only at h2 this
        omega
      · rw [if_neg e, if_neg e]; exact this
/-- After j weeks back from n - 1. -/
structure BwdP (n : Nat) (f : Int) (L K M : List Int) (j : Nat) : Prop where
  len : M.length = 20
  done : ∀ w, w < n → 0 < w → n - 1 - j < w → (G M (w - 1) - f ≤ G M w ∧ G M w ≤ G M (w - 1)) ∧ (G M (10 + (w - 1)) - f ≤ G M (10 + w) ∧ G M (10 + w) ≤ G M (10 + (w - 1)))
  rest : ∀ w, w < 10 → (w + j + 1 < n ∨ n ≤ w ∨ w + 1 = n) → G M w = G K w ∧ G M (10 + w) = G K (10 + w)
  sub : ∀ w, w < 10 → G K w ≤ G M w ∧ G M (10 + w) ≤ G K (10 + w)
  wn : Wn n f (fun w => G L w) (fun w => G L (10 + w)) (fun w => G M w) (fun w => G M (10 + w))
theorem bwd_ok {n : Nat} {f : Int} {L K : List Int} (hn : n ≤ 10) (hn1 : 1 ≤ n) (hf : 0 ≤ f) (hK : FwdP n f L K (n - 1)) : ∀ j, j + 1 ≤ n → BwdP n f L K (bwdTo f (n - 1) K j) j
  | 0, _ => ⟨hK.len, fun w h h0 h1 => by omega, fun w _ _ => ⟨rfl, rfl⟩, fun w _ => ⟨Int.le_refl _, Int.le_refl _⟩, hK.wn⟩
  | j + 1, hj => by
    have ih := bwd_ok hn hn1 hf hK j (by omega)
    simp only [bwdTo, bwdAt]
    have he : n - 1 - 1 - j = n - 2 - j := by omega
    rw [he]
    have hs := fun (k : Nat) (hk : k < 10) => setA_at ih.len (i := n - 2 - j) (j := k) (by omega) hk (max (G (bwdTo f (n - 1) K j) (n - 2 - j)) (G (bwdTo f (n - 1) K j) (n - 2 - j + 1))) (min (G (bwdTo f (n - 1) K j) (10 + (n - 2 - j))) (G (bwdTo f (n - 1) K j) (10 + (n - 2 - j + 1)) + f))
    refine ⟨by simp [ih.len], fun w hw h0 h1 => ?_, fun w h10 hw => ?_, fun w hw => ?_, fun t ht w hw => ?_⟩
    · have a1 := hs w (by omega); have a2 := hs (w - 1) (by omega)
      rw [a1.1, a1.2, a2.1, a2.2]
      rw [if_neg (show ¬ n - 2 - j = w by omega), if_neg (show ¬ n - 2 - j = w by omega)]
      by_cases e : n - 2 - j = w - 1
      · rw [if_pos e, if_pos e]
        have e2 : n - 2 - j + 1 = w := by omega
        rw [e, show w - 1 + 1 = w by omega]
        have r1 := ih.rest (w - 1) (by omega) (by omega)
        have st := hK.step w (by omega) h0
        have sb := ih.sub w (by omega)
        rw [r1.1, r1.2]
        omega
      · rw [if_neg e, if_neg e]
        exact ih.done w hw h0 (by omega)
    · have a1 := hs w h10
      rw [a1.1, a1.2, if_neg (by omega), if_neg (by omega)]
      exact ih.rest w h10 (by omega)
    · have a1 := hs w hw
      rw [a1.1, a1.2]
      have := ih.sub w hw
      by_cases e : n - 2 - j = w
      · subst e; rw [if_pos rfl, if_pos rfl]; omega
      · rw [if_neg e, if_neg e]; exact this
    · have a1 := hs w (by omega)
      simp only
      rw [a1.1, a1.2]
      have := ih.wn t ht w hw
      by_cases e : n - 2 - j = w
      · subst e
        rw [if_pos rfl, if_pos rfl]
        have h2 := ih.wn t ht (n - 2 - j + 1) (by omega)
        have h3 := (ht (n - 2 - j + 1) (by omega)).2.2 (by omega)
        simp only [Nat.add_sub_cancel] at h3
        simp only at h2 this
        omega
      · rw [if_neg e, if_neg e]; exact this
/-- What the reference comes to, of what lines and readings leave (C). -/
structure RefP (n : Nat) (f : Int) (C X : List Int) : Prop where
  len : X.length = 20
  stp : Stp n f (fun w => G X w) (fun w => G X (10 + w))
  sub : ∀ w, w < 10 → G C w ≤ G X w ∧ G X (10 + w) ≤ G C (10 + w)
  rest : ∀ w, w < 10 → n ≤ w → G X w = G C w ∧ G X (10 + w) = G C (10 + w)
  wn : Wn n f (fun w => G C w) (fun w => G C (10 + w)) (fun w => G X w) (fun w => G X (10 + w))
theorem ref_ok {n : Nat} {f : Int} {C : List Int} (hC : C.length = 20) (hn : n ≤ 10) (hn1 : 1 ≤ n) (hf : 0 ≤ f) : RefP n f C (bwdTo f (n - 1) (fwdTo f C (n - 1)) (n - 1)) := by
  have h1 := fwd_ok hC hn hf (n - 1) (by omega)
  have h2 := bwd_ok hn hn1 hf h1 (n - 1) (by omega)
  refine ⟨h2.len, fun w hw h0 => h2.done w hw h0 (by omega), fun w hw => ?_, fun w hw hnw => ?_, h2.wn⟩
  · have a := h1.sub w hw; have b := h2.sub w hw; omega
  · have a := h1.rest w hw (by omega); have b := h2.rest w hw (by omega)
    rw [b.1, b.2]; exact a
end Go.S

/- The package spring: again and again until nothing turns. Nothing of Go stands here. -/
namespace Go.S
open Go.X (G)
/-- One step: week i by the week before, and back. -/
def step1 (f : Int) (M : List Int) (k : Nat) : List Int := set2 M (k + 1) (bothP (Lo M (k + 1)) (Hi M (k + 1)) (Lo M k - f) (Hi M k))
def step2 (f : Int) (M : List Int) (k : Nat) : List Int := set2 M k (bothP (Lo M k) (Hi M k) (Lo M (k + 1)) (Hi M (k + 1) + f))
def stepM (f : Int) (M : List Int) (k : Nat) : List Int := step2 f (step1 f M k) k
def NoneAt (M : List Int) (i : Nat) : Prop := Lo M i = 1 ∧ Hi M i = 0
instance (M : List Int) (i : Nat) : Decidable (NoneAt M i) := by unfold NoneAt; infer_instance
def psTo (f : Int) (M : List Int) : Nat → List Int
  | 0 => M
  | k + 1 => stepM f (psTo f M k) k
/-- No step has come to nothing. -/
def Alive (f : Int) (M : List Int) (k : Nat) : Prop := ∀ j, j < k → ¬NoneAt (psTo f M (j + 1)) j ∧ ¬NoneAt (psTo f M (j + 1)) (j + 1)
def sumW (M : List Int) : Nat → Int
  | 0 => 0
  | k + 1 => sumW M k + (Hi M k - Lo M k + 1)
@[simp] theorem step1_len (f : Int) (M : List Int) (k : Nat) : (step1 f M k).length = M.length := by simp [step1]
@[simp] theorem step2_len (f : Int) (M : List Int) (k : Nat) : (step2 f M k).length = M.length := by simp [step2]
@[simp] theorem stepM_len (f : Int) (M : List Int) (k : Nat) : (stepM f M k).length = M.length := by simp [stepM]
@[simp] theorem psTo_len (f : Int) (M : List Int) : ∀ k, (psTo f M k).length = M.length
  | 0 => rfl
  | k + 1 => by simp [psTo, psTo_len f M k]
theorem sumW_nonneg {M : List Int} (h : Sb M) : ∀ k, k ≤ 10 → 0 ≤ sumW M k
  | 0, _ => Int.le_refl _
  | k + 1, hk => by
    have := sumW_nonneg h k (by omega)
    have := h k (by omega)
    simp only [sumW]
    omega
theorem sumW_set {M : List Int} (hM : M.length = 20) {i : Nat} (hi : i < 10) (p : Int × Int) : ∀ k, k ≤ 10 → sumW (set2 M i p) k = sumW M k + (if i < k then (p.2 - p.1) - (Hi M i - Lo M i) else 0)
  | 0, _ => by simp [sumW]
  | k + 1, hk => by
    have ih := sumW_set hM hi p k (by omega)
    obtain ⟨h1, h2⟩ := set2_at hM hi (j := k) (by omega) p
    simp only [sumW, ih, h1, h2]
    by_cases e : i = k
    · subst e
      rw [if_pos rfl, if_pos rfl, if_neg (by omega), if_pos (by omega)]
      omega
    · rw [if_neg e, if_neg e]
      by_cases e2 : i < k
      · rw [if_pos e2, if_pos (by omega)]; omega
      · rw [if_neg e2, if_neg (by omega)]; omega
theorem list_ext20 {M K : List Int} (hM : M.length = 20) (hK : K.length = 20) (h : ∀ j, j < 10 → Lo M j = Lo K j ∧ Hi M j = Hi K j) : M = K := by
  refine List.ext_getElem (by omega) fun i h1 h2 => ?_
  have h3 := h (i / 2) (by omega)
  have hg : ∀ (L : List Int) (hi : i < L.length), G L i = L[i] := fun L hi => by simp [G, hi]
  rw [← hg M h1, ← hg K h2]
  by_cases e : i % 2 = 0
  · have : i = i / 2 * 2 := by omega
    rw [this]; exact h3.1
  · have : i = i / 2 * 2 + 1 := by omega
    rw [this]; exact h3.2
/-- A span set to a part of itself: the same, or less. -/
theorem set_less {M : List Int} (hM : M.length = 20) (hS : Sb M) {i : Nat} (hi : i < 10) (c d : Int) :
    set2 M i (bothP (Lo M i) (Hi M i) c d) = M ∨ sumW (set2 M i (bothP (Lo M i) (Hi M i) c d)) 10 < sumW M 10 := by
  have hs := sumW_set hM hi (bothP (Lo M i) (Hi M i) c d) 10 (Nat.le_refl _)
  rw [if_pos hi] at hs
  have hsi := hS i hi
  by_cases e : (bothP (Lo M i) (Hi M i) c d).1 = Lo M i ∧ (bothP (Lo M i) (Hi M i) c d).2 = Hi M i
  · left
    refine list_ext20 (by simp [hM]) hM fun j hj => ?_
    obtain ⟨h1, h2⟩ := set2_at hM hi hj (bothP (Lo M i) (Hi M i) c d)
    rw [h1, h2]
    by_cases hij : i = j
    · subst hij; rw [if_pos rfl, if_pos rfl]; exact e
    · rw [if_neg hij, if_neg hij]; exact ⟨rfl, rfl⟩
  · right
    rw [hs]
    revert e
    unfold bothP
    split
    · simp only; omega
    · simp only; omega
theorem step_less {f : Int} {M : List Int} (hM : M.length = 20) (hS : Sb M) {k : Nat} (hk : k + 1 < 10) :
    Sb (step1 f M k) ∧ Sb (stepM f M k) ∧ ((step1 f M k = M ∧ stepM f M k = M) ∨ sumW (stepM f M k) 10 < sumW M 10) := by
  have h1 : Sb (step1 f M k) := hS.set hM hk (bothP_sb (hS _ hk))
  have hl : (step1 f M k).length = 20 := by simp [hM]
  have h2 : Sb (stepM f M k) := h1.set hl (by omega) (bothP_sb (h1 _ (by omega)))
  refine ⟨h1, h2, ?_⟩
  have a := set_less hM hS hk (Lo M k - f) (Hi M k)
  have b := set_less hl h1 (i := k) (by omega) (Lo (step1 f M k) (k + 1)) (Hi (step1 f M k) (k + 1) + f)
  rcases b with b | b
  · rcases a with a | a
    · have a' : step1 f M k = M := a
      exact .inl ⟨a', (show stepM f M k = step1 f M k from b).trans a'⟩
    · right
      rw [show stepM f M k = step1 f M k from b]; exact a
  · rcases a with a | a
    · right
      have a' : step1 f M k = M := a
      have : sumW (stepM f M k) 10 < sumW (step1 f M k) 10 := b
      rwa [a'] at this
    · right
      have : sumW (stepM f M k) 10 < sumW (step1 f M k) 10 := b
      have a2 : sumW (step1 f M k) 10 < sumW M 10 := a
      omega
theorem ps_less {f : Int} {M : List Int} (hM : M.length = 20) (hS : Sb M) : ∀ k, k ≤ 9 → Sb (psTo f M k) ∧ ((∀ j, j < k → step1 f M j = M ∧ stepM f M j = M ∧ psTo f M (j + 1) = M) ∧ psTo f M k = M ∨ sumW (psTo f M k) 10 < sumW M 10)
  | 0, _ => ⟨hS, .inl ⟨fun j hj => absurd hj (Nat.not_lt_zero _), rfl⟩⟩
  | k + 1, hk => by
    obtain ⟨h1, h2⟩ := ps_less hM hS k (by omega)
    obtain ⟨_, g1, g2⟩ := step_less (f := f) (by simp [hM]) h1 (k := k) (by omega)
    refine ⟨g1, ?_⟩
    show (_ ∧ stepM f (psTo f M k) k = M) ∨ sumW (stepM f (psTo f M k) k) 10 < _
    rcases h2 with ⟨h2, h3⟩ | h2
    · rw [h3] at g2 ⊢
      rcases g2 with ⟨g2, g3⟩ | g2
      · refine .inl ⟨fun j hj => ?_, g3⟩
        by_cases e : j = k
        · subst e
          exact ⟨g2, g3, by show stepM f (psTo f M j) j = M; rw [h3]; exact g3⟩
        · exact h2 j (by omega)
      · exact .inr g2
    · right
      rcases g2 with ⟨_, g3⟩ | g2
      · rw [g3]; exact h2
      · omega
/-- All truths of C lie within M, and M in C. -/
structure KeepP (n : Nat) (f : Int) (C M : List Int) : Prop where
  len : M.length = 20
  sb : Sb M
  sub : ∀ w, w < n → Lo M w ≤ Hi M w → Lo C w ≤ Lo M w ∧ Hi M w ≤ Hi C w
  wn : Wn n f (Lo C) (Hi C) (Lo M) (Hi M)
  rest : ∀ w, w < 10 → n ≤ w → Lo M w = Lo C w ∧ Hi M w = Hi C w
theorem both_in {a b c d t : Int} (h1 : a ≤ t ∧ t ≤ b) (h2 : c ≤ t ∧ t ≤ d) : (bothP a b c d).1 ≤ t ∧ t ≤ (bothP a b c d).2 := by
  unfold bothP
  split
  · omega
  · simp only; omega
theorem both_sub {a b c d : Int} (h : (bothP a b c d).1 ≤ (bothP a b c d).2) : a ≤ (bothP a b c d).1 ∧ (bothP a b c d).2 ≤ b := by
  revert h
  unfold bothP
  split
  · simp
  · simp only; omega
theorem KeepP.step {n : Nat} {f : Int} {C M : List Int} (h : KeepP n f C M) (hn : n ≤ 10) {k : Nat} (hk : k + 1 < n) : KeepP n f C (stepM f M k) := by
  obtain ⟨s1, s2, _⟩ := step_less (f := f) h.len h.sb (k := k) (by omega)
  have hl : (step1 f M k).length = 20 := by simp [h.len]
  have a1 := fun (j : Nat) (hj : j < 10) => set2_at h.len (i := k + 1) (j := j) (by omega) hj (bothP (Lo M (k + 1)) (Hi M (k + 1)) (Lo M k - f) (Hi M k))
  have a2 := fun (j : Nat) (hj : j < 10) => set2_at hl (i := k) (j := j) (by omega) hj (bothP (Lo (step1 f M k) k) (Hi (step1 f M k) k) (Lo (step1 f M k) (k + 1)) (Hi (step1 f M k) (k + 1) + f))
  have b1 : ∀ j, j < 10 → Lo (step1 f M k) j = _ ∧ Hi (step1 f M k) j = _ := a1
  have b2 : ∀ j, j < 10 → Lo (stepM f M k) j = _ ∧ Hi (stepM f M k) j = _ := a2
  refine ⟨by simp [h.len], s2, fun w hw hne => ?_, fun t ht w hw => ?_, fun w h10 hw => ?_⟩
  · have c1 := b1 w (by omega); have c2 := b2 w (by omega)
    have hsub := h.sub w hw
    rw [c2.1, c2.2] at hne ⊢
    by_cases e : k = w
    · subst e
      rw [if_pos rfl, if_pos rfl] at hne ⊢
      have h3 := both_sub hne
      rw [c1.1, c1.2, if_neg (by omega), if_neg (by omega)] at h3 hne ⊢
      have := hsub (by omega)
      omega
    · rw [if_neg e, if_neg e] at hne ⊢
      rw [c1.1, c1.2] at hne ⊢
      by_cases e2 : k + 1 = w
      · subst e2
        rw [if_pos rfl, if_pos rfl] at hne ⊢
        have h3 := both_sub hne
        have := hsub (by omega)
        omega
      · rw [if_neg e2, if_neg e2] at hne ⊢
        exact hsub hne
  · have hstep := (ht (k + 1) hk).2.2 (by omega)
    simp only [Nat.add_sub_cancel] at hstep
    have t0 := h.wn t ht k (by omega)
    have t1 := h.wn t ht (k + 1) hk
    have u1 : Lo (step1 f M k) (k + 1) ≤ t (k + 1) ∧ t (k + 1) ≤ Hi (step1 f M k) (k + 1) := by
      have c1 := b1 (k + 1) (by omega)
      rw [c1.1, c1.2, if_pos rfl, if_pos rfl]
      exact both_in t1 (by omega)
    have u0 : Lo (step1 f M k) k ≤ t k ∧ t k ≤ Hi (step1 f M k) k := by
      have c1 := b1 k (by omega)
      rw [c1.1, c1.2, if_neg (by omega), if_neg (by omega)]
      exact t0
    have c2 := b2 w (by omega)
    rw [c2.1, c2.2]
    by_cases e : k = w
    · subst e
      rw [if_pos rfl, if_pos rfl]
      exact both_in u0 (by omega)
    · rw [if_neg e, if_neg e]
      by_cases e2 : k + 1 = w
      · subst e2; exact u1
      · have c1 := b1 w (by omega)
        rw [c1.1, c1.2, if_neg e2, if_neg e2]
        exact h.wn t ht w hw
  · have c1 := b1 w h10; have c2 := b2 w h10
    rw [c2.1, c2.2, if_neg (by omega), if_neg (by omega), c1.1, c1.2, if_neg (by omega), if_neg (by omega)]
    exact h.rest w h10 hw
theorem KeepP.ps {n : Nat} {f : Int} {C M : List Int} (h : KeepP n f C M) (hn : n ≤ 10) : ∀ k, k + 1 ≤ n → KeepP n f C (psTo f M k)
  | 0, _ => h
  | k + 1, hk => (h.ps hn k (by omega)).step hn (by omega)
theorem KeepP.none {n : Nat} {f : Int} {C M : List Int} (h : KeepP n f C M) {i : Nat} (hi : i < n) (hN : NoneAt M i) : ¬∃ t, Tr n f (Lo C) (Hi C) t := by
  rintro ⟨t, ht⟩
  have := h.wn t ht i hi
  obtain ⟨h1, h2⟩ := hN
  omega
/-- The end: nothing turns any more. -/
theorem stp_of_same {n : Nat} {f : Int} {M : List Int} (hM : M.length = 20) (_hS : Sb M) (hn : n ≤ 10) (hf : 0 ≤ f) (hsame : ∀ j, j + 1 < n → step1 f M j = M ∧ stepM f M j = M) (hne : ∀ w, w < n → Lo M w ≤ Hi M w) : Stp n f (Lo M) (Hi M) := by
  intro w hw h0
  obtain ⟨j, rfl⟩ : ∃ j, w = j + 1 := ⟨w - 1, by omega⟩
  obtain ⟨e1, e2⟩ := hsame j hw
  simp only [Nat.add_sub_cancel]
  have a1 := set2_at hM (i := j + 1) (j := j + 1) (by omega) (by omega) (bothP (Lo M (j + 1)) (Hi M (j + 1)) (Lo M j - f) (Hi M j))
  have b1 : Lo (step1 f M j) (j + 1) = _ ∧ Hi (step1 f M j) (j + 1) = _ := a1
  rw [e1, if_pos rfl, if_pos rfl] at b1
  have a2 := set2_at (M := step1 f M j) (by simp [hM]) (i := j) (j := j) (by omega) (by omega) (bothP (Lo (step1 f M j) j) (Hi (step1 f M j) j) (Lo (step1 f M j) (j + 1)) (Hi (step1 f M j) (j + 1) + f))
  have b2 : Lo (stepM f M j) j = _ ∧ Hi (stepM f M j) j = _ := a2
  rw [e2, if_pos rfl, if_pos rfl, e1] at b2
  have n1 := hne (j + 1) hw; have n0 := hne j (by omega)
  revert b1 b2
  unfold bothP
  split <;> split <;> simp only <;> intro b1 b2 <;> omega
theorem stp_zero {n : Nat} {f : Int} {M : List Int} (hf : 0 ≤ f) (hz : ∀ w, w < n → Lo M w = 0 ∧ Hi M w = 0) : Stp n f (Lo M) (Hi M) := by
  intro w hw h0
  have a := hz w hw; have b := hz (w - 1) (by omega)
  omega
end Go.S

/- Both ways of reckoning what readings, lines and a rain leave. Nothing of Go stands here. -/
namespace Go.S
open Go.X (G)
/-- The same spans, or none on both sides. -/
def RelC (n : Nat) (R L : List Int) : Prop := ∀ w, w < n → (Lo R w = G L w ∧ Hi R w = G L (10 + w)) ∨ (Hi R w < Lo R w ∧ G L (10 + w) < G L w)
theorem RelC.tr {n : Nat} {f : Int} {R L : List Int} (h : RelC n R L) (t : Nat → Int) : Tr n f (Lo R) (Hi R) t ↔ Tr n f (fun w => G L w) (fun w => G L (10 + w)) t := by
  constructor
  · intro ht w hw
    have h1 := ht w hw
    refine ⟨?_, ?_, h1.2.2⟩ <;> rcases h w hw with ⟨a, b⟩ | ⟨a, b⟩ <;> simp only <;> omega
  · intro ht w hw
    have h1 := ht w hw
    simp only at h1
    refine ⟨?_, ?_, h1.2.2⟩ <;> rcases h w hw with ⟨a, b⟩ | ⟨a, b⟩ <;> omega
/-- Lines, as the package spring reckons them. -/
def slTo (s : Sp) (R : List Int) (rain : Int) : Nat → List Int
  | 0 => R
  | k + 1 => let x := s.book.getD k default
    if Wi rain x.r0 x.r1 then set2 (slTo s R rain k) x.wk.toNat (bothP (Lo (slTo s R rain k) x.wk.toNat) (Hi (slTo s R rain k) x.wk.toNat) x.g0 x.g1) else slTo s R rain k
@[simp] theorem slTo_len (s : Sp) (R : List Int) (rain : Int) : ∀ k, (slTo s R rain k).length = R.length
  | 0 => rfl
  | k + 1 => by
    have ih := slTo_len s R rain k
    simp only [slTo]
    split <;> simp [ih]
theorem bookD {s : Sp} (hb : BookP s) {k : Nat} (hk : k < s.book.length) : LnP (s.book.getD k default) s.weeks := by
  simpa [hk] using hb k hk
theorem slTo_sb {s : Sp} (hv : SpP s) {R : List Int} (hR : R.length = 20) (hS : Sb R) (rain : Int) : ∀ k, k ≤ s.book.length → Sb (slTo s R rain k)
  | 0, _ => hS
  | k + 1, hk => by
    have ih := slTo_sb hv hR hS rain k (by omega)
    have h1 := hv.1; unfold HeadP at h1
    have hl := bookD hv.2.1 (k := k) (by omega)
    simp only [slTo]
    split
    · exact ih.set (by simp [hR]) (by omega) (bothP_sb (ih _ (by omega)))
    · exact ih
theorem linesTo_len {s : Sp} {L : List Int} (rain : Int) : ∀ k, (linesTo s L rain k).length = L.length
  | 0 => rfl
  | k + 1 => by
    have ih := linesTo_len (s := s) (L := L) rain k
    simp only [linesTo]
    split
    · simp only [lineStep]
      split <;> simp [ih]
    · exact ih
theorem lines_rel {s : Sp} (hv : SpP s) {R L : List Int} (hR : R.length = 20) (hL : L.length = 20) (hS : Sb R) (h : RelC s.weeks.toNat R L) (h0 : ∀ w, w < 10 → s.weeks.toNat ≤ w → Lo R w = G L w ∧ Hi R w = G L (10 + w)) (rain : Int) :
    ∀ k, k ≤ s.book.length → RelC s.weeks.toNat (slTo s R rain k) (linesTo s L rain k) ∧ (∀ w, w < 10 → s.weeks.toNat ≤ w → Lo (slTo s R rain k) w = G (linesTo s L rain k) w ∧ Hi (slTo s R rain k) w = G (linesTo s L rain k) (10 + w))
  | 0, _ => ⟨h, h0⟩
  | k + 1, hk => by
    obtain ⟨i1, i2⟩ := lines_rel hv hR hL hS h h0 rain k (by omega)
    have h1 := hv.1; unfold HeadP at h1
    have hl := bookD hv.2.1 (k := k) (by omega)
    have hsb := slTo_sb hv hR hS rain k (by omega)
    have he : s.book[k]? = some (s.book.getD k default) := by simp [show k < s.book.length by omega]
    simp only [slTo, linesTo, he, lineStep]
    by_cases hc : Wi rain (s.book.getD k default).r0 (s.book.getD k default).r1
    · rw [if_pos hc, if_pos hc]
      have a1 := fun (j : Nat) (hj : j < 10) => set2_at (M := slTo s R rain k) (by simp [hR]) (i := (s.book.getD k default).wk.toNat) (j := j) (by omega) hj (bothP (Lo (slTo s R rain k) (s.book.getD k default).wk.toNat) (Hi (slTo s R rain k) (s.book.getD k default).wk.toNat) (s.book.getD k default).g0 (s.book.getD k default).g1)
      have a2 := fun (j : Nat) (hj : j < 10) => setA_at (M := linesTo s L rain k) (by rw [linesTo_len]; exact hL) (i := (s.book.getD k default).wk.toNat) (j := j) (by omega) hj (max (G (linesTo s L rain k) (s.book.getD k default).wk.toNat) (s.book.getD k default).g0) (min (G (linesTo s L rain k) (10 + (s.book.getD k default).wk.toNat)) (s.book.getD k default).g1)
      refine ⟨fun w hw => ?_, fun w h10 hw => ?_⟩
      · have b1 := a1 w (by omega); have b2 := a2 w (by omega)
        rw [b1.1, b1.2, b2.1, b2.2]
        by_cases e : (s.book.getD k default).wk.toNat = w
        · rw [if_pos e, if_pos e, if_pos e, if_pos e, e]
          have hr := i1 w hw
          have hs := hsb w (by omega)
          unfold bothP
          split <;> simp only <;> omega
        · rw [if_neg e, if_neg e, if_neg e, if_neg e]
          exact i1 w hw
      · have b1 := a1 w h10; have b2 := a2 w h10
        rw [b1.1, b1.2, b2.1, b2.2, if_neg (by omega), if_neg (by omega), if_neg (by omega), if_neg (by omega)]
        exact i2 w h10 hw
    · rw [if_neg hc, if_neg hc]
      exact ⟨i1, i2⟩
/-- Ends beside each other. -/
def ilv (X : List Int) : List Int := (List.range 20).map fun i => if i % 2 = 0 then G X (i / 2) else G X (10 + i / 2)
@[simp] theorem ilv_len (X : List Int) : (ilv X).length = 20 := by simp [ilv]
theorem ilv_at (X : List Int) {w : Nat} (hw : w < 10) : Lo (ilv X) w = G X w ∧ Hi (ilv X) w = G X (10 + w) := by
  unfold Lo Hi ilv
  constructor
  · have : w * 2 < 20 := by omega
    simp [G, this]
  · have h1 : w * 2 + 1 < 20 := by omega
    have h2 : (w * 2 + 1) % 2 = 1 := by omega
    have h3 : (w * 2 + 1) / 2 = w := by omega
    simp [G, h1, h2, h3]
/-- **What the package spring comes to is what the reference comes to.** -/
theorem after_ok {s : Sp} (hv : SpP s) {R L : List Int} (hR : R.length = 20) (hL : L.length = 20) (hS : Sb R) (h : RelC s.weeks.toNat R L) (h0 : ∀ w, w < 10 → s.weeks.toNat ≤ w → Lo R w = G L w ∧ Hi R w = G L (10 + w)) (rain : Int) :
    (∀ M, KeepP s.weeks.toNat s.fall (slTo s R rain s.book.length) M → Stp s.weeks.toNat s.fall (Lo M) (Hi M) → (∀ w, w < s.weeks.toNat → Lo M w ≤ Hi M w) → lvB s L rain ∧ M = ilv (lvL s L rain)) ∧
    (∀ M, KeepP s.weeks.toNat s.fall (slTo s R rain s.book.length) M → ∀ w, w < s.weeks.toNat → NoneAt M w → ¬lvB s L rain) := by
  have h1 := hv.1; unfold HeadP at h1
  obtain ⟨r1, r2⟩ := lines_rel hv hR hL hS h h0 rain s.book.length (Nat.le_refl _)
  have hC : (linesTo s L rain s.book.length).length = 20 := by rw [linesTo_len]; exact hL
  have href : RefP s.weeks.toNat s.fall (linesTo s L rain s.book.length) (lvL s L rain) := ref_ok hC (by omega) (by omega) (by omega)
  have hlv : lvB s L rain → Tr s.weeks.toNat s.fall (fun w => G (linesTo s L rain s.book.length) w) (fun w => G (linesTo s L rain s.book.length) (10 + w)) (fun w => G (lvL s L rain) w) ∧ Tr s.weeks.toNat s.fall (fun w => G (linesTo s L rain s.book.length) w) (fun w => G (linesTo s L rain s.book.length) (10 + w)) (fun w => G (lvL s L rain) (10 + w)) :=
    fun hb => ends_true href.stp (fun w hw => href.sub w (by omega)) hb
  have hno : ∀ t, Tr s.weeks.toNat s.fall (fun w => G (linesTo s L rain s.book.length) w) (fun w => G (linesTo s L rain s.book.length) (10 + w)) t → lvB s L rain := fun t ht w hw => by
    have := href.wn t ht w hw
    simp only at this
    omega
  refine ⟨fun M hM hst hne => ?_, fun M hM w hw hN hb => hM.none hw hN ⟨_, (r1.tr _).2 (hlv hb).1⟩⟩
  have hMt := ends_true (lo := Lo (slTo s R rain s.book.length)) (hi := Hi (slTo s R rain s.book.length)) hst (fun w hw => hM.sub w hw (hne w hw)) hne
  have hMt' := And.intro ((r1.tr _).1 hMt.1) ((r1.tr _).1 hMt.2)
  have hb := hno _ hMt'.1
  refine ⟨hb, ?_⟩
  have hwn : Wn s.weeks.toNat s.fall (fun w => G (linesTo s L rain s.book.length) w) (fun w => G (linesTo s L rain s.book.length) (10 + w)) (Lo M) (Hi M) := fun t ht => hM.wn t ((r1.tr t).2 ht)
  have hu := hull_unique hwn href.wn hMt' (hlv hb)
  refine list_ext20 hM.len (by simp) fun w hw => ?_
  obtain ⟨e1, e2⟩ := ilv_at (lvL s L rain) hw
  rw [e1, e2]
  by_cases hwn2 : w < s.weeks.toNat
  · exact hu w hwn2
  · have a := hM.rest w hw (by omega); have b := r2 w hw (by omega); have c := href.rest w hw (by omega)
    rw [a.1, a.2, b.1, b.2]
    exact ⟨c.1.symm, c.2.symm⟩
theorem keep_start {n : Nat} {f : Int} {C : List Int} (hl : C.length = 20) (hS : Sb C) : KeepP n f C C := ⟨hl, hS, fun _w _ _ => ⟨Int.le_refl _, Int.le_refl _⟩, fun _t ht w hw => ⟨(ht w hw).1, (ht w hw).2.1⟩, fun _w _ _ => ⟨rfl, rfl⟩⟩
end Go.S

/- What readings leave: both ways of reckoning. Nothing of Go stands here. -/
namespace Go.S
open Go.X (G)
theorem both_mem' {a b c d n : Int} : ((bothP a b c d).1 ≤ n ∧ n ≤ (bothP a b c d).2) ↔ ((a ≤ n ∧ n ≤ b) ∧ c ≤ n ∧ n ≤ d) := by
  unfold bothP
  split <;> simp only <;> omega
/-- A reading's span is of the numbers with which it is true. -/
theorem reads_mem {s : Sp} {x : Rd} (h1 : Spn s.a0 s.a1 1 600) (h2 : Spn x.s0 x.s1 0 99) (h3 : Wi x.bu 1 40) (h4 : 0 < x.s1) {n : Int} (hn : 0 ≤ n ∧ n ≤ s.most) : ((readsP s x).1 ≤ n ∧ n ≤ (readsP s x).2) ↔ Right s x n := by
  have hs : 0 < x.s1 * s.a1 := Int.mul_pos h4 (by omega)
  have hq : 0 ≤ x.s0 * s.a0 := Int.mul_nonneg (by omega) (by omega)
  unfold readsP
  rw [both_mem']
  have e1 : (3600 * x.bu + x.s1 * s.a1 - 1) / (x.s1 * s.a1) ≤ n ↔ 3600 * x.bu ≤ x.s1 * s.a1 * n := by
    rw [← Int.lt_add_one_iff, Int.ediv_lt_iff_lt_mul hs, Int.add_mul, Int.one_mul, Int.mul_comm n]
    generalize x.s1 * s.a1 * n = p
    generalize x.s1 * s.a1 = q
    omega
  have e2 : n ≤ (if 0 < x.s0 * s.a0 then min s.most (3600 * x.bu / (x.s0 * s.a0)) else s.most) ↔ x.s0 * s.a0 * n ≤ 3600 * x.bu := by
    split
    · rename_i hp
      have e3 : n ≤ 3600 * x.bu / (x.s0 * s.a0) ↔ x.s0 * s.a0 * n ≤ 3600 * x.bu := by
        rw [Int.le_ediv_iff_mul_le hp, Int.mul_comm n]
      rw [← e3]
      omega
    · have : x.s0 * s.a0 = 0 := by omega
      rw [this, Int.zero_mul]
      omega
  have e4 : 3600 * x.bu ≤ x.s1 * s.a1 * n → 0 < n := by
    intro h
    refine Decidable.byContradiction fun hn0 => ?_
    have : n = 0 := by omega
    rw [this, Int.mul_zero] at h
    omega
  constructor
  · rintro ⟨⟨a, b⟩, _⟩
    exact ⟨⟨e4 (e1.1 a), e2.1 b⟩, e1.1 a⟩
  · rintro ⟨⟨_, a⟩, b⟩
    exact ⟨⟨e1.2 b, e2.2 a⟩, hn.1, hn.2⟩
theorem okTo_succ' {s : Sp} {w : Nat} {n : Int} {i : Nat} (hlt : i < s.reads.length) : OkTo s w n (i + 1) ↔ (OkTo s w n i ∧ ((s.reads.getD i default).wk ≠ w ∨ Right s (s.reads.getD i default) n)) := by
  have he : s.reads.getD i default = s.reads[i] := by simp [hlt]
  rw [he]
  constructor
  · intro h
    exact ⟨fun k hk h' => h k (by omega) h', h i (by omega) hlt⟩
  · rintro ⟨h1, h2⟩ k hk h
    by_cases e : k = i
    · subst e; exact h2
    · exact h1 k (by omega) h
theorem fl0_at {s : Sp} : ∀ k, k ≤ 10 → ∀ w, w < 10 → Lo (fl0 s k) w = 0 ∧ Hi (fl0 s k) w = (if w < k then s.most else 0)
  | 0, _, w, hw => by
    have h : ∀ i, i < 10 → G (List.replicate 20 (0 : Int)) (i * 2) = 0 ∧ G (List.replicate 20 (0 : Int)) (i * 2 + 1) = 0 := by decide
    have := h w hw
    simp only [fl0, Lo, Hi, this.1, this.2]
    simp
  | k + 1, hk, w, hw => by
    have ih := fl0_at (s := s) k (by omega) w hw
    obtain ⟨h1, h2⟩ := set2_at (fl0_len s k) (i := k) (j := w) (by omega) hw (0, s.most)
    simp only [fl0, h1, h2]
    by_cases e : k = w
    · subst e; rw [if_pos rfl, if_pos rfl, if_pos (by omega)]; exact ⟨rfl, rfl⟩
    · rw [if_neg e, if_neg e, ih.1, ih.2]
      refine ⟨rfl, ?_⟩
      by_cases e2 : w < k
      · rw [if_pos e2, if_pos (by omega)]
      · rw [if_neg e2, if_neg (by omega)]
theorem flTo_mem {s : Sp} (hv : SpP s) : ∀ k, k ≤ s.reads.length → ∀ w, w < s.weeks.toNat → (∀ n : Int, 0 ≤ n → n ≤ s.most → (OkTo s w n k ↔ (Lo (flTo s k) w ≤ n ∧ n ≤ Hi (flTo s k) w))) ∧ (Lo (flTo s k) w ≤ Hi (flTo s k) w → 0 ≤ Lo (flTo s k) w ∧ Hi (flTo s k) w ≤ s.most)
  | 0, _, w, hw => by
    have h1 := hv.1; unfold HeadP at h1
    obtain ⟨a, b⟩ := fl0_at (s := s) s.weeks.toNat (by omega) w (by omega)
    rw [if_pos hw] at b
    simp only [flTo, a, b]
    refine ⟨fun n h0 h1 => ⟨fun _ => ⟨h0, h1⟩, fun _ i hi => absurd hi (Nat.not_lt_zero _)⟩, fun _ => ⟨Int.le_refl _, Int.le_refl _⟩⟩
  | k + 1, hk, w, hw => by
    have h1 := hv.1; unfold HeadP at h1
    obtain ⟨i1, i2⟩ := flTo_mem hv k (by omega) w hw
    have hr := ((reads_iff s).1 hv.2.2 k (by omega)).1
    obtain ⟨a, b⟩ := set2_at (flTo_len s k) (i := (s.reads.getD k default).wk.toNat) (j := w) (by omega) (by omega) (bothP (Lo (flTo s k) (s.reads.getD k default).wk.toNat) (Hi (flTo s k) (s.reads.getD k default).wk.toNat) (readsP s (s.reads.getD k default)).1 (readsP s (s.reads.getD k default)).2)
    simp only [flTo, a, b]
    by_cases e : (s.reads.getD k default).wk.toNat = w
    · rw [if_pos e, if_pos e, e]
      refine ⟨fun n h0 hm => ?_, fun hne => ?_⟩
      · rw [okTo_succ' (by omega), both_mem', i1 n h0 hm, reads_mem h1.2.2.2.1 (by omega) (by omega) (by omega) ⟨h0, hm⟩]
        have : (s.reads.getD k default).wk = (w : Int) := by omega
        constructor
        · rintro ⟨p, q⟩
          exact ⟨p, q.resolve_left (fun hh => hh this)⟩
        · rintro ⟨p, q⟩
          exact ⟨p, .inr q⟩
      · have := both_sub hne
        have := i2 (by omega)
        omega
    · rw [if_neg e, if_neg e]
      refine ⟨fun n h0 hm => ?_, i2⟩
      rw [okTo_succ' (by omega), i1 n h0 hm]
      have : (s.reads.getD k default).wk ≠ (w : Int) := by omega
      constructor
      · rintro ⟨p, _⟩; exact p
      · intro p; exact ⟨p, .inl this⟩
theorem okP_iff {s : Sp} {w : Nat} {n : Int} : OkP s w n ↔ OkTo s w n s.reads.length := ⟨fun h i _ h' => h i h', fun h i h' => h i h' h'⟩
/-- What week w comes to, number by number: the least and the greatest that are right. -/
theorem weekTo_mem {s : Sp} (hm : Wi s.most 0 100) {L : List Int} (hL : L.length = 20) {w : Nat} (hw : w < 10) {lo hi : Int} (hok : ∀ n : Int, 0 ≤ n → n ≤ s.most → (OkP s w n ↔ (lo ≤ n ∧ n ≤ hi))) (hb : lo ≤ hi → 0 ≤ lo ∧ hi ≤ s.most) :
    ∀ j, j ≤ s.most.toNat + 1 → (weekTo s L w j).length = 20 ∧ (∀ v, v < 10 → v ≠ w → G (weekTo s L w j) v = G L v ∧ G (weekTo s L w j) (10 + v) = G L (10 + v)) ∧
      ((lo ≤ hi ∧ lo < j ∧ G (weekTo s L w j) w = lo ∧ G (weekTo s L w j) (10 + w) = min hi (j - 1)) ∨ ((¬lo ≤ hi ∨ (j : Int) ≤ lo) ∧ G (weekTo s L w j) w = s.most + 1 ∧ G (weekTo s L w j) (10 + w) = -1))
  | 0, _ => by
    have a := fun (v : Nat) (hv : v < 10) => setA_at hL hw hv (s.most + 1) (-1)
    refine ⟨by simp [weekTo, hL], fun v hv hne => ?_, .inr ⟨?_, ?_, ?_⟩⟩
    · have := a v hv
      simp only [weekTo]
      rw [this.1, this.2, if_neg (Ne.symm hne), if_neg (Ne.symm hne)]; exact ⟨rfl, rfl⟩
    · by_cases e : lo ≤ hi
      · right; have := hb e; omega
      · exact .inl e
    · simp only [weekTo]; rw [(a w hw).1, if_pos rfl]
    · simp only [weekTo]; rw [(a w hw).2, if_pos rfl]
  | j + 1, hj => by
    obtain ⟨i1, i2, i3⟩ := weekTo_mem hm hL hw hok hb j (by omega)
    have hokj := hok j (by omega) (by omega)
    simp only [weekTo, bstep]
    by_cases hc : OkP s w j
    · rw [if_pos hc]
      have a := fun (v : Nat) (hv : v < 10) => setA_at i1 hw hv (min (G (weekTo s L w j) w) (j : Int)) (j : Int)
      have hin := hokj.1 hc
      refine ⟨by simp [i1], fun v hv hne => ?_, ?_⟩
      · have := a v hv
        rw [this.1, this.2, if_neg (Ne.symm hne), if_neg (Ne.symm hne)]; exact i2 v hv hne
      · rw [(a w hw).1, (a w hw).2, if_pos rfl, if_pos rfl]
        left
        rcases i3 with ⟨p1, p2, p3, p4⟩ | ⟨p1, p2, p3⟩
        · rw [p3]; omega
        · rw [p2]; omega
    · rw [if_neg hc]
      refine ⟨i1, i2, ?_⟩
      have hin : ¬(lo ≤ (j : Int) ∧ (j : Int) ≤ hi) := fun h => hc (hokj.2 h)
      rcases i3 with ⟨p1, p2, p3, p4⟩ | ⟨p1, p2, p3⟩
      · left; rw [p3, p4]; omega
      · by_cases e : lo ≤ hi
        · right
          refine ⟨.inr ?_, p2, p3⟩
          omega
        · exact .inr ⟨.inl e, p2, p3⟩
theorem base_rel {s : Sp} (hv : SpP s) : ∀ k, k ≤ s.weeks.toNat → (baseTo s k).length = 20 ∧ (∀ w, w < k → ((Lo (flL s) w = G (baseTo s k) w ∧ Hi (flL s) w = G (baseTo s k) (10 + w)) ∨ (Hi (flL s) w < Lo (flL s) w ∧ G (baseTo s k) (10 + w) < G (baseTo s k) w))) ∧ (∀ w, w < 10 → k ≤ w → G (baseTo s k) w = 0 ∧ G (baseTo s k) (10 + w) = 0)
  | 0, _ => by
    refine ⟨by simp [baseTo], fun w hw => absurd hw (Nat.not_lt_zero _), fun w hw _ => ?_⟩
    have h : ∀ i, i < 10 → G (List.replicate 20 (0 : Int)) i = 0 ∧ G (List.replicate 20 (0 : Int)) (10 + i) = 0 := by decide
    exact h w hw
  | k + 1, hk => by
    have h1 := hv.1; unfold HeadP at h1
    obtain ⟨i1, i2, i3⟩ := base_rel hv k (by omega)
    obtain ⟨m1, m2⟩ := flTo_mem hv s.reads.length (Nat.le_refl _) k (by omega)
    obtain ⟨w1, w2, w3⟩ := weekTo_mem h1.2.1 i1 (w := k) (by omega) (lo := Lo (flL s) k) (hi := Hi (flL s) k) (fun n h0 hm => by rw [okP_iff]; exact m1 n h0 hm) m2 (s.most.toNat + 1) (Nat.le_refl _)
    refine ⟨w1, fun w hw => ?_, fun w h10 hw => ?_⟩
    · simp only [baseTo]
      by_cases e : w = k
      · subst e
        rcases w3 with ⟨p1, p2, p3, p4⟩ | ⟨p1, p2, p3⟩
        · left
          rw [p3, p4]
          have := m2 p1
          have : Hi (flL s) w ≤ s.most := this.2
          omega
        · right
          rw [p2, p3]
          refine ⟨?_, by omega⟩
          rcases p1 with p1 | p1
          · omega
          · refine Decidable.byContradiction fun hne => ?_
            have h5 : Lo (flL s) w ≤ Hi (flL s) w := by omega
            have h6 := m2 h5
            have h7 : 0 ≤ Lo (flL s) w ∧ Hi (flL s) w ≤ s.most := h6
            omega
      · have := w2 w (by omega) e
        rw [this.1, this.2]
        exact i2 w (by omega)
    · simp only [baseTo]
      have := w2 w h10 (by omega)
      rw [this.1, this.2]
      exact i3 w h10 (by omega)
theorem flTo_rest {s : Sp} (hv : SpP s) : ∀ k, k ≤ s.reads.length → ∀ w, w < 10 → s.weeks.toNat ≤ w → Lo (flTo s k) w = 0 ∧ Hi (flTo s k) w = 0
  | 0, _, w, h10, hw => by
    have h1 := hv.1; unfold HeadP at h1
    obtain ⟨a, b⟩ := fl0_at (s := s) s.weeks.toNat (by omega) w h10
    rw [if_neg (by omega)] at b
    exact ⟨a, b⟩
  | k + 1, hk, w, h10, hw => by
    have h1 := hv.1; unfold HeadP at h1
    have ih := flTo_rest hv k (by omega) w h10 hw
    have hr := ((reads_iff s).1 hv.2.2 k (by omega)).1
    obtain ⟨a, b⟩ := set2_at (flTo_len s k) (i := (s.reads.getD k default).wk.toNat) (j := w) (by omega) h10 (bothP (Lo (flTo s k) (s.reads.getD k default).wk.toNat) (Hi (flTo s k) (s.reads.getD k default).wk.toNat) (readsP s (s.reads.getD k default)).1 (readsP s (s.reads.getD k default)).2)
    simp only [flTo, a, b]
    rw [if_neg (by omega), if_neg (by omega)]
    exact ih
/-- R and L say the same of a valid spring's weeks. -/
structure RelW (s : Sp) (R L : List Int) : Prop where
  lr : R.length = 20
  ll : Bd L
  sb : Sb R
  rel : RelC s.weeks.toNat R L
  rest : ∀ w, w < 10 → s.weeks.toNat ≤ w → Lo R w = G L w ∧ Hi R w = G L (10 + w)
theorem relW {s : Sp} (hv : SpP s) : RelW s (flL s) (baseL s) := by
  obtain ⟨a, b, c⟩ := base_rel hv s.weeks.toNat (Nat.le_refl _)
  refine ⟨flTo_len s _, baseL_Bd hv, flTo_sb hv _ (Nat.le_refl _), b, fun w h10 hw => ?_⟩
  have d := c w h10 hw
  have e := flTo_rest hv s.reads.length (Nat.le_refl _) w h10 hw
  unfold baseL
  rw [d.1, d.2]
  exact e
end Go.S

/- The end of the package spring's reckoning. Nothing of Go stands here. -/
namespace Go.S
open Go.X (G)
theorem mu_less {f : Int} {M W : List Int} (hM : M.length = 20) (hS : Sb M) (hne : W ≠ M) (k : Nat) (hk : k ≤ 9) :
    2 * (sumW (psTo f M k) 10).toNat + (if M = psTo f M k then 0 else 1) < 2 * (sumW M 10).toNat + (if W = M then 0 else 1) := by
  rw [if_neg hne]
  obtain ⟨h1, h2⟩ := ps_less (f := f) hM hS k hk
  have p1 := sumW_nonneg h1 10 (Nat.le_refl _)
  have p2 := sumW_nonneg hS 10 (Nat.le_refl _)
  rcases h2 with ⟨_, h2⟩ | h2
  · rw [h2, if_pos rfl]; omega
  · split <;> omega
theorem after_end {s : Sp} (hv : SpP s) {R L : List Int} (hW : RelW s R L) {rain : Int} {W : List Int} (hM : KeepP s.weeks.toNat s.fall (slTo s R rain s.book.length) W)
    (hWM : (∀ j, j < 10 → Lo W j = 0 ∧ Hi W j = 0) ∨ (Sb W ∧ W = psTo s.fall W (s.weeks.toNat - 1) ∧ Alive s.fall W (s.weeks.toNat - 1))) :
    ((∀ w, w < s.weeks.toNat → ¬NoneAt W w) ↔ lvB s L rain) ∧ (lvB s L rain → W = ilv (lvL s L rain)) := by
  have h1 := hv.1; unfold HeadP at h1
  obtain ⟨a1, a2⟩ := after_ok hv hW.lr hW.ll.len hW.sb hW.rel hW.rest rain
  have hnn : (∀ w, w < s.weeks.toNat → ¬NoneAt W w) → lvB s L rain ∧ W = ilv (lvL s L rain) := by
    intro hnn
    have hne : ∀ w, w < s.weeks.toNat → Lo W w ≤ Hi W w := fun w hw => by
      have := hM.sb w (by omega)
      have h3 := hnn w hw
      unfold NoneAt at h3
      omega
    refine a1 W hM ?_ hne
    rcases hWM with hz | ⟨hS, he, _⟩
    · exact stp_zero (by omega) fun w hw => hz w (by omega)
    · obtain ⟨_, h2⟩ := ps_less (f := s.fall) hM.len hS (s.weeks.toNat - 1) (by omega)
      rcases h2 with ⟨h2, _⟩ | h2
      · exact stp_of_same hM.len hS (by omega) (by omega) (fun j hj => ⟨(h2 j (by omega)).1, (h2 j (by omega)).2.1⟩) hne
      · rw [← he] at h2; omega
  have hall : lvB s L rain → ∀ w, w < s.weeks.toNat → ¬NoneAt W w := fun hb w hw hN => a2 W hM w hw hN hb
  exact ⟨⟨fun h => (hnn h).1, hall⟩, fun h => (hnn (hall h)).2⟩
end Go.S

/- Spans in rows; what a rain leaves, handed back. -/
namespace Go.S
open Go Go.X Go.RowKit
def pairs (M : List Int) (n : Nat) : List (List Value) := (List.range n).map fun i => [.int .i64 (Lo M i), .int .i64 (Hi M i)]
@[simp] theorem length_pairs (M : List Int) (n : Nat) : (pairs M n).length = n := by simp [pairs]
variable {w0 w : World} {own : X.Own}
theorem pairAt {ao : Option Addr} {M : List Int} {n : Nat} (h : RowsAt w ao 2 (pairs M n)) {i : Nat} (hi : i < n) :
    ∃ b o, ao = some ⟨b, o, none⟩ ∧ ∀ own, Mem w own b (o + i * 2) [.int .i64 (Lo M i), .int .i64 (Hi M i)] := h.get (by simp [pairs, hi])
theorem ownPairs (hI : Inv w0 own w) {i b : Nat} {M : List Int} {E : TypeId} {fz : Nat × Nat} (hi : own[i]? = some (b, .cells ⟨ints M⟩ E fz)) {n : Nat} (hM : n * 2 ≤ M.length) : RowsAt w (some ⟨b, 0, none⟩) 2 (pairs M n) :=
  RowsAt.ofOwn hI hi fun k r hk j u hj => by
    simp only [pairs, List.getElem?_map, Option.map_eq_some_iff] at hk
    obtain ⟨i', hi', rfl⟩ := hk
    obtain ⟨hlt, he⟩ := List.getElem?_eq_some_iff.1 hi'
    simp at he hlt
    subst he
    match j, hj with
    | 0, hj => simp at hj; subst hj; exact intsAtX rfl (by omega)
    | 1, hj => simp at hj; subst hj; exact intsAtX rfl (by omega)
    | j + 2, hj => simp at hj
/-- What a rain leaves, handed back: all that is told if there is no truth is that there is none. -/
structure AfterR (s : Sp) (L : List Int) (rain : Int) (v : Value) : Prop where
  ex : ∃ M : List Int, M.length = 20 ∧ (lvB s L rain → M = ilv (lvL s L rain)) ∧ v = .tuple ⟨[.agg ⟨ints M⟩, .bool (decide (lvB s L rain))]⟩
end Go.S
namespace Go.S
open Go Go.X
theorem span_none {M : List Int} {k : Nat} : ([1, 0] = [Lo M k, Hi M k]) ↔ NoneAt M k := by
  unfold NoneAt
  constructor
  · intro h
    obtain ⟨h1, h2⟩ := List.cons.inj h
    exact ⟨h1.symm, (List.cons.inj h2).1.symm⟩
  · rintro ⟨h1, h2⟩; rw [h1, h2]
theorem after_bool {M : List Int} {n : Nat} {p : Prop} [Decidable p] (h : (∀ w, w < n → ¬NoneAt M w) ↔ p) : decide (¬0 ≤ idxF (fun k => [1, 0] = [Lo M k, Hi M k]) n) = decide p := by
  refine decide_eq_decide.2 ?_
  rw [← h, idxF_nonneg]
  constructor
  · intro hn w hw hN; exact hn ⟨w, hw, span_none.2 hN⟩
  · rintro hn ⟨w, hw, hN⟩; exact hn w hw (span_none.1 hN)
end Go.S

/- What all rains leave of each week. Nothing of Go stands here. -/
namespace Go.S
open Go.X (G)
def mk20 (lo hi : Nat → Int) : List Int := (List.range 20).map fun i => if i % 2 = 0 then lo (i / 2) else hi (i / 2)
@[simp] theorem mk20_len (lo hi : Nat → Int) : (mk20 lo hi).length = 20 := by simp [mk20]
theorem mk20_at (lo hi : Nat → Int) {w : Nat} (hw : w < 10) : Lo (mk20 lo hi) w = lo w ∧ Hi (mk20 lo hi) w = hi w := by
  unfold Lo Hi mk20
  constructor
  · have : w * 2 < 20 := by omega
    simp [G, this]
  · have h1 : w * 2 + 1 < 20 := by omega
    have h2 : (w * 2 + 1) % 2 = 1 := by omega
    have h3 : (w * 2 + 1) / 2 = w := by omega
    simp [G, h1, h2, h3]
def oLo (n : Nat) (A : List (List Int)) (i : Nat) : Int := if A = [] ∨ n ≤ i then 0 else hLo A i
def oHi (n : Nat) (A : List (List Int)) (i : Nat) : Int := if A = [] ∨ n ≤ i then 0 else hHi A i
def outL (n : Nat) (A : List (List Int)) : List Int := mk20 (oLo n A) (oHi n A)
theorem hTo_snoc {A : List (List Int)} (X : List Int) (w : Nat) (hA : A ≠ []) : ∀ k, k ≤ A.length → hLoTo (A ++ [X]) w k = hLoTo A w k ∧ hHiTo (A ++ [X]) w k = hHiTo A w k
  | 0, _ => by
    have h0 : 0 < A.length := List.length_pos_iff.2 hA
    have e : (A ++ [X]).getD 0 [] = A.getD 0 [] := by rw [List.getD_eq_getElem?_getD, List.getD_eq_getElem?_getD, List.getElem?_append_left h0]
    simp only [hLoTo, hHiTo, e]; exact ⟨trivial, trivial⟩
  | k + 1, hk => by
    have ih := hTo_snoc X w hA k (by omega)
    have h0 : k < A.length := by omega
    have e : (A ++ [X]).getD k [] = A.getD k [] := by rw [List.getD_eq_getElem?_getD, List.getD_eq_getElem?_getD, List.getElem?_append_left h0]
    simp only [hLoTo, hHiTo, ih.1, ih.2, e]; exact ⟨trivial, trivial⟩
theorem h_snoc {A : List (List Int)} (X : List Int) (w : Nat) : hLo (A ++ [X]) w = (if A = [] then G X w else min (hLo A w) (G X w)) ∧ hHi (A ++ [X]) w = (if A = [] then G X (10 + w) else max (hHi A w) (G X (10 + w))) := by
  by_cases hA : A = []
  · subst hA
    rw [if_pos rfl, if_pos rfl]
    simp [hLo, hHi, hLoTo, hHiTo]
  · rw [if_neg hA, if_neg hA]
    have h := hTo_snoc X w hA A.length (Nat.le_refl _)
    unfold hLo hHi
    rw [show (A ++ [X]).length = A.length + 1 by simp]
    simp only [hLoTo, hHiTo, h.1, h.2]
    simp
/-- One rain more: week j. -/
theorem o_snoc {n : Nat} {A : List (List Int)} (X : List Int) {i : Nat} (hi : i < n) : oLo n (A ++ [X]) i = (if A = [] then G X i else min (oLo n A i) (G X i)) ∧ oHi n (A ++ [X]) i = (if A = [] then G X (10 + i) else max (oHi n A i) (G X (10 + i))) := by
  obtain ⟨h1, h2⟩ := h_snoc (A := A) X i
  unfold oLo oHi
  have hne : ¬((A ++ [X]) = [] ∨ n ≤ i) := by
    rintro (h | h)
    · simp at h
    · omega
  simp only [if_neg hne, h1, h2]
  by_cases hA : A = []
  · simp only [if_pos hA]; exact ⟨trivial, trivial⟩
  · have hne2 : ¬(A = [] ∨ n ≤ i) := by
      rintro (h | h)
      · exact hA h
      · omega
    simp only [if_neg hA, if_neg hne2]; exact ⟨trivial, trivial⟩
theorem o_rest {n : Nat} {A : List (List Int)} {i : Nat} (hi : n ≤ i) : oLo n A i = 0 ∧ oHi n A i = 0 := by
  unfold oLo oHi
  rw [if_pos (.inr hi), if_pos (.inr hi)]; exact ⟨rfl, rfl⟩
/-- M holds what the rains of A leave. -/
structure IsO (n : Nat) (A : List (List Int)) (M : List Int) : Prop where
  len : M.length = 20
  at_ : ∀ i, i < 10 → Lo M i = oLo n A i ∧ Hi M i = oHi n A i
theorem IsO.eq {n : Nat} {A : List (List Int)} {M : List Int} (h : IsO n A M) : M = outL n A :=
  list_ext20 h.len (by simp [outL]) fun j hj => by
    obtain ⟨h1, h2⟩ := mk20_at (oLo n A) (oHi n A) hj
    have := h.at_ j hj
    rw [this.1, this.2]; exact ⟨h1.symm, h2.symm⟩
theorem IsO.zero (n : Nat) : IsO n [] (List.replicate 20 0) := ⟨by simp, fun i hi => by
  have h : ∀ i, i < 10 → G (List.replicate 20 (0 : Int)) (i * 2) = 0 ∧ G (List.replicate 20 (0 : Int)) (i * 2 + 1) = 0 := by decide
  have := h i hi
  simp only [Lo, Hi, this.1, this.2, oLo, oHi, true_or, if_true, and_self]⟩
/-- Weeks below j have the new rain. -/
structure MidO (n : Nat) (A : List (List Int)) (X : List Int) (j : Nat) (M : List Int) : Prop where
  len : M.length = 20
  new_ : ∀ i, i < j → i < 10 → Lo M i = oLo n (A ++ [X]) i ∧ Hi M i = oHi n (A ++ [X]) i
  old_ : ∀ i, j ≤ i → i < 10 → Lo M i = oLo n A i ∧ Hi M i = oHi n A i
theorem IsO.mid {n : Nat} {A : List (List Int)} {M : List Int} (h : IsO n A M) (X : List Int) : MidO n A X 0 M := ⟨h.len, fun _i hi => absurd hi (Nat.not_lt_zero _), fun i _ hi => h.at_ i hi⟩
theorem MidO.done {n : Nat} {A : List (List Int)} {X M : List Int} (h : MidO n A X n M) : IsO n (A ++ [X]) M := ⟨h.len, fun i hi => by
  by_cases e : i < n
  · exact h.new_ i e hi
  · have a := h.old_ i (by omega) hi
    have b := o_rest (A := A) (show n ≤ i by omega); have c := o_rest (A := A ++ [X]) (show n ≤ i by omega)
    omega⟩
theorem MidO.next {n : Nat} {A : List (List Int)} {X M M3 : List Int} {j : Nat} (h : MidO n A X j M) (hj : j < n) (hn : n ≤ 10) (h3 : M3 = if A = [] then set2 M j (G X j, G X (10 + j)) else M) :
    MidO n A X (j + 1) (set2 M3 j (min (Lo M3 j) (G X j), max (Hi M3 j) (G X (10 + j)))) := by
  have hl : M3.length = 20 := by rw [h3]; split <;> simp [h.len]
  have hs := o_snoc (A := A) X hj
  have hold := h.old_ j (Nat.le_refl _) (by omega)
  have e3 : Lo M3 j = (if A = [] then G X j else oLo n A j) ∧ Hi M3 j = (if A = [] then G X (10 + j) else oHi n A j) := by
    rw [h3]
    by_cases hA : A = []
    · rw [if_pos hA, if_pos hA, if_pos hA]
      obtain ⟨a, b⟩ := set2_at h.len (i := j) (j := j) (by omega) (by omega) (G X j, G X (10 + j))
      rw [a, b, if_pos rfl, if_pos rfl]; exact ⟨rfl, rfl⟩
    · rw [if_neg hA, if_neg hA, if_neg hA]; exact hold
  have e4 : ∀ i, i < 10 → i ≠ j → Lo M3 i = Lo M i ∧ Hi M3 i = Hi M i := fun i hi hne => by
    rw [h3]
    by_cases hA : A = []
    · rw [if_pos hA]
      obtain ⟨a, b⟩ := set2_at h.len (i := j) (j := i) (by omega) hi (G X j, G X (10 + j))
      rw [a, b, if_neg (Ne.symm hne), if_neg (Ne.symm hne)]; exact ⟨rfl, rfl⟩
    · rw [if_neg hA]; exact ⟨rfl, rfl⟩
  refine ⟨by simp [hl], fun i hi h10 => ?_, fun i hi h10 => ?_⟩
  · obtain ⟨a, b⟩ := set2_at hl (i := j) (j := i) (by omega) h10 (min (Lo M3 j) (G X j), max (Hi M3 j) (G X (10 + j)))
    rw [a, b]
    by_cases e : j = i
    · subst e
      rw [if_pos rfl, if_pos rfl, hs.1, hs.2, e3.1, e3.2]
      by_cases hA : A = []
      · simp only [if_pos hA]; omega
      · simp only [if_neg hA]; exact ⟨trivial, trivial⟩
    · rw [if_neg e, if_neg e, (e4 i h10 (Ne.symm e)).1, (e4 i h10 (Ne.symm e)).2]
      exact h.new_ i (by omega) h10
  · obtain ⟨a, b⟩ := set2_at hl (i := j) (j := i) (by omega) h10 (min (Lo M3 j) (G X j), max (Hi M3 j) (G X (10 + j)))
    rw [a, b, if_neg (by omega), if_neg (by omega), (e4 i h10 (by omega)).1, (e4 i h10 (by omega)).2]
    exact h.old_ i (by omega) h10
end Go.S

/- What the package spring is asked, handed back. -/
namespace Go.S
open Go Go.X
def askE (s : Sp) (p : Prop) [Decidable p] (e : Int) : Int := if ¬SpP s then 10 else if ¬p then e else if TrueP s then 0 else 8
def outA (s : Sp) : List Int := outL s.weeks.toNat (lvsL s (baseL s) (rnsL s (baseL s)))
structure AskR (s : Sp) (bo ro : Option Addr) (bc rc : Nat) (p : Prop) [Decidable p] (e : Int) (v : Value) : Prop where
  ex : ∃ W O, W.length = 29 ∧ W.all isOne = true ∧ O.length = 20 ∧ v = .tuple ⟨[.agg ⟨W⟩, .agg ⟨ints O⟩, .int .i64 (askE s p e)]⟩ ∧ (SpP s → p → TrueP s → W = watC s bo ro bc rc (flL s) ∧ O = outA s)
end Go.S
namespace Go.S
open Go Go.X
theorem askE_told {s : Sp} {week : Int} {p : Prop} [Decidable p] (hp : SpP s → (p ↔ Wi week 0 (s.weeks - 1))) : askE s p 11 = toldE s week := by
  unfold askE toldE TrueP
  by_cases hv : SpP s
  · have hq := hp hv
    by_cases h : p
    · have hw := hq.1 h
      by_cases ht : rnsL s (baseL s) = []
      · rw [if_neg (c := ¬SpP s) (fun hn => hn hv), if_neg (c := ¬SpP s) (fun hn => hn hv), if_neg (c := ¬p) (fun hn => hn h), if_neg (c := ¬Wi week 0 (s.weeks - 1)) (fun hn => hn hw), if_pos ht, if_neg (fun hn => hn ht)]
      · rw [if_neg (c := ¬SpP s) (fun hn => hn hv), if_neg (c := ¬SpP s) (fun hn => hn hv), if_neg (c := ¬p) (fun hn => hn h), if_neg (c := ¬Wi week 0 (s.weeks - 1)) (fun hn => hn hw), if_neg ht, if_pos ht]
    · have hw : ¬Wi week 0 (s.weeks - 1) := fun hn => h (hq.2 hn)
      rw [if_neg (c := ¬SpP s) (fun hn => hn hv), if_neg (c := ¬SpP s) (fun hn => hn hv), if_pos h, if_pos hw]
  · rw [if_pos hv, if_pos hv]
theorem outA_at {s : Sp} {week : Int} (h : toldE s week = 0) : Lo (outA s) week.toNat = givesLo s week ∧ Hi (outA s) week.toNat = givesHi s week := by
  obtain ⟨hv, hw, ht⟩ := toldE_valid h
  have h1 := hv.1; unfold HeadP at h1
  obtain ⟨a, b⟩ := mk20_at (oLo s.weeks.toNat (lvsL s (baseL s) (rnsL s (baseL s)))) (oHi s.weeks.toNat (lvsL s (baseL s) (rnsL s (baseL s)))) (w := week.toNat) (by omega)
  have hA : ¬(lvsL s (baseL s) (rnsL s (baseL s)) = [] ∨ s.weeks.toNat ≤ week.toNat) := by
    rintro (h | h)
    · exact ht (by simpa [lvsL] using h)
    · omega
  unfold outA outL
  rw [a, b, givesLo, givesHi, if_pos h, if_pos h, toldA, toldL_ok h, oLo, oHi, if_neg hA, if_neg hA]
  exact ⟨rfl, rfl⟩
end Go.S

/- Supplies, sets of streets, what can be: the plain words. Nothing of Go stands here. -/
namespace Go.T
open Go.S
structure Fo where
  id : Int
  sp : Sp
  deriving DecidableEq, Inhabited
structure Sr where
  (id n0 n1 least : Int)
  draws : List Int
  deriving DecidableEq, Inhabited
structure Su where
  founts : List Fo
  streets : List Sr
  deriving DecidableEq, Inhabited
/-- There is a fountain of this id. -/
def HasF (u : Su) (id : Int) : Prop := ∃ x ∈ u.founts, x.id = id
instance (u : Su) (id : Int) : Decidable (HasF u id) := by unfold HasF; infer_instance
def lastF (u : Su) : Nat → Int
  | 0 => 0
  | k + 1 => (u.founts.getD k default).id
def lastR (u : Su) : Nat → Int
  | 0 => 0
  | k + 1 => (u.streets.getD k default).id
def lastD (l : List Int) : Nat → Int
  | 0 => 0
  | k + 1 => l.getD k 0
abbrev FoP (last : Int) (x : Fo) : Prop := Wi x.id (last + 1) 9999 ∧ SpP x.sp
/-- What a street draws from: there, and each once. -/
def DrP (u : Su) (l : List Int) : Prop := ∀ i, i < l.length → lastD l i < l.getD i 0 ∧ HasF u (l.getD i 0)
instance (u : Su) (l : List Int) : Decidable (DrP u l) := by unfold DrP; infer_instance
abbrev SrP (u : Su) (last : Int) (x : Sr) : Prop := Wi x.id (last + 1) 9999 ∧ Spn x.n0 x.n1 0 100 ∧ Wi x.least 0 x.n0 ∧ DrP u x.draws
def SizeP (u : Su) : Prop := (1 ≤ u.founts.length ∧ u.founts.length ≤ 4) ∧ u.streets.length ≤ 5
def FountsP (u : Su) : Prop := ∀ i, i < u.founts.length → FoP (lastF u i) (u.founts.getD i default)
def StreetsP (u : Su) : Prop := ∀ i, i < u.streets.length → SrP u (lastR u i) (u.streets.getD i default)
instance (u : Su) : Decidable (SizeP u) := by unfold SizeP; infer_instance
instance (u : Su) : Decidable (FountsP u) := by unfold FountsP; infer_instance
instance (u : Su) : Decidable (StreetsP u) := by unfold StreetsP; infer_instance
/-- A valid supply. -/
def SuP (u : Su) : Prop := SizeP u ∧ FountsP u ∧ StreetsP u
instance (u : Su) : Decidable (SuP u) := by unfold SuP; infer_instance
theorem lastF_pos {u : Su} (h : FountsP u) : ∀ k, k ≤ u.founts.length → 0 ≤ lastF u k
  | 0, _ => Int.le_refl _
  | k + 1, hk => by
    have ih := lastF_pos h k (by omega)
    have h1 := (h k (by omega)).1.1
    simp only [lastF]; omega
/-- How many weeks there are: the fewest of all springs. -/
def longTo (u : Su) : Nat → Int
  | 0 => 10
  | k + 1 => min (longTo u k) (u.founts.getD k default).sp.weeks
def long (u : Su) : Int := longTo u u.founts.length
/-! ### sets of streets, by bits -/
/-- A set of streets, by bits, has street i. -/
abbrev hasI (b i : Nat) : Prop := b / 2 ^ i % 2 = 1
/-- Some street of a set, of the first k, draws from a fountain. -/
def opnB (u : Su) (b : Nat) (id : Int) : Nat → Prop
  | 0 => False
  | k + 1 => opnB u b id k ∨ (hasI b k ∧ id ∈ (u.streets.getD k default).draws)
instance opensD (u : Su) (b : Nat) (id : Int) : (k : Nat) → Decidable (opnB u b id k)
  | 0 => .isFalse fun h => h
  | k + 1 => by unfold opnB; have := opensD u b id k; infer_instance
/-- What all fountains of the first k give from which some of a set can draw. -/
def thrTo (u : Su) (b : Nat) (water : List Int) : Nat → Int
  | 0 => 0
  | k + 1 => if opnB u b (u.founts.getD k default).id u.streets.length then thrTo u b water k + water.getD k 0 else thrTo u b water k
def thr (u : Su) (b : Nat) (water : List Int) : Int := thrTo u b water u.founts.length
def sumTo (b : Nat) (l : List Int) : Nat → Int
  | 0 => 0
  | k + 1 => if hasI b k then sumTo b l k + l.getD k 0 else sumTo b l k
/-- The sum of the numbers of a set. -/
def sumB (b : Nat) (l : List Int) : Int := sumTo b l l.length
/-- A sharing can be: no streets get more than there is for them. -/
def CanP (u : Su) (water l : List Int) : Prop := ∀ b, b < 2 ^ l.length → sumB b l ≤ thr u b water
instance (u : Su) (water l : List Int) : Decidable (CanP u water l) := by unfold CanP; infer_instance
theorem sumTo_mono {b : Nat} {l m : List Int} : ∀ k, (∀ i, i < k → l.getD i 0 ≤ m.getD i 0) → sumTo b l k ≤ sumTo b m k
  | 0, _ => Int.le_refl _
  | k + 1, h => by
    have ih := sumTo_mono (b := b) k (fun i hi => h i (by omega))
    have h1 := h k (by omega)
    simp only [sumTo]; split <;> omega
/-- Who gets less can have it too. -/
theorem CanP.mono {u : Su} {water l m : List Int} (h : CanP u water m) (hl : l.length = m.length) (hm : ∀ i, i < m.length → l.getD i 0 ≤ m.getD i 0) : CanP u water l := by
  intro b hb
  have h1 := h b (by rw [← hl]; exact hb)
  have h2 : sumTo b l m.length ≤ sumTo b m m.length := sumTo_mono _ hm
  unfold sumB at *
  rw [hl]; omega
/-- What streets need, at best the least of it. -/
def needs (u : Su) (best : Bool) : List Int := u.streets.map fun x => if best then x.n0 else x.n1
def leasts (u : Su) : List Int := u.streets.map Sr.least
end Go.T

/- Sets of streets together: more than one set. Nothing of Go stands here. -/
namespace Go.T
open Go.S
theorem hasI_or (b c i : Nat) : hasI (b ||| c) i ↔ hasI b i ∨ hasI c i := by
  have h : ∀ x : Nat, hasI x i ↔ x.testBit i = true := fun x => by rw [Nat.testBit_eq_decide_div_mod_eq]; simp
  rw [h, h, h, Nat.testBit_or]; simp
theorem hasI_and (b c i : Nat) : hasI (b &&& c) i ↔ hasI b i ∧ hasI c i := by
  have h : ∀ x : Nat, hasI x i ↔ x.testBit i = true := fun x => by rw [Nat.testBit_eq_decide_div_mod_eq]; simp
  rw [h, h, h, Nat.testBit_and]; simp
theorem sumTo_mod (b c : Nat) (l : List Int) : ∀ k, sumTo (b ||| c) l k + sumTo (b &&& c) l k = sumTo b l k + sumTo c l k
  | 0 => rfl
  | k + 1 => by
    have ih := sumTo_mod b c l k
    have h1 := hasI_or b c k
    have h2 := hasI_and b c k
    simp only [sumTo]
    by_cases hb : hasI b k <;> by_cases hc : hasI c k <;> simp only [h1, h2, hb, hc, if_true, if_false, or_true, true_or, or_false, and_true, and_false, false_and, true_and, or_self, and_self] <;> omega
theorem opens_or (u : Su) (b c : Nat) (d : Int) : ∀ k, opnB u (b ||| c) d k ↔ opnB u b d k ∨ opnB u c d k
  | 0 => by simp [opnB]
  | k + 1 => by
    have ih := opens_or u b c d k
    have h1 := hasI_or b c k
    simp only [opnB]; rw [ih, h1]
    constructor
    · rintro ((h | h) | ⟨h | h, h'⟩)
      · exact .inl (.inl h)
      · exact .inr (.inl h)
      · exact .inl (.inr ⟨h, h'⟩)
      · exact .inr (.inr ⟨h, h'⟩)
    · rintro ((h | ⟨h, h'⟩) | (h | ⟨h, h'⟩))
      · exact .inl (.inl h)
      · exact .inr ⟨.inl h, h'⟩
      · exact .inl (.inr h)
      · exact .inr ⟨.inr h, h'⟩
theorem opens_and (u : Su) (b c : Nat) (d : Int) : ∀ k, opnB u (b &&& c) d k → opnB u b d k ∧ opnB u c d k
  | 0 => fun h => h.elim
  | k + 1 => by
    have ih := opens_and u b c d k
    have h1 := hasI_and b c k
    simp only [opnB]; rw [h1]
    rintro (h | ⟨⟨h, h''⟩, h'⟩)
    · exact ⟨.inl (ih h).1, .inl (ih h).2⟩
    · exact ⟨.inr ⟨h, h'⟩, .inr ⟨h'', h'⟩⟩
/-- What two sets have together, and what both have, is no more than what they have. -/
theorem thrTo_sub (u : Su) (b c : Nat) (w : List Int) (hw : ∀ k, 0 ≤ w.getD k 0) : ∀ k, thrTo u (b ||| c) w k + thrTo u (b &&& c) w k ≤ thrTo u b w k + thrTo u c w k
  | 0 => Int.le_refl _
  | k + 1 => by
    have ih := thrTo_sub u b c w hw k
    have h1 := opens_or u b c (u.founts.getD k default).id u.streets.length
    have h2 := opens_and u b c (u.founts.getD k default).id u.streets.length
    have h3 := hw k
    simp only [thrTo]
    by_cases hb : opnB u b (u.founts.getD k default).id u.streets.length <;> by_cases hc : opnB u c (u.founts.getD k default).id u.streets.length
    · rw [if_pos (h1.2 (.inl hb)), if_pos hb, if_pos hc]; split <;> omega
    · rw [if_pos (h1.2 (.inl hb)), if_pos hb, if_neg hc, if_neg (fun h => hc (h2 h).2)]; omega
    · rw [if_pos (h1.2 (.inr hc)), if_neg hb, if_pos hc, if_neg (fun h => hb (h2 h).1)]; omega
    · rw [if_neg (fun h => (h1.1 h).elim hb hc), if_neg hb, if_neg hc, if_neg (fun h => hb (h2 h).1)]; omega
/-- A number between all that it must reach and all that it must not pass. -/
theorem between (f g : Nat → Int) (p q : Nat → Prop) [DecidablePred p] (h0 : ∀ b, q b → 0 ≤ g b) (h : ∀ b c, p b → q c → f b ≤ g c) : ∀ N : Nat, ∃ n : Int, 0 ≤ n ∧ (∀ b, b < N → p b → f b ≤ n) ∧ (∀ c, q c → n ≤ g c) ∧ (n = 0 ∨ ∃ b, b < N ∧ p b ∧ n = f b)
  | 0 => ⟨0, Int.le_refl _, fun b hb => by omega, fun c hc => h0 c hc, .inl rfl⟩
  | N + 1 => by
    obtain ⟨n, hn, h1, h2, h3⟩ := between f g p q h0 h N
    by_cases hp : p N ∧ n < f N
    · refine ⟨f N, by omega, fun b hb hpb => ?_, fun c hc => h N c hp.1 hc, .inr ⟨N, by omega, hp.1, rfl⟩⟩
      by_cases e : b = N
      · rw [e]; omega
      · have := h1 b (by omega) hpb; omega
    · refine ⟨n, hn, fun b hb hpb => ?_, h2, h3.imp id fun ⟨b, hb, x⟩ => ⟨b, by omega, x⟩⟩
      by_cases e : b = N
      · subst e
        by_cases hlt : n < f b
        · exact absurd ⟨hpb, hlt⟩ hp
        · omega
      · exact h1 b (by omega) hpb
end Go.T

/- A street draws from one fountain less: what can be pulled. Nothing of Go stands here. -/
namespace Go.T
open Go.S
theorem opens_iff (u : Su) (b : Nat) (d : Int) : ∀ k, opnB u b d k ↔ ∃ j, j < k ∧ hasI b j ∧ d ∈ (u.streets.getD j default).draws
  | 0 => ⟨fun h => h.elim, fun ⟨_, h, _⟩ => by omega⟩
  | k + 1 => by
    have ih := opens_iff u b d k
    simp only [opnB]; rw [ih]
    constructor
    · rintro (⟨j, h1, h2⟩ | h)
      · exact ⟨j, by omega, h2⟩
      · exact ⟨k, by omega, h⟩
    · rintro ⟨j, h1, h2⟩
      by_cases e : j = k
      · exact .inr (e ▸ h2)
      · exact .inl ⟨j, by omega, h2⟩
/-- A supply of which street i draws from others. -/
def withD (u : Su) (i : Nat) (ds : List Int) : Su := { u with streets := u.streets.set i { u.streets.getD i default with draws := ds } }
theorem withD_len (u : Su) (i : Nat) (ds : List Int) : (withD u i ds).streets.length = u.streets.length := by simp [withD]
theorem withD_founts (u : Su) (i : Nat) (ds : List Int) : (withD u i ds).founts = u.founts := rfl
theorem withD_at {u : Su} {i : Nat} (ds : List Int) (hi : i < u.streets.length) : ((withD u i ds).streets.getD i default).draws = ds := by
  simp [withD, List.getD_eq_getElem?_getD, hi]
theorem withD_ne {u : Su} {i j : Nat} (ds : List Int) (h : j ≠ i) : (withD u i ds).streets.getD j default = u.streets.getD j default := by
  simp only [withD, List.getD_eq_getElem?_getD]
  rw [List.getElem?_set_ne (fun e => h e.symm)]
/-- What a set opnB, if street i draws from one fountain less. -/
theorem opens_with {u : Su} {i : Nat} {d0 : Int} {ds : List Int} (hi : i < u.streets.length) (hd : (u.streets.getD i default).draws = d0 :: ds) (b : Nat) (d : Int) :
    opnB u b d u.streets.length ↔ opnB (withD u i ds) b d u.streets.length ∨ (hasI b i ∧ d = d0) := by
  rw [opens_iff, opens_iff]
  constructor
  · rintro ⟨j, h1, h2, h3⟩
    by_cases e : j = i
    · subst e; rw [hd] at h3
      rcases List.mem_cons.1 h3 with h4 | h4
      · exact .inr ⟨h2, h4⟩
      · exact .inl ⟨j, h1, h2, by rw [withD_at ds hi]; exact h4⟩
    · exact .inl ⟨j, h1, h2, by rw [withD_ne ds e]; exact h3⟩
  · rintro (⟨j, h1, h2, h3⟩ | ⟨h1, h2⟩)
    · refine ⟨j, h1, h2, ?_⟩
      by_cases e : j = i
      · subst e; rw [withD_at ds hi] at h3; rw [hd]; exact List.mem_cons_of_mem _ h3
      · rw [withD_ne ds e] at h3; exact h3
    · exact ⟨i, hi, h1, by rw [hd, h2]; exact List.mem_cons_self ..⟩
theorem getD_set_self {l : List Int} {k : Nat} (a : Int) (h : k < l.length) : (l.set k a).getD k 0 = a := by
  simp [List.getD_eq_getElem?_getD, h]
theorem getD_set_ne {l : List Int} {k j : Nat} (a : Int) (h : j ≠ k) : (l.set k a).getD j 0 = l.getD j 0 := by
  simp only [List.getD_eq_getElem?_getD]; rw [List.getElem?_set_ne (fun e => h e.symm)]
/-- The sum of a set, if one of them gets n less. -/
theorem sumTo_less {b i : Nat} {l : List Int} (n : Int) (hi : i < l.length) : ∀ k, sumTo b (l.set i (l.getD i 0 - n)) k = sumTo b l k - if i < k ∧ hasI b i then n else 0
  | 0 => by simp [sumTo]
  | k + 1 => by
    have ih := sumTo_less (b := b) n hi k
    simp only [sumTo]; rw [ih]
    by_cases e : k = i
    · subst e; rw [getD_set_self _ hi]
      by_cases hb : hasI b k
      · rw [if_pos hb, if_pos hb, if_neg (by omega), if_pos ⟨by omega, hb⟩]; omega
      · rw [if_neg hb, if_neg hb, if_neg (by omega), if_neg (fun h => hb h.2)]
    · rw [getD_set_ne _ e]
      by_cases hb : i < k ∧ hasI b i
      · rw [if_pos hb, if_pos (show i < k + 1 ∧ hasI b i from ⟨by omega, hb.2⟩)]; split <;> omega
      · rw [if_neg hb, if_neg (show ¬(i < k + 1 ∧ hasI b i) from fun h => hb ⟨by omega, h.2⟩)]; split <;> omega
/-- What there is for a set, if one fountain gives n less. -/
theorem thrTo_less {u : Su} {b a : Nat} {w : List Int} (n : Int) (ha : a < w.length) : ∀ k, thrTo u b (w.set a (w.getD a 0 - n)) k = thrTo u b w k - if a < k ∧ opnB u b (u.founts.getD a default).id u.streets.length then n else 0
  | 0 => by simp [thrTo]
  | k + 1 => by
    have ih := thrTo_less (u := u) (b := b) n ha k
    simp only [thrTo]; rw [ih]
    by_cases e : k = a
    · subst e; rw [getD_set_self _ ha]
      by_cases hb : opnB u b (u.founts.getD k default).id u.streets.length
      · rw [if_pos hb, if_pos hb, if_neg (by omega), if_pos ⟨by omega, hb⟩]; omega
      · rw [if_neg hb, if_neg hb, if_neg (by omega), if_neg (fun h => hb h.2)]
    · rw [getD_set_ne _ e]
      by_cases hb : a < k ∧ opnB u b (u.founts.getD a default).id u.streets.length
      · rw [if_pos hb, if_pos (show a < k + 1 ∧ _ from ⟨by omega, hb.2⟩)]; split <;> omega
      · rw [if_neg hb, if_neg (show ¬(a < k + 1 ∧ _) from fun h => hb ⟨by omega, h.2⟩)]; split <;> omega
/-- What there is for a set, if street i draws from one fountain less. -/
theorem thrTo_with {u : Su} {i a : Nat} {ds : List Int} {w : List Int} (hi : i < u.streets.length) (hd : (u.streets.getD i default).draws = (u.founts.getD a default).id :: ds)
    (hu : ∀ k, k < u.founts.length → (u.founts.getD k default).id = (u.founts.getD a default).id → k = a) (b : Nat) : ∀ k, k ≤ u.founts.length →
    thrTo u b w k = thrTo (withD u i ds) b w k + if a < k ∧ hasI b i ∧ ¬ opnB (withD u i ds) b (u.founts.getD a default).id u.streets.length then w.getD a 0 else 0
  | 0, _ => by simp [thrTo]
  | k + 1, hk => by
    have ih := thrTo_with hi hd hu b (w := w) k (by omega)
    have ho := opens_with hi hd b (u.founts.getD k default).id
    simp only [thrTo, withD_len, withD_founts]; rw [ih]
    by_cases e : k = a
    · subst e
      by_cases hb : opnB (withD u i ds) b (u.founts.getD k default).id u.streets.length
      · rw [if_pos (ho.2 (.inl hb)), if_pos hb, if_neg (by omega), if_neg (fun h => h.2.2 hb)]; omega
      · by_cases hc : hasI b i
        · rw [if_pos (ho.2 (.inr ⟨hc, rfl⟩)), if_neg hb, if_neg (by omega), if_pos ⟨by omega, hc, hb⟩]; omega
        · rw [if_neg (fun h => (ho.1 h).elim hb (fun x => hc x.1)), if_neg hb, if_neg (by omega), if_neg (fun h => hc h.2.1)]
    · have hne : ¬ (u.founts.getD k default).id = (u.founts.getD a default).id := fun h => e (hu k (by omega) h)
      have hx : (a < k + 1 ∧ hasI b i ∧ ¬ opnB (withD u i ds) b (u.founts.getD a default).id u.streets.length) ↔ (a < k ∧ hasI b i ∧ ¬ opnB (withD u i ds) b (u.founts.getD a default).id u.streets.length) := ⟨fun h => ⟨by omega, h.2⟩, fun h => ⟨by omega, h.2⟩⟩
      have hy : opnB u b (u.founts.getD k default).id u.streets.length ↔ opnB (withD u i ds) b (u.founts.getD k default).id u.streets.length := ⟨fun h => (ho.1 h).elim id (fun x => absurd x.2 hne), fun h => ho.2 (.inl h)⟩
      simp only [hx, hy]
      by_cases hb : opnB (withD u i ds) b (u.founts.getD k default).id u.streets.length
      · rw [if_pos hb, if_pos hb]; split <;> omega
      · rw [if_neg hb, if_neg hb]
end Go.T

/- A pull that lets the rest be: there always is one. Nothing of Go stands here. -/
namespace Go.T
open Go.S
theorem hasI_out {b i : Nat} (h : hasI b i) (j : Nat) : hasI (b ^^^ 2 ^ i) j ↔ hasI b j ∧ j ≠ i := by
  have ht : ∀ x k : Nat, hasI x k ↔ x.testBit k = true := fun x k => by rw [Nat.testBit_eq_decide_div_mod_eq]; simp
  rw [ht] at h
  rw [ht, ht, Nat.testBit_xor, Nat.testBit_two_pow]
  by_cases e : i = j
  · subst e; simp [h]
  · have e2 : j ≠ i := fun x => e x.symm
    simp [e, e2]
theorem sumTo_out {b c i : Nat} (h : hasI b i) (hc : ∀ j, hasI c j ↔ hasI b j ∧ j ≠ i) (l : List Int) : ∀ k, sumTo c l k = sumTo b l k - if i < k then l.getD i 0 else 0
  | 0 => by simp [sumTo]
  | k + 1 => by
    have ih := sumTo_out h hc l k
    have hk := hc k
    simp only [sumTo]; rw [ih]
    by_cases e : k = i
    · subst e
      rw [if_neg (fun x => (hk.1 x).2 rfl), if_pos h, if_neg (by omega), if_pos (by omega)]; omega
    · by_cases hb : hasI b k
      · rw [if_pos (hk.2 ⟨hb, e⟩), if_pos hb]
        by_cases hi : i < k
        · rw [if_pos hi, if_pos (by omega)]; omega
        · rw [if_neg hi, if_neg (by omega)]; omega
      · rw [if_neg (fun x => hb (hk.1 x).1), if_neg hb]
        by_cases hi : i < k
        · rw [if_pos hi, if_pos (by omega)]
        · rw [if_neg hi, if_neg (by omega)]
theorem thrTo_mono {u : Su} {b c : Nat} {w : List Int} (hw : ∀ k, 0 ≤ w.getD k 0) (h : ∀ d, opnB u c d u.streets.length → opnB u b d u.streets.length) : ∀ k, thrTo u c w k ≤ thrTo u b w k
  | 0 => Int.le_refl _
  | k + 1 => by
    have ih := thrTo_mono hw h k
    have h1 := hw k
    have h2 := h (u.founts.getD k default).id
    simp only [thrTo]
    by_cases hc : opnB u c (u.founts.getD k default).id u.streets.length
    · rw [if_pos hc, if_pos (h2 hc)]; omega
    · rw [if_neg hc]; split <;> omega
/-- A pull there is: so much as lets the rest be. -/
theorem pull_step {u : Su} {i a : Nat} {ds : List Int} {w l : List Int} (hi : i < u.streets.length) (hd : (u.streets.getD i default).draws = (u.founts.getD a default).id :: ds)
    (hu : ∀ k, k < u.founts.length → (u.founts.getD k default).id = (u.founts.getD a default).id → k = a) (ha : a < u.founts.length) (haw : a < w.length) (hl : l.length = u.streets.length)
    (hw : ∀ k, 0 ≤ w.getD k 0) (hp : 0 ≤ l.getD i 0) (h : CanP u w l) :
    ∃ n, 0 ≤ n ∧ n ≤ min (l.getD i 0) (w.getD a 0) ∧ CanP (withD u i ds) (w.set a (w.getD a 0 - n)) (l.set i (l.getD i 0 - n)) := by
  let O : Nat → Prop := fun b => opnB (withD u i ds) b (u.founts.getD a default).id u.streets.length
  have key : ∀ b, b < 2 ^ l.length → sumB b l ≤ thr (withD u i ds) b w + if hasI b i ∧ ¬ O b then w.getD a 0 else 0 := fun b hb => by
    have h1 := h b hb
    have h2 := thrTo_with hi hd hu b (w := w) u.founts.length (Nat.le_refl _)
    unfold thr at h1 ⊢
    rw [h2] at h1
    by_cases hx : hasI b i ∧ ¬ O b
    · rw [if_pos (show a < _ ∧ _ from ⟨ha, hx⟩)] at h1; rw [if_pos hx]; exact h1
    · rw [if_neg (fun x => hx x.2)] at h1; rw [if_neg hx]; exact h1
  have main : ∀ b c, (b < 2 ^ l.length ∧ hasI b i ∧ ¬ O b) → (c < 2 ^ l.length ∧ ¬ hasI c i ∧ O c) → sumB b l - thr (withD u i ds) b w ≤ thr (withD u i ds) c w - sumB c l := by
    rintro b c ⟨hb, hbi, hbo⟩ ⟨hc, hci, hco⟩
    have k1 := key (b ||| c) (Nat.or_lt_two_pow hb hc)
    have k2 := key (b &&& c) (Nat.and_lt_two_pow _ hc)
    rw [if_neg (fun x => x.2 ((opens_or (withD u i ds) b c _ _).2 (.inr hco)))] at k1
    rw [if_neg (fun x => hci ((hasI_and b c i).1 x.1).2)] at k2
    have k3 := sumTo_mod b c l l.length
    have k4 := thrTo_sub (withD u i ds) b c w hw u.founts.length
    unfold sumB thr at *
    simp only [withD_founts] at *
    omega
  have low : ∀ b, (b < 2 ^ l.length ∧ hasI b i ∧ ¬ O b) → sumB b l - thr (withD u i ds) b w ≤ l.getD i 0 ∧ sumB b l - thr (withD u i ds) b w ≤ w.getD a 0 := by
    rintro b ⟨hb, hbi, hbo⟩
    have k1 := key b hb
    rw [if_pos ⟨hbi, hbo⟩] at k1
    refine ⟨?_, by omega⟩
    have hc := hasI_out hbi
    have k2 := key (b ^^^ 2 ^ i) (Nat.xor_lt_two_pow hb (Nat.pow_lt_pow_right (by omega) (by omega)))
    rw [if_neg (fun x => ((hc i).1 x.1).2 rfl)] at k2
    have k3 := sumTo_out hbi hc l l.length
    rw [if_pos (by omega)] at k3
    have k4 := thrTo_mono (u := withD u i ds) (b := b) (c := b ^^^ 2 ^ i) hw (fun d hx => by
      rw [opens_iff] at hx ⊢
      obtain ⟨j, h1, h2, h3⟩ := hx
      exact ⟨j, h1, ((hc j).1 h2).1, h3⟩) u.founts.length
    unfold sumB thr at *
    simp only [withD_founts] at *
    omega
  haveI : DecidablePred O := fun b => inferInstanceAs (Decidable (opnB _ _ _ _))
  obtain ⟨n, hn, h1, h2, h3⟩ := between (fun b => sumB b l - thr (withD u i ds) b w) (fun c => thr (withD u i ds) c w - sumB c l)
    (fun b => b < 2 ^ l.length ∧ hasI b i ∧ ¬ O b) (fun c => c < 2 ^ l.length ∧ ¬ hasI c i ∧ O c)
    (fun c hc => by have := key c hc.1; rw [if_neg (fun x => hc.2.1 x.1)] at this; omega) main (2 ^ l.length)
  refine ⟨n, hn, ?_, ?_⟩
  · have hwa := hw a
    rcases h3 with h3 | ⟨b, _, hb, h3⟩
    · omega
    · have := low b hb; omega
  · intro b hb
    rw [List.length_set] at hb
    have k1 := key b hb
    have k2 := sumTo_less (b := b) n (show i < l.length by omega) l.length
    have k3 := thrTo_less (u := withD u i ds) (b := b) n haw u.founts.length
    unfold sumB thr
    rw [List.length_set, k2, withD_founts, k3]
    simp only [withD_founts, withD_len]
    have k4 := h1 b hb
    have k5 := h2 b
    unfold sumB thr at k1 k4 k5
    simp only [withD_founts] at k1 k4 k5
    by_cases hbi : hasI b i <;> by_cases hbo : O b
    · rw [if_neg (fun x => x.2 hbo)] at k1
      rw [if_pos ⟨by omega, hbi⟩, if_pos (show a < _ ∧ _ from ⟨ha, hbo⟩)]; omega
    · have := k4 ⟨hb, hbi, hbo⟩
      rw [if_pos ⟨by omega, hbi⟩, if_neg (fun x => hbo x.2)]; omega
    · have := k5 ⟨hb, hbi, hbo⟩
      rw [if_neg (fun x => hbi x.2), if_pos (show a < _ ∧ _ from ⟨ha, hbo⟩)]; omega
    · rw [if_neg (fun x => hbi x.1)] at k1
      rw [if_neg (fun x => hbi x.2), if_neg (fun x => hbo x.2)]; omega
end Go.T

/- A street that has got all its share may draw from anywhere. Nothing of Go stands here. -/
namespace Go.T
open Go.S
theorem opens_without {u : Su} {i b : Nat} (ds : List Int) (h : ¬ hasI b i) (d : Int) : opnB (withD u i ds) b d u.streets.length ↔ opnB u b d u.streets.length := by
  rw [opens_iff, opens_iff]
  constructor
  · rintro ⟨j, h1, h2, h3⟩
    exact ⟨j, h1, h2, by rw [withD_ne ds (fun e => h (by subst e; exact h2))] at h3; exact h3⟩
  · rintro ⟨j, h1, h2, h3⟩
    exact ⟨j, h1, h2, by rw [withD_ne ds (fun e => h (by subst e; exact h2))]; exact h3⟩
theorem thrTo_without {u : Su} {i b : Nat} (ds : List Int) (h : ¬ hasI b i) (w : List Int) : ∀ k, thrTo (withD u i ds) b w k = thrTo u b w k
  | 0 => rfl
  | k + 1 => by
    have ih := thrTo_without ds h w (u := u) k
    have ho := opens_without (u := u) ds h (u.founts.getD k default).id
    simp only [thrTo, withD_len, withD_founts]
    rw [ih]; simp only [ho]
/-- A street that has got all its share may draw from anywhere. -/
theorem CanP.any_draws {u : Su} {i : Nat} {w l : List Int} (ds : List Int) (hi : i < u.streets.length) (hl : l.length = u.streets.length) (hw : ∀ k, 0 ≤ w.getD k 0) (h0 : l.getD i 0 = 0) (h : CanP u w l) : CanP (withD u i ds) w l := by
  intro b hb
  by_cases hbi : hasI b i
  · have hc := hasI_out hbi
    have hci : ¬ hasI (b ^^^ 2 ^ i) i := fun x => ((hc i).1 x).2 rfl
    have k1 := h (b ^^^ 2 ^ i) (Nat.xor_lt_two_pow hb (Nat.pow_lt_pow_right (by omega) (by omega)))
    have k2 := sumTo_out hbi hc l l.length
    rw [if_pos (by omega), h0] at k2
    have k3 := thrTo_without (u := u) ds hci w u.founts.length
    have k4 := thrTo_mono (u := withD u i ds) (b := b) (c := b ^^^ 2 ^ i) hw (fun d hx => by
      rw [opens_iff] at hx ⊢
      obtain ⟨j, h1, h2, h3⟩ := hx
      exact ⟨j, h1, ((hc j).1 h2).1, h3⟩) u.founts.length
    unfold sumB thr at *
    simp only [withD_founts] at *
    omega
  · have k1 := h b hb
    have k3 := thrTo_without (u := u) ds hbi w u.founts.length
    unfold sumB thr at *
    simp only [withD_founts] at *
    omega
end Go.T

/- How many pints more are enough. Nothing of Go stands here. -/
namespace Go.T
open Go.S
/-- What a set lacks. -/
def lack (u : Su) (w l : List Int) (b : Nat) : Int := sumB b l - thr u b w
def maxL (u : Su) (w l : List Int) : Nat → Int
  | 0 => 0
  | k + 1 => max (maxL u w l k) (lack u w l k)
/-! ### the fair sharing: one for which it cannot be once can get no more later -/
/-- Street i can have a pint more. -/
def UpP (u : Su) (w l : List Int) (i : Nat) : Prop := l.getD i 0 + 1 ≤ (u.streets.getD i default).n1 ∧ CanP u w (l.set i (l.getD i 0 + 1))
instance (u : Su) (w l : List Int) (i : Nat) : Decidable (UpP u w l i) := by unfold UpP; infer_instance
theorem UpP.mono {u : Su} {w l m : List Int} {i : Nat} (h : UpP u w m i) (hi : i < l.length) (hl : l.length = m.length) (hm : ∀ j, j < m.length → l.getD j 0 ≤ m.getD j 0) : UpP u w l i := by
  have h1 := hm i (by omega)
  refine ⟨by have := h.1; omega, ?_⟩
  refine h.2.mono (by simp only [List.length_set]; exact hl) fun j hj => ?_
  rw [List.length_set] at hj
  by_cases e : j = i
  · subst e; rw [getD_set_self _ hi, getD_set_self _ (by omega)]; omega
  · rw [getD_set_ne _ e, getD_set_ne _ e]; exact hm j hj
/-- The least of those that are open, of the first k: its index. -/
def poorTo (p : Nat → Prop) [DecidablePred p] (l : List Int) : Nat → Option Nat
  | 0 => none
  | k + 1 => match poorTo p l k with
    | none => if p k then some k else none
    | some a => if p k ∧ l.getD k 0 < l.getD a 0 then some k else some a
theorem poorTo_spec (p : Nat → Prop) [DecidablePred p] (l : List Int) : ∀ k,
    (poorTo p l k = none ↔ ∀ j, j < k → ¬ p j) ∧ ∀ a, poorTo p l k = some a ↔ a < k ∧ p a ∧ (∀ j, j < k → p j → l.getD a 0 ≤ l.getD j 0) ∧ ∀ j, j < a → p j → l.getD a 0 < l.getD j 0
  | 0 => by simp [poorTo]
  | k + 1 => by
    obtain ⟨h1, h2⟩ := poorTo_spec p l k
    cases hq : poorTo p l k with
    | none =>
      have h3 := h1.1 hq
      simp only [poorTo, hq]
      by_cases hk : p k
      · rw [if_pos hk]
        refine ⟨⟨fun h => (by cases h), fun h => absurd hk (h k (by omega))⟩, fun a => ⟨fun h => ?_, fun h => ?_⟩⟩
        · injection h with h; subst h
          refine ⟨by omega, hk, fun j hj hpj => ?_, fun j hj hpj => absurd hpj (h3 j hj)⟩
          by_cases e : j = k
          · subst e; omega
          · exact absurd hpj (h3 j (by omega))
        · by_cases e : a = k
          · rw [e]
          · exact absurd h.2.1 (h3 a (by omega))
      · rw [if_neg hk]
        refine ⟨⟨fun _ j hj => ?_, fun _ => rfl⟩, fun a => ⟨fun h => (by cases h), fun h => ?_⟩⟩
        · by_cases e : j = k
          · subst e; exact hk
          · exact h3 j (by omega)
        · by_cases e : a = k
          · exact absurd (e ▸ h.2.1) hk
          · exact absurd h.2.1 (h3 a (by omega))
    | some c =>
      have h3 := (h2 c).1 hq
      simp only [poorTo, hq]
      have hno : ¬ ∀ j, j < k + 1 → ¬ p j := fun h => h c (by omega) h3.2.1
      by_cases hk : p k ∧ l.getD k 0 < l.getD c 0
      · rw [if_pos hk]
        refine ⟨⟨fun h => (by cases h), fun h => absurd h hno⟩, fun a => ⟨fun h => ?_, fun h => ?_⟩⟩
        · injection h with h; subst h
          refine ⟨by omega, hk.1, fun j hj hpj => ?_, fun j hj hpj => ?_⟩
          · by_cases e : j = k
            · subst e; omega
            · have := h3.2.2.1 j (by omega) hpj; omega
          · have := h3.2.2.1 j hj hpj; omega
        · by_cases e : a = k
          · rw [e]
          · have t1 := h.2.2.1 k (by omega) hk.1
            have t2 := h3.2.2.1 a (by omega) h.2.1
            omega
      · rw [if_neg hk]
        refine ⟨⟨fun h => (by cases h), fun h => absurd h hno⟩, fun a => ⟨fun h => ?_, fun h => ?_⟩⟩
        · injection h with h; subst h
          refine ⟨by omega, h3.2.1, fun j hj hpj => ?_, h3.2.2.2⟩
          by_cases e : j = k
          · subst e
            by_cases hlt : l.getD j 0 < l.getD c 0
            · exact absurd ⟨hpj, hlt⟩ hk
            · omega
          · exact h3.2.2.1 j (by omega) hpj
        · by_cases e : a = k
          · subst e
            have t1 := h.2.2.2 c h3.1 h3.2.1
            exact absurd ⟨h.2.1, t1⟩ hk
          · have t := (h2 a).2 ⟨by omega, h.2.1, fun j hj => h.2.2.1 j (by omega), h.2.2.2⟩
            rw [hq] at t; exact t
end Go.T

/- Supplies in memory; the variables of the package town. -/
namespace Go.T
open Go Go.X Go.S Go.RowKit
/-- Where a spring's book and readings lie. -/
structure FA where
  (bo ro : Option Addr)
  (bc rc : Nat)
instance : Inhabited FA := ⟨⟨none, none, 0, 0⟩⟩
abbrev DA := Option Addr × Nat
def foC (x : Fo) (a : FA) : List Value := [.int .i64 x.id, .int .i64 x.sp.weeks, .int .i64 x.sp.most, .int .i64 x.sp.fall, .int .i64 x.sp.a0, .int .i64 x.sp.a1, .int .i64 x.sp.w0, .int .i64 x.sp.w1, .slice a.bo x.sp.book.length a.bc, .slice a.ro x.sp.reads.length a.rc]
def srC (x : Sr) (a : DA) : List Value := [.int .i64 x.id, .int .i64 x.n0, .int .i64 x.n1, .int .i64 x.least, .slice a.1 x.draws.length a.2]
def foRows (u : Su) (fa : Nat → FA) : List (List Value) := (List.range u.founts.length).map fun i => foC (u.founts.getD i default) (fa i)
def srRows (u : Su) (sa : Nat → DA) : List (List Value) := (List.range u.streets.length).map fun i => srC (u.streets.getD i default) (sa i)
/-- A supply in memory. -/
structure SuAt (w : World) (u : Su) (fo so : Option Addr) (fa : Nat → FA) (sa : Nat → DA) : Prop where
  founts : RowsAt w fo 10 (foRows u fa)
  springs : ∀ i, i < u.founts.length → SpAt w (u.founts.getD i default).sp (fa i).bo (fa i).ro
  streets : RowsAt w so 5 (srRows u sa)
  draws : ∀ i, i < u.streets.length → RowsAt w (sa i).1 1 (ones (u.streets.getD i default).draws)
section
variable {w0 w w' : World} {own : X.Own} {u : Su} {fo so : Option Addr} {fa : Nat → FA} {sa : Nat → DA}
theorem SuAt.inv (h : SuAt w0 u fo so fa sa) (hI : Inv w0 own w) : SuAt w u fo so fa sa :=
  ⟨h.founts.inv hI, fun i hi => (h.springs i hi).inv hI, h.streets.inv hI, fun i hi => (h.draws i hi).inv hI⟩
theorem SuAt.below (h : SuAt w0 u fo so fa sa) (hb : Below w0.heap.size w0 w) : SuAt w u fo so fa sa := h.inv (own := []) ⟨hb, fun _ h => (by cases h), List.nodup_nil⟩
theorem foRows_get {i : Nat} (hi : i < u.founts.length) : (foRows u fa)[i]? = some (foC (u.founts.getD i default) (fa i)) := by simp [foRows, hi]
theorem srRows_get {i : Nat} (hi : i < u.streets.length) : (srRows u sa)[i]? = some (srC (u.streets.getD i default) (sa i)) := by simp [srRows, hi]
theorem SuAt.fount (h : SuAt w u fo so fa sa) {i : Nat} (hi : i < u.founts.length) : ∃ b o, fo = some ⟨b, o, none⟩ ∧ ∀ own, Mem w own b (o + i * 10) (foC (u.founts.getD i default) (fa i)) :=
  h.founts.get (foRows_get hi)
theorem SuAt.street (h : SuAt w u fo so fa sa) {i : Nat} (hi : i < u.streets.length) : ∃ b o, so = some ⟨b, o, none⟩ ∧ ∀ own, Mem w own b (o + i * 5) (srC (u.streets.getD i default) (sa i)) :=
  h.streets.get (srRows_get hi)
end
/-- A supply that is not great. -/
def LitP (u : Su) : Prop := (u.founts.length ≤ 8 ∧ u.streets.length ≤ 10) ∧ (∀ i, i < u.founts.length → (u.founts.getD i default).sp.book.length ≤ 30 ∧ (u.founts.getD i default).sp.reads.length ≤ 30) ∧ ∀ i, i < u.streets.length → (u.streets.getD i default).draws.length ≤ 20
instance (u : Su) : Decidable (LitP u) := by unfold LitP; infer_instance
def tckId : Nat → Nat
  | 0 => 143
  | 1 => 144
  | _ => 145
def tckFn (k : Nat) : Value := .func (.func (tckId k)) ⟨[]⟩ ⟨[]⟩
def tckCells : List Value := [tckFn 0, tckFn 1, tckFn 2]
/-- What the packages' variables hold. -/
structure Gt (w : World) : Prop where
  gl : Gl w
  checks : ∀ j v, tckCells[j]? = some v → w.cell? ⟨0, 0 + j, none⟩ = some v
theorem Gt.inv {w0 w : World} {own : X.Own} (h : Gt w0) (hI : Inv w0 own w) : Gt w := ⟨h.gl.inv hI, fun j v hj => cell_keep (h.checks j v hj) hI.below⟩
theorem Gt.memC {w : World} (h : Gt w) (own : X.Own) : Mem w own 0 0 tckCells := Mem.out h.checks
theorem tck_take (k : Nat) (hk : k < 3) : takeAt tckCells ((k : Int).toNat * 1) 1 = some [tckFn k] := by
  match k, hk with
  | 0, _ => rfl
  | 1, _ => rfl
  | 2, _ => rfl
def tckP (u : Su) : Nat → Prop
  | 0 => (1 ≤ (u.founts.length : Int) ∧ (u.founts.length : Int) ≤ 4) ∧ (u.streets.length : Int) ≤ 5
  | 1 => FountsP u
  | _ => StreetsP u
instance (u : Su) : ∀ k, Decidable (tckP u k)
  | 0 => inferInstanceAs (Decidable ((1 ≤ (u.founts.length : Int) ∧ (u.founts.length : Int) ≤ 4) ∧ (u.streets.length : Int) ≤ 5))
  | 1 => inferInstanceAs (Decidable (FountsP u))
  | _ + 2 => inferInstanceAs (Decidable (StreetsP u))
theorem tck_iff (u : Su) : SuP u ↔ ∀ k, k < 3 → tckP u k := by
  constructor
  · intro h k hk
    match k, hk with
    | 0, _ => have := h.1; unfold SizeP at this; simp only [tckP]; omega
    | 1, _ => exact h.2.1
    | 2, _ => exact h.2.2
  · intro h
    refine ⟨?_, h 1 (by omega), h 2 (by omega)⟩
    have := h 0 (by omega)
    simp only [tckP] at this
    unfold SizeP; omega
/-- The index of a fountain, -1 if there is none. -/
def fountI (u : Su) (id : Int) : Int := idxF (fun k => (u.founts.getD k default).id = id) u.founts.length
theorem fountI_has {u : Su} {id : Int} : 0 ≤ fountI u id ↔ HasF u id := by
  unfold fountI; rw [idxF_nonneg]
  constructor
  · rintro ⟨k, hk, h⟩
    exact ⟨u.founts.getD k default, by rw [List.getD_eq_getElem?_getD, List.getElem?_eq_getElem hk]; exact List.getElem_mem hk, h⟩
  · rintro ⟨x, hx, h⟩
    obtain ⟨k, hk, rfl⟩ := List.getElem_of_mem hx
    exact ⟨k, hk, by rw [List.getD_eq_getElem?_getD, List.getElem?_eq_getElem hk]; exact h⟩
theorem idxF_lt {p : Nat → Prop} [DecidablePred p] {n : Nat} (h : 0 ≤ idxF p n) : (idxF p n).toNat < n ∧ p (idxF p n).toNat := by
  unfold idxF at *
  cases hf : (List.range n).find? (fun k => decide (p k)) with
  | none => rw [hf] at h; simp at h
  | some k =>
    have h1 := List.find?_some hf
    have h2 := List.mem_of_find?_eq_some hf
    simp at h1 h2
    simpa using ⟨h2, h1⟩
/-- A valid supply's ids rise. -/
theorem FountsP.rise {u : Su} (h : FountsP u) {i j : Nat} (hij : i < j) (hj : j < u.founts.length) : (u.founts.getD i default).id < (u.founts.getD j default).id := by
  induction j with
  | zero => omega
  | succ j ih =>
    have h1 := (h (j + 1) hj).1.1
    simp only [lastF] at h1
    by_cases e : i = j
    · subst e; omega
    · have := ih (by omega) (by omega); omega
theorem FountsP.inj {u : Su} (h : FountsP u) {i j : Nat} (hi : i < u.founts.length) (hj : j < u.founts.length) (e : (u.founts.getD i default).id = (u.founts.getD j default).id) : i = j := by
  rcases Nat.lt_trichotomy i j with h1 | h1 | h1
  · have := h.rise h1 hj; omega
  · exact h1
  · have := h.rise h1 hi; omega
theorem lastF_in {u : Su} : ∀ {k : Nat}, (∀ i, i < k → FoP (lastF u i) (u.founts.getD i default)) → 0 ≤ lastF u k ∧ lastF u k ≤ 9999
  | 0, _ => by simp [lastF]
  | k + 1, h => by
    have h1 := lastF_in (k := k) (fun i hi => h i (by omega))
    have h2 := (h k (by omega)).1
    simp only [lastF]; omega
theorem lastR_in {u : Su} : ∀ {k : Nat}, (∀ i, i < k → SrP u (lastR u i) (u.streets.getD i default)) → 0 ≤ lastR u k ∧ lastR u k ≤ 9999
  | 0, _ => by simp [lastR]
  | k + 1, h => by
    have h1 := lastR_in (k := k) (fun i hi => h i (by omega))
    have h2 := (h k (by omega)).1
    simp only [lastR]; omega
end Go.T

/- The closed facts on the program's types and functions that the walks use. Made by a program. -/
namespace Go.Proofs.YtolcicaclflagaaDoor
open Go Go.X
theorem fp_25_0 : fieldP Tryd.prog 25 0 = some 0 := by kernel_rfl
theorem fp_25_1 : fieldP Tryd.prog 25 1 = some 1 := by kernel_rfl
theorem fp_55_0 : fieldP Tryd.prog 55 0 = some 0 := by kernel_rfl
theorem fp_55_1 : fieldP Tryd.prog 55 1 = some 1 := by kernel_rfl
theorem fp_68_0 : fieldP Tryd.prog 68 0 = some 0 := by kernel_rfl
theorem fp_68_1 : fieldP Tryd.prog 68 1 = some 1 := by kernel_rfl
theorem fp_68_2 : fieldP Tryd.prog 68 2 = some 2 := by kernel_rfl
theorem fp_68_3 : fieldP Tryd.prog 68 3 = some 3 := by kernel_rfl
theorem fp_68_4 : fieldP Tryd.prog 68 4 = some 5 := by kernel_rfl
theorem fp_68_5 : fieldP Tryd.prog 68 5 = some 7 := by kernel_rfl
theorem fp_68_6 : fieldP Tryd.prog 68 6 = some 8 := by kernel_rfl
theorem fp_70_0 : fieldP Tryd.prog 70 0 = some 0 := by kernel_rfl
theorem fp_70_1 : fieldP Tryd.prog 70 1 = some 1 := by kernel_rfl
theorem fp_73_0 : fieldP Tryd.prog 73 0 = some 0 := by kernel_rfl
theorem fp_73_1 : fieldP Tryd.prog 73 1 = some 1 := by kernel_rfl
theorem fp_73_2 : fieldP Tryd.prog 73 2 = some 3 := by kernel_rfl
theorem fp_73_3 : fieldP Tryd.prog 73 3 = some 4 := by kernel_rfl
theorem fp_78_0 : fieldP Tryd.prog 78 0 = some 0 := by kernel_rfl
theorem fp_78_1 : fieldP Tryd.prog 78 1 = some 2 := by kernel_rfl
theorem fp_78_2 : fieldP Tryd.prog 78 2 = some 6 := by kernel_rfl
theorem fp_90_0 : fieldP Tryd.prog 90 0 = some 0 := by kernel_rfl
theorem fp_100_2 : fieldP Tryd.prog 100 2 = some 2 := by kernel_rfl
theorem fp_109_0 : fieldP Tryd.prog 109 0 = some 0 := by kernel_rfl
theorem fp_109_1 : fieldP Tryd.prog 109 1 = some 1 := by kernel_rfl
theorem fp_129_0 : fieldP Tryd.prog 129 0 = some 0 := by kernel_rfl
theorem fp_129_1 : fieldP Tryd.prog 129 1 = some 2 := by kernel_rfl
theorem fp_129_2 : fieldP Tryd.prog 129 2 = some 3 := by kernel_rfl
theorem fp_131_0 : fieldP Tryd.prog 131 0 = some 0 := by kernel_rfl
theorem fp_131_1 : fieldP Tryd.prog 131 1 = some 1 := by kernel_rfl
theorem fp_131_2 : fieldP Tryd.prog 131 2 = some 2 := by kernel_rfl
theorem fp_131_3 : fieldP Tryd.prog 131 3 = some 3 := by kernel_rfl
theorem fp_150_0 : fieldP Tryd.prog 150 0 = some 0 := by kernel_rfl
theorem fp_150_1 : fieldP Tryd.prog 150 1 = some 9 := by kernel_rfl
theorem fp_155_0 : fieldP Tryd.prog 155 0 = some 0 := by kernel_rfl
theorem fp_155_1 : fieldP Tryd.prog 155 1 = some 10 := by kernel_rfl
theorem fp_165_0 : fieldP Tryd.prog 165 0 = some 0 := by kernel_rfl
theorem ae_91 : arrE Tryd.prog 91 = some (90, 3, 1) := by kernel_rfl
theorem ae_166 : arrE Tryd.prog 166 = some (165, 5, 1) := by kernel_rfl
theorem eq_55 : eqP Tryd.prog 5 55 = some 2 := by kernel_rfl
theorem eg_55 : Tryd.prog.eqGuardType Tryd.prog.depth 55 = false := by kernel_rfl
theorem eq_100 : eqP Tryd.prog 5 100 = some 3 := by kernel_rfl
theorem eg_100 : Tryd.prog.eqGuardType Tryd.prog.depth 100 = false := by kernel_rfl
theorem eq_129 : eqP Tryd.prog 5 129 = some 5 := by kernel_rfl
theorem eg_129 : Tryd.prog.eqGuardType Tryd.prog.depth 129 = false := by kernel_rfl
theorem eq_131 : eqP Tryd.prog 5 131 = some 5 := by kernel_rfl
theorem eg_131 : Tryd.prog.eqGuardType Tryd.prog.depth 131 = false := by kernel_rfl
theorem eq_148 : eqP Tryd.prog 5 148 = some 20 := by kernel_rfl
theorem eg_148 : Tryd.prog.eqGuardType Tryd.prog.depth 148 = false := by kernel_rfl
theorem sh_3 : shapeT Tryd.prog 3 = some none := by kernel_rfl
theorem sh_4 : shapeT Tryd.prog 4 = some none := by kernel_rfl
theorem sh_22 : shapeT Tryd.prog 22 = some none := by kernel_rfl
theorem sh_23 : shapeT Tryd.prog 23 = some none := by kernel_rfl
theorem sh_25 : shapeT Tryd.prog 25 = some (some 2) := by kernel_rfl
theorem sh_26 : shapeT Tryd.prog 26 = some none := by kernel_rfl
theorem sh_33 : shapeT Tryd.prog 33 = some none := by kernel_rfl
theorem sh_55 : shapeT Tryd.prog 55 = some (some 2) := by kernel_rfl
theorem sh_65 : shapeT Tryd.prog 65 = some none := by kernel_rfl
theorem sh_66 : shapeT Tryd.prog 66 = some none := by kernel_rfl
theorem sh_68 : shapeT Tryd.prog 68 = some (some 9) := by kernel_rfl
theorem sh_70 : shapeT Tryd.prog 70 = some (some 10) := by kernel_rfl
theorem sh_71 : shapeT Tryd.prog 71 = some none := by kernel_rfl
theorem sh_73 : shapeT Tryd.prog 73 = some (some 5) := by kernel_rfl
theorem sh_78 : shapeT Tryd.prog 78 = some (some 7) := by kernel_rfl
theorem sh_90 : shapeT Tryd.prog 90 = some (some 1) := by kernel_rfl
theorem sh_91 : shapeT Tryd.prog 91 = some (some 3) := by kernel_rfl
theorem sh_94 : shapeT Tryd.prog 94 = some none := by kernel_rfl
theorem sh_100 : shapeT Tryd.prog 100 = some (some 3) := by kernel_rfl
theorem sh_109 : shapeT Tryd.prog 109 = some (some 2) := by kernel_rfl
theorem sh_129 : shapeT Tryd.prog 129 = some (some 5) := by kernel_rfl
theorem sh_131 : shapeT Tryd.prog 131 = some (some 5) := by kernel_rfl
theorem sh_148 : shapeT Tryd.prog 148 = some (some 20) := by kernel_rfl
theorem sh_150 : shapeT Tryd.prog 150 = some (some 29) := by kernel_rfl
theorem sh_155 : shapeT Tryd.prog 155 = some (some 20) := by kernel_rfl
theorem sh_165 : shapeT Tryd.prog 165 = some (some 1) := by kernel_rfl
theorem sh_166 : shapeT Tryd.prog 166 = some (some 5) := by kernel_rfl
theorem sz_3 : sizeP Tryd.prog 3 = some 1 := by kernel_rfl
theorem sz_4 : sizeP Tryd.prog 4 = some 1 := by kernel_rfl
theorem sz_22 : sizeP Tryd.prog 22 = some 1 := by kernel_rfl
theorem sz_23 : sizeP Tryd.prog 23 = some 1 := by kernel_rfl
theorem sz_25 : sizeP Tryd.prog 25 = some 2 := by kernel_rfl
theorem sz_33 : sizeP Tryd.prog 33 = some 1 := by kernel_rfl
theorem sz_55 : sizeP Tryd.prog 55 = some 2 := by kernel_rfl
theorem sz_65 : sizeP Tryd.prog 65 = some 1 := by kernel_rfl
theorem sz_66 : sizeP Tryd.prog 66 = some 1 := by kernel_rfl
theorem sz_68 : sizeP Tryd.prog 68 = some 9 := by kernel_rfl
theorem sz_70 : sizeP Tryd.prog 70 = some 10 := by kernel_rfl
theorem sz_73 : sizeP Tryd.prog 73 = some 5 := by kernel_rfl
theorem sz_78 : sizeP Tryd.prog 78 = some 7 := by kernel_rfl
theorem sz_90 : sizeP Tryd.prog 90 = some 1 := by kernel_rfl
theorem sz_94 : sizeP Tryd.prog 94 = some 1 := by kernel_rfl
theorem sz_100 : sizeP Tryd.prog 100 = some 3 := by kernel_rfl
theorem sz_109 : sizeP Tryd.prog 109 = some 2 := by kernel_rfl
theorem sz_129 : sizeP Tryd.prog 129 = some 5 := by kernel_rfl
theorem sz_131 : sizeP Tryd.prog 131 = some 5 := by kernel_rfl
theorem sz_148 : sizeP Tryd.prog 148 = some 20 := by kernel_rfl
theorem sz_150 : sizeP Tryd.prog 150 = some 29 := by kernel_rfl
theorem sz_155 : sizeP Tryd.prog 155 = some 20 := by kernel_rfl
theorem sz_165 : sizeP Tryd.prog 165 = some 1 := by kernel_rfl
theorem zp_3 : zeroP Tryd.prog 3 = some [.int .i64 0] := by kernel_rfl
theorem zp_4 : zeroP Tryd.prog 4 = some [.bool false] := by kernel_rfl
theorem zp_25 : zeroP Tryd.prog 25 = some [.slice none 0 0, .slice none 0 0] := by kernel_rfl
theorem zp_33 : zeroP Tryd.prog 33 = some [.slice none 0 0] := by kernel_rfl
theorem zp_55 : zeroP Tryd.prog 55 = some [.int .i64 0, .int .i64 0] := by kernel_rfl
theorem zp_68 : zeroP Tryd.prog 68 = some [.int .i64 0, .int .i64 0, .int .i64 0, .int .i64 0, .int .i64 0, .int .i64 0, .int .i64 0, .slice none 0 0, .slice none 0 0] := by kernel_rfl
theorem zp_70 : zeroP Tryd.prog 70 = some [.int .i64 0, .int .i64 0, .int .i64 0, .int .i64 0, .int .i64 0, .int .i64 0, .int .i64 0, .int .i64 0, .slice none 0 0, .slice none 0 0] := by kernel_rfl
theorem zp_73 : zeroP Tryd.prog 73 = some [.int .i64 0, .int .i64 0, .int .i64 0, .int .i64 0, .slice none 0 0] := by kernel_rfl
theorem zp_78 : zeroP Tryd.prog 78 = some [.slice none 0 0, .slice none 0 0, .int .i64 0, .int .i64 0, .int .i64 0, .int .i64 0, .slice none 0 0] := by kernel_rfl
theorem zp_90 : zeroP Tryd.prog 90 = some [.nilFunc] := by kernel_rfl
theorem zp_94 : zeroP Tryd.prog 94 = some [.map none] := by kernel_rfl
theorem zp_100 : zeroP Tryd.prog 100 = some [.int .i64 0, .int .i64 0, .int .i64 0] := by kernel_rfl
theorem zp_109 : zeroP Tryd.prog 109 = some [.slice none 0 0, .int .i64 0] := by kernel_rfl
theorem zp_129 : zeroP Tryd.prog 129 = some [.int .i64 0, .int .i64 0, .int .i64 0, .int .i64 0, .int .i64 0] := by kernel_rfl
theorem zp_131 : zeroP Tryd.prog 131 = some [.int .i64 0, .int .i64 0, .int .i64 0, .int .i64 0, .int .i64 0] := by kernel_rfl
theorem zp_148 : zeroP Tryd.prog 148 = some [.int .i64 0, .int .i64 0, .int .i64 0, .int .i64 0, .int .i64 0, .int .i64 0, .int .i64 0, .int .i64 0, .int .i64 0, .int .i64 0, .int .i64 0, .int .i64 0, .int .i64 0, .int .i64 0, .int .i64 0, .int .i64 0, .int .i64 0, .int .i64 0, .int .i64 0, .int .i64 0] := by kernel_rfl
theorem zp_150 : zeroP Tryd.prog 150 = some [.int .i64 0, .int .i64 0, .int .i64 0, .int .i64 0, .int .i64 0, .int .i64 0, .int .i64 0, .slice none 0 0, .slice none 0 0, .int .i64 0, .int .i64 0, .int .i64 0, .int .i64 0, .int .i64 0, .int .i64 0, .int .i64 0, .int .i64 0, .int .i64 0, .int .i64 0, .int .i64 0, .int .i64 0, .int .i64 0, .int .i64 0, .int .i64 0, .int .i64 0, .int .i64 0, .int .i64 0, .int .i64 0, .int .i64 0] := by kernel_rfl
theorem zp_155 : zeroP Tryd.prog 155 = some [.int .i64 0, .int .i64 0, .int .i64 0, .int .i64 0, .int .i64 0, .int .i64 0, .int .i64 0, .int .i64 0, .int .i64 0, .int .i64 0, .int .i64 0, .int .i64 0, .int .i64 0, .int .i64 0, .int .i64 0, .int .i64 0, .int .i64 0, .int .i64 0, .int .i64 0, .int .i64 0] := by kernel_rfl
theorem zp_165 : zeroP Tryd.prog 165 = some [.nilFunc] := by kernel_rfl
theorem el_22 : elemP Tryd.prog 22 = some (none, 10) := by kernel_rfl
theorem el_23 : elemP Tryd.prog 23 = some (none, 5) := by kernel_rfl
theorem el_33 : elemP Tryd.prog 33 = some (none, 1) := by kernel_rfl
theorem el_47 : elemP Tryd.prog 47 = some (none, 3) := by kernel_rfl
theorem el_65 : elemP Tryd.prog 65 = some (none, 5) := by kernel_rfl
theorem el_66 : elemP Tryd.prog 66 = some (none, 5) := by kernel_rfl
theorem el_76 : elemP Tryd.prog 76 = some (some 4, 1) := by kernel_rfl
theorem el_141 : elemP Tryd.prog 141 = some (none, 20) := by kernel_rfl
theorem el_148 : elemP Tryd.prog 148 = some (some 10, 2) := by kernel_rfl
theorem el_153 : elemP Tryd.prog 153 = some (some 10, 1) := by kernel_rfl
theorem el_176 : elemP Tryd.prog 176 = some (none, 2) := by kernel_rfl
theorem et_22 : elemT Tryd.prog 22 = some (70, 10) := by kernel_rfl
theorem et_23 : elemT Tryd.prog 23 = some (73, 5) := by kernel_rfl
theorem et_33 : elemT Tryd.prog 33 = some (3, 1) := by kernel_rfl
theorem et_47 : elemT Tryd.prog 47 = some (100, 3) := by kernel_rfl
theorem et_65 : elemT Tryd.prog 65 = some (129, 5) := by kernel_rfl
theorem et_66 : elemT Tryd.prog 66 = some (131, 5) := by kernel_rfl
theorem et_141 : elemT Tryd.prog 141 = some (155, 20) := by kernel_rfl
theorem ap_22 : apP Tryd.prog 22 = some (70, 10, 112) := by kernel_rfl
theorem ap_23 : apP Tryd.prog 23 = some (73, 5, 56) := by kernel_rfl
theorem ap_33 : apP Tryd.prog 33 = some (3, 1, 8) := by kernel_rfl
theorem ap_47 : apP Tryd.prog 47 = some (100, 3, 24) := by kernel_rfl
theorem ap_65 : apP Tryd.prog 65 = some (129, 5, 40) := by kernel_rfl
theorem ap_66 : apP Tryd.prog 66 = some (131, 5, 40) := by kernel_rfl
theorem ap_141 : apP Tryd.prog 141 = some (155, 20, 160) := by kernel_rfl
theorem is_22 : isSliceP Tryd.prog 22 = true := by kernel_rfl
theorem is_23 : isSliceP Tryd.prog 23 = true := by kernel_rfl
theorem is_33 : isSliceP Tryd.prog 33 = true := by kernel_rfl
theorem is_47 : isSliceP Tryd.prog 47 = true := by kernel_rfl
theorem is_65 : isSliceP Tryd.prog 65 = true := by kernel_rfl
theorem is_66 : isSliceP Tryd.prog 66 = true := by kernel_rfl
theorem is_141 : isSliceP Tryd.prog 141 = true := by kernel_rfl
theorem is_176 : isSliceP Tryd.prog 176 = true := by kernel_rfl
theorem pl_55 : placesP Tryd.prog 55 = some [(0, 1), (1, 1)] := by kernel_rfl
theorem pl_70 : placesP Tryd.prog 70 = some [(0, 1), (1, 9)] := by kernel_rfl
theorem pl_78 : placesP Tryd.prog 78 = some [(0, 2), (2, 4), (6, 1)] := by kernel_rfl
theorem pl_100 : placesP Tryd.prog 100 = some [(0, 1), (1, 1), (2, 1)] := by kernel_rfl
theorem ae_148 : arrE Tryd.prog 148 = some (55, 10, 2) := by kernel_rfl
theorem pl_150 : placesP Tryd.prog 150 = some [(0, 9), (9, 20)] := by kernel_rfl
theorem fn_6 : fnOk Tryd.prog 6 = true := by kernel_rfl
theorem fn_7 : fnOk Tryd.prog 7 = true := by kernel_rfl
theorem fn_18 : fnOk Tryd.prog 18 = true := by kernel_rfl
theorem fn_20 : fnOk Tryd.prog 20 = true := by kernel_rfl
theorem fn_21 : fnOk Tryd.prog 21 = true := by kernel_rfl
theorem fn_22 : fnOk Tryd.prog 22 = true := by kernel_rfl
theorem fn_23 : fnOk Tryd.prog 23 = true := by kernel_rfl
theorem fn_24 : fnOk Tryd.prog 24 = true := by kernel_rfl
theorem fn_25 : fnOk Tryd.prog 25 = true := by kernel_rfl
theorem fn_26 : fnOk Tryd.prog 26 = true := by kernel_rfl
theorem fn_37 : fnOk Tryd.prog 37 = true := by kernel_rfl
theorem fn_38 : fnOk Tryd.prog 38 = true := by kernel_rfl
theorem fn_39 : fnOk Tryd.prog 39 = true := by kernel_rfl
theorem fn_40 : fnOk Tryd.prog 40 = true := by kernel_rfl
theorem fn_41 : fnOk Tryd.prog 41 = true := by kernel_rfl
theorem fn_42 : fnOk Tryd.prog 42 = true := by kernel_rfl
theorem fn_43 : fnOk Tryd.prog 43 = true := by kernel_rfl
theorem fn_44 : fnOk Tryd.prog 44 = true := by kernel_rfl
theorem fn_45 : fnOk Tryd.prog 45 = true := by kernel_rfl
theorem fn_48 : fnOk Tryd.prog 48 = true := by kernel_rfl
theorem fn_53 : fnOk Tryd.prog 53 = true := by kernel_rfl
theorem fn_54 : fnOk Tryd.prog 54 = true := by kernel_rfl
theorem fn_55 : fnOk Tryd.prog 55 = true := by kernel_rfl
theorem fn_56 : fnOk Tryd.prog 56 = true := by kernel_rfl
theorem fn_57 : fnOk Tryd.prog 57 = true := by kernel_rfl
theorem fn_58 : fnOk Tryd.prog 58 = true := by kernel_rfl
theorem fn_59 : fnOk Tryd.prog 59 = true := by kernel_rfl
theorem fn_60 : fnOk Tryd.prog 60 = true := by kernel_rfl
theorem fn_61 : fnOk Tryd.prog 61 = true := by kernel_rfl
theorem fn_62 : fnOk Tryd.prog 62 = true := by kernel_rfl
theorem fn_63 : fnOk Tryd.prog 63 = true := by kernel_rfl
theorem fn_64 : fnOk Tryd.prog 64 = true := by kernel_rfl
theorem fn_65 : fnOk Tryd.prog 65 = true := by kernel_rfl
theorem fn_66 : fnOk Tryd.prog 66 = true := by kernel_rfl
theorem fn_67 : fnOk Tryd.prog 67 = true := by kernel_rfl
theorem fn_68 : fnOk Tryd.prog 68 = true := by kernel_rfl
theorem fn_72 : fnOk Tryd.prog 72 = true := by kernel_rfl
theorem fn_76 : fnOk Tryd.prog 76 = true := by kernel_rfl
theorem fn_77 : fnOk Tryd.prog 77 = true := by kernel_rfl
theorem fn_82 : fnOk Tryd.prog 82 = true := by kernel_rfl
theorem fn_85 : fnOk Tryd.prog 85 = true := by kernel_rfl
theorem fn_86 : fnOk Tryd.prog 86 = true := by kernel_rfl
theorem fn_87 : fnOk Tryd.prog 87 = true := by kernel_rfl
theorem fn_88 : fnOk Tryd.prog 88 = true := by kernel_rfl
theorem fn_89 : fnOk Tryd.prog 89 = true := by kernel_rfl
theorem fn_90 : fnOk Tryd.prog 90 = true := by kernel_rfl
theorem fn_91 : fnOk Tryd.prog 91 = true := by kernel_rfl
theorem fn_92 : fnOk Tryd.prog 92 = true := by kernel_rfl
theorem fn_93 : fnOk Tryd.prog 93 = true := by kernel_rfl
theorem fn_94 : fnOk Tryd.prog 94 = true := by kernel_rfl
theorem fn_96 : fnOk Tryd.prog 96 = true := by kernel_rfl
theorem fn_97 : fnOk Tryd.prog 97 = true := by kernel_rfl
theorem fn_98 : fnOk Tryd.prog 98 = true := by kernel_rfl
theorem fn_100 : fnOk Tryd.prog 100 = true := by kernel_rfl
theorem fn_101 : fnOk Tryd.prog 101 = true := by kernel_rfl
theorem fn_102 : fnOk Tryd.prog 102 = true := by kernel_rfl
theorem fn_103 : fnOk Tryd.prog 103 = true := by kernel_rfl
theorem fn_104 : fnOk Tryd.prog 104 = true := by kernel_rfl
theorem fn_105 : fnOk Tryd.prog 105 = true := by kernel_rfl
theorem fn_106 : fnOk Tryd.prog 106 = true := by kernel_rfl
theorem fn_107 : fnOk Tryd.prog 107 = true := by kernel_rfl
theorem fn_108 : fnOk Tryd.prog 108 = true := by kernel_rfl
theorem fn_109 : fnOk Tryd.prog 109 = true := by kernel_rfl
theorem fn_110 : fnOk Tryd.prog 110 = true := by kernel_rfl
theorem fn_111 : fnOk Tryd.prog 111 = true := by kernel_rfl
theorem fn_112 : fnOk Tryd.prog 112 = true := by kernel_rfl
theorem fn_113 : fnOk Tryd.prog 113 = true := by kernel_rfl
theorem fn_114 : fnOk Tryd.prog 114 = true := by kernel_rfl
theorem fn_115 : fnOk Tryd.prog 115 = true := by kernel_rfl
theorem fn_116 : fnOk Tryd.prog 116 = true := by kernel_rfl
theorem fn_117 : fnOk Tryd.prog 117 = true := by kernel_rfl
theorem fn_118 : fnOk Tryd.prog 118 = true := by kernel_rfl
theorem fn_119 : fnOk Tryd.prog 119 = true := by kernel_rfl
theorem fn_120 : fnOk Tryd.prog 120 = true := by kernel_rfl
theorem fn_121 : fnOk Tryd.prog 121 = true := by kernel_rfl
theorem fn_122 : fnOk Tryd.prog 122 = true := by kernel_rfl
theorem fn_123 : fnOk Tryd.prog 123 = true := by kernel_rfl
theorem fn_124 : fnOk Tryd.prog 124 = true := by kernel_rfl
theorem fn_143 : fnOk Tryd.prog 143 = true := by kernel_rfl
theorem fn_144 : fnOk Tryd.prog 144 = true := by kernel_rfl
theorem fn_145 : fnOk Tryd.prog 145 = true := by kernel_rfl
theorem fn_146 : fnOk Tryd.prog 146 = true := by kernel_rfl
theorem fn_147 : fnOk Tryd.prog 147 = true := by kernel_rfl
theorem fn_148 : fnOk Tryd.prog 148 = true := by kernel_rfl
theorem fn_149 : fnOk Tryd.prog 149 = true := by kernel_rfl
theorem fn_150 : fnOk Tryd.prog 150 = true := by kernel_rfl
theorem fn_151 : fnOk Tryd.prog 151 = true := by kernel_rfl
theorem fn_152 : fnOk Tryd.prog 152 = true := by kernel_rfl
theorem fn_153 : fnOk Tryd.prog 153 = true := by kernel_rfl
theorem fn_154 : fnOk Tryd.prog 154 = true := by kernel_rfl
theorem fn_155 : fnOk Tryd.prog 155 = true := by kernel_rfl
theorem fn_156 : fnOk Tryd.prog 156 = true := by kernel_rfl
end Go.Proofs.YtolcicaclflagaaDoor

/- What the rows' lists and arguments give: the packages' variables, supplies, numbers. -/
namespace Go.Proofs.YtolcicaclflagaaDoor
open Go Go.X Go.S Go.T Go.RowKit Go.ChangeShapes Go.WideShapes Go.ChangeAt
theorem ownGd : ownKnob Tryd.prog.godebug = none := by kernel_rfl
theorem laidOut : laidOutB Tryd.prog = true := by kernel_rfl
theorem gChecks : Tryd.prog.globalNamed "aguador/spring.checks" = some 1 := by kernel_rfl
theorem tChecks : (Tryd.prog.globals[1]?).map (·.type) = some 166 := by kernel_rfl
theorem gNone : Tryd.prog.globalNamed "aguador/spring.none" = some 2 := by kernel_rfl
theorem tNone : (Tryd.prog.globals[2]?).map (·.type) = some 55 := by kernel_rfl
theorem cells165 : Tryd.prog.cellsOf 165 = 1 := by kernel_rfl
theorem cells166 : Tryd.prog.cellsOf 166 = 5 := by kernel_rfl
theorem cells71 : Tryd.prog.cellsOf 71 = 1 := by kernel_rfl
theorem cells3 : Tryd.prog.cellsOf 3 = 1 := by kernel_rfl
theorem cells55 : Tryd.prog.cellsOf 55 = 2 := by kernel_rfl
theorem int_val {H : Type} {enc : TypeId × Value → H} {P : Program} {w : World} {base : Nat} {sp : Nat → Bool} {held : Bool} {fuel : Nat} {t : TypeId} {cs : List Value} {k : IntKind} {n : Int} {p : List MemPlace}
    (hu : P.underlying t = some (.int k)) (h : DataW.trod enc P w base sp held fuel t cs = some (.lit (.int k n), p)) : cs = [.int k n] := by
  cases fuel with
  | zero => simp [DataW.trod] at h
  | succ m =>
    unfold DataW.trod at h
    rw [hu] at h
    split at h <;> simp_all
/-- The span 'none'. -/
theorem none_of_laid {l : List (String × DataW Unit)} {W : World} (h : laidMetH Tryd.prog l W) (hl : (l.filter fun x => x.2.handleName?.isNone) = [("aguador/spring.none", Rows.laid_aguador_spring_none)]) :
    ∀ j v, noneCells[j]? = some v → W.cell? ⟨2, 0 + j, none⟩ = some v := by
  have h1 := (laidMetH_iff.1 h).1
  rw [hl] at h1
  obtain ⟨ps, ⟨g, t, cs, fuel, p, q, hg, ht, hv, hd, _, _⟩, _⟩ := h1
  obtain rfl := Option.some.inj (gNone.symm.trans hg)
  obtain rfl := Option.some.inj (tNone.symm.trans ht)
  obtain ⟨y0, y1, n, hx, hlen, e0, e1⟩ := trod_struct2 Tryd.underlying55 hd
  obtain ⟨d0, p0⟩ := y0
  obtain ⟨d1, p1⟩ := y1
  simp only [Rows.laid_aguador_spring_none, Prod.mk.injEq, DataW.agg.injEq, List.cons.injEq, and_true] at hx
  obtain ⟨⟨rfl, rfl⟩, _⟩ := hx
  have c0 := int_val Tryd.underlying3 e0
  have c1 := int_val Tryd.underlying3 e1
  rw [cells3] at c0 c1
  rw [cells55] at hlen
  intro j v hj
  have hc := World.var?_cell hg hv j
  rw [Nat.zero_add]
  rw [hc]
  match j, hj with
  | 0, hj =>
    simp [noneCells] at hj
    subst hj
    have := congrArg (·[0]?) c0
    simpa using this
  | 1, hj =>
    simp [noneCells] at hj
    subst hj
    have := congrArg (·[0]?) c1
    simpa using this
  | j + 2, hj => simp [noneCells] at hj
/-- The table of checks. -/
theorem checks_of_laid {l : List (String × DataW Unit)} {W : World} (h : laidMetH Tryd.prog l W) (hl : ("aguador/spring.checks", Rows.laid_aguador_spring_checks) ∈ l) :
    ∀ j v, chkCells[j]? = some v → W.cell? ⟨1, 0 + j, none⟩ = some v := by
  obtain ⟨g, t, cs, fuel, p, hg, ht, hv, hd⟩ := h.funcs hl
  obtain rfl := Option.some.inj (gChecks.symm.trans hg)
  obtain rfl := Option.some.inj (tChecks.symm.trans ht)
  obtain ⟨xs, m, _, hx, hlen, hxl, hel⟩ := DataW.trod_array Tryd.underlying166 hd
  rw [cells165] at hel
  rw [cells166] at hlen
  have hds : xs.map (·.1) = (List.range 5).map fun k => DataW.agg [DataW.held ([97, 103, 117, 97, 100, 111, 114, 47, 115, 112, 114, 105, 110, 103, 46, 99, 104, 101, 99, 107, 115, 36] ++ [(49 + k : Nat).toUInt8])] := by
    have := congrArg (·.1) hx
    exact DataW.agg.inj (show DataW.agg (xs.map (·.1)) = DataW.agg _ from this.symm)
  intro j v hj
  have hc := World.var?_cell hg hv j
  rw [Nat.zero_add, hc]
  have hj5 : j < 5 := (List.getElem?_eq_some_iff.1 hj).1
  have he := hel j hj5
  rw [List.getElem?_eq_getElem (by omega)] at he
  have hd1 : (xs[j]'(by omega)).1 = DataW.agg [DataW.held ([97, 103, 117, 97, 100, 111, 114, 47, 115, 112, 114, 105, 110, 103, 46, 99, 104, 101, 99, 107, 115, 36] ++ [(49 + j : Nat).toUInt8])] := by
    have := congrArg (·[j]?) hds
    simp only [List.getElem?_map, List.getElem?_eq_getElem (show j < xs.length by omega), List.getElem?_range hj5, Option.map_some, Option.some.injEq] at this
    exact this
  obtain ⟨y0, n, hy, hyl, hf⟩ := trod_struct1 Tryd.underlying165 he
  rw [hy] at hd1
  obtain ⟨d0, p0⟩ := y0
  simp only [DataW.agg.injEq, List.cons.injEq, and_true] at hd1
  subst hd1
  rw [cells165] at hyl
  rw [cells71] at hf
  have hcell : ∃ u, cs.toList[j]? = some u := ⟨cs.toList[j]'(by omega), List.getElem?_eq_getElem (by omega)⟩
  obtain ⟨u, hu⟩ := hcell
  have ecs : ((((cs.toList.drop (j * 1)).take 1).drop 0).take 1) = [u] := by
    rw [Nat.mul_one, List.drop_zero]
    obtain ⟨h1, h2⟩ := List.getElem?_eq_some_iff.1 hu
    rw [List.drop_eq_getElem_cons h1, h2]
    rfl
  rw [ecs] at hf
  have key : ∀ (j : Nat) (u : Value) (q : List MemPlace), j < 5 → DataW.trod (funcToken Tryd.prog) Tryd.prog W 0 (fun _ => true) true n 71 [u] = some (.held ([97, 103, 117, 97, 100, 111, 114, 47, 115, 112, 114, 105, 110, 103, 46, 99, 104, 101, 99, 107, 115, 36] ++ [(49 + j : Nat).toUInt8]), q) → chkCells[j]? = some u := by
    intro j u q hj h
    match j, hj with
    | 0, _ => obtain rfl := func_of_trod (f0 := 147) Tryd.underlying71 (by kernel_rfl) h; rfl
    | 1, _ => obtain rfl := func_of_trod (f0 := 148) Tryd.underlying71 (by kernel_rfl) h; rfl
    | 2, _ => obtain rfl := func_of_trod (f0 := 150) Tryd.underlying71 (by kernel_rfl) h; rfl
    | 3, _ => obtain rfl := func_of_trod (f0 := 151) Tryd.underlying71 (by kernel_rfl) h; rfl
    | 4, _ => obtain rfl := func_of_trod (f0 := 154) Tryd.underlying71 (by kernel_rfl) h; rfl
  have hk := key j u _ hj5 hf
  rw [hj] at hk
  obtain rfl := Option.some.inj hk
  simpa using hu
theorem gTown : Tryd.prog.globalNamed "aguador/town.checks" = some 0 := by kernel_rfl
theorem tTown : (Tryd.prog.globals[0]?).map (·.type) = some 91 := by kernel_rfl
theorem cells90 : Tryd.prog.cellsOf 90 = 1 := by kernel_rfl
theorem cells91 : Tryd.prog.cellsOf 91 = 3 := by kernel_rfl
theorem cells26 : Tryd.prog.cellsOf 26 = 1 := by kernel_rfl
/-- The town's table of checks. -/
theorem tchecks_of_laid {l : List (String × DataW Unit)} {W : World} (h : laidMetH Tryd.prog l W) (hl : ("aguador/town.checks", Rows.laid_aguador_town_checks) ∈ l) :
    ∀ j v, tckCells[j]? = some v → W.cell? ⟨0, 0 + j, none⟩ = some v := by
  obtain ⟨g, t, cs, fuel, p, hg, ht, hv, hd⟩ := h.funcs hl
  obtain rfl := Option.some.inj (gTown.symm.trans hg)
  obtain rfl := Option.some.inj (tTown.symm.trans ht)
  obtain ⟨xs, m, _, hx, hlen, hxl, hel⟩ := DataW.trod_array Tryd.underlying91 hd
  rw [cells90] at hel
  rw [cells91] at hlen
  have hds : xs.map (·.1) = (List.range 3).map fun k => DataW.agg [DataW.held ([97, 103, 117, 97, 100, 111, 114, 47, 116, 111, 119, 110, 46, 99, 104, 101, 99, 107, 115, 36] ++ [(49 + k : Nat).toUInt8])] := by
    have := congrArg (·.1) hx
    exact DataW.agg.inj (show DataW.agg (xs.map (·.1)) = DataW.agg _ from this.symm)
  intro j v hj
  have hc := World.var?_cell hg hv j
  rw [Nat.zero_add, hc]
  have hj5 : j < 3 := (List.getElem?_eq_some_iff.1 hj).1
  have he := hel j hj5
  rw [List.getElem?_eq_getElem (by omega)] at he
  have hd1 : (xs[j]'(by omega)).1 = DataW.agg [DataW.held ([97, 103, 117, 97, 100, 111, 114, 47, 116, 111, 119, 110, 46, 99, 104, 101, 99, 107, 115, 36] ++ [(49 + j : Nat).toUInt8])] := by
    have := congrArg (·[j]?) hds
    simp only [List.getElem?_map, List.getElem?_eq_getElem (show j < xs.length by omega), List.getElem?_range hj5, Option.map_some, Option.some.injEq] at this
    exact this
  obtain ⟨y0, n, hy, hyl, hf⟩ := trod_struct1 Tryd.underlying90 he
  rw [hy] at hd1
  obtain ⟨d0, p0⟩ := y0
  simp only [DataW.agg.injEq, List.cons.injEq, and_true] at hd1
  subst hd1
  rw [cells90] at hyl
  rw [cells26] at hf
  have hcell : ∃ u, cs.toList[j]? = some u := ⟨cs.toList[j]'(by omega), List.getElem?_eq_getElem (by omega)⟩
  obtain ⟨u, hu⟩ := hcell
  have ecs : ((((cs.toList.drop (j * 1)).take 1).drop 0).take 1) = [u] := by
    rw [Nat.mul_one, List.drop_zero]
    obtain ⟨h1, h2⟩ := List.getElem?_eq_some_iff.1 hu
    rw [List.drop_eq_getElem_cons h1, h2]
    rfl
  rw [ecs] at hf
  have key : ∀ (j : Nat) (u : Value) (q : List MemPlace), j < 3 → DataW.trod (funcToken Tryd.prog) Tryd.prog W 0 (fun _ => true) true n 26 [u] = some (.held ([97, 103, 117, 97, 100, 111, 114, 47, 116, 111, 119, 110, 46, 99, 104, 101, 99, 107, 115, 36] ++ [(49 + j : Nat).toUInt8]), q) → tckCells[j]? = some u := by
    intro j u q hj h
    match j, hj with
    | 0, _ => obtain rfl := func_of_trod (f0 := 143) Tryd.underlying26 (by kernel_rfl) h; rfl
    | 1, _ => obtain rfl := func_of_trod (f0 := 144) Tryd.underlying26 (by kernel_rfl) h; rfl
    | 2, _ => obtain rfl := func_of_trod (f0 := 145) Tryd.underlying26 (by kernel_rfl) h; rfl
  have hk := key j u _ hj5 hf
  rw [hj] at hk
  obtain rfl := Option.some.inj hk
  simpa using hu
def i5 : List Ly := [.i .i64, .i .i64, .i .i64, .i .i64, .i .i64]
def spLay : List Ly := [.i .i64, .i .i64, .i .i64, .i .i64, .i .i64, .i .i64, .i .i64, .s i5, .s i5]
theorem lay3 : layP Tryd.prog 9 3 = some [.i .i64] := by kernel_rfl
theorem _root_.Go.X.FitL.un {one : Ly → Value → Prop} {y : Ly} {ys : List Ly} {vs : List Value} (h : FitL one (y :: ys) vs) : ∃ v r, vs = v :: r ∧ one y v ∧ FitL one ys r := by
  cases vs with
  | nil => exact h.elim
  | cons v r => exact ⟨v, r, rfl, h.1, h.2⟩
theorem _root_.Go.X.FitL.end_ {one : Ly → Value → Prop} {vs : List Value} (h : FitL one [] vs) : vs = [] := by
  cases vs with
  | nil => rfl
  | cons v r => exact h.elim
theorem fits5 {w : World} {n : Nat} {cs : List Value} (h : Fits w (n + 1) i5 cs) : ∃ a b c d e : Int, cs = [.int .i64 a, .int .i64 b, .int .i64 c, .int .i64 d, .int .i64 e] := by
  obtain ⟨_, r, rfl, h1, h⟩ := FitL.un h
  obtain ⟨_, r, rfl, h2, h⟩ := FitL.un h
  obtain ⟨_, r, rfl, h3, h⟩ := FitL.un h
  obtain ⟨_, r, rfl, h4, h⟩ := FitL.un h
  obtain ⟨_, r, rfl, h5, h⟩ := FitL.un h
  obtain rfl := FitL.end_ h
  obtain ⟨a, rfl, _⟩ := fit_i64 h1
  obtain ⟨b, rfl, _⟩ := fit_i64 h2
  obtain ⟨c, rfl, _⟩ := fit_i64 h3
  obtain ⟨d, rfl, _⟩ := fit_i64 h4
  obtain ⟨e, rfl, _⟩ := fit_i64 h5
  exact ⟨a, b, c, d, e, rfl⟩
/-- A slice of lines, of readings. -/
theorem rowsLn {w : World} {n : Nat} {rows : List (List Value)} (h : ∀ r ∈ rows, Fits w (n + 1) i5 r) : ∃ l : List Ln, rows = l.map Ln.cells :=
  exists_map fun r hr => by obtain ⟨a, b, c, d, e, rfl⟩ := fits5 (h r hr); exact ⟨⟨a, b, c, d, e⟩, rfl⟩
theorem rowsRd {w : World} {n : Nat} {rows : List (List Value)} (h : ∀ r ∈ rows, Fits w (n + 1) i5 r) : ∃ l : List Rd, rows = l.map Rd.cells :=
  exists_map fun r hr => by obtain ⟨a, b, c, d, e, rfl⟩ := fits5 (h r hr); exact ⟨⟨a, b, c, d, e⟩, rfl⟩
/-- A supply's slots. -/
def foLay : List Ly := [.i .i64, .i .i64, .i .i64, .i .i64, .i .i64, .i .i64, .i .i64, .i .i64, .s i5, .s i5]
def srLay : List Ly := [.i .i64, .i .i64, .i .i64, .i .i64, .s [.i .i64]]
def suLay : List Ly := [.s foLay, .s srLay]
theorem lay25 : layP Tryd.prog 9 25 = some suLay := by kernel_rfl
theorem lay33 : layP Tryd.prog 9 33 = some [.s [.i .i64]] := by kernel_rfl
theorem lay4 : layP Tryd.prog 9 4 = some [.b] := by kernel_rfl
theorem fit_bool {w : World} {f : List Ly → List Value → Prop} {v : Value} (h : FitY w f .b v) : ∃ b : Bool, v = .bool b := h
theorem exists_mapP {α : Type} {f : α → List Value} {p : α → Prop} : ∀ {rows : List (List Value)}, (∀ r ∈ rows, ∃ x, r = f x ∧ p x) → ∃ l : List α, rows = l.map f ∧ ∀ x ∈ l, p x
  | [], _ => ⟨[], rfl, fun _ h => by cases h⟩
  | r :: rows, h => by
    obtain ⟨x, rfl, hx⟩ := h r (by simp)
    obtain ⟨l, rfl, hl⟩ := exists_mapP (rows := rows) fun r hr => h r (by simp [hr])
    exact ⟨x :: l, rfl, fun y hy => by rcases List.mem_cons.1 hy with rfl | hy; exact hx; exact hl y hy⟩
theorem ints_of_fits {w : World} {n : Nat} {rows : List (List Value)} (h : ∀ r ∈ rows, Fits w (n + 1) [.i .i64] r) : ∃ l : List Int, rows = ones l :=
  exists_map fun r hr => by
    obtain ⟨_, r, rfl, h1, h⟩ := FitL.un (h r hr)
    obtain rfl := FitL.end_ h
    obtain ⟨a, rfl, _⟩ := fit_i64 h1
    exact ⟨a, rfl⟩
theorem ints_of_fit {w : World} {n : Nat} {v : Value} (h : FitY w (Fits w (n + 1)) (.s [.i .i64]) v) : ∃ ao c l, v = .slice ao (l : List Int).length c ∧ RowsAt w ao 1 (ones l) := by
  obtain ⟨ao, len, cap, rows, rfl, _, _, e, m, f⟩ := h
  obtain ⟨l, rfl⟩ := ints_of_fits f
  have : l.length = len := by simpa [ones] using e
  subst this
  exact ⟨ao, cap, l, rfl, m⟩
/-- A fountain that came in. -/
theorem fo_of_fits {w : World} {cs : List Value} (h : Fits w 9 foLay cs) : ∃ x : Fo × FA, cs = foC x.1 x.2 ∧ SpAt w x.1.sp x.2.bo x.2.ro := by
  obtain ⟨_, r, rfl, h0, h⟩ := FitL.un h
  obtain ⟨_, r, rfl, h1, h⟩ := FitL.un h
  obtain ⟨_, r, rfl, h2, h⟩ := FitL.un h
  obtain ⟨_, r, rfl, h3, h⟩ := FitL.un h
  obtain ⟨_, r, rfl, h4, h⟩ := FitL.un h
  obtain ⟨_, r, rfl, h5, h⟩ := FitL.un h
  obtain ⟨_, r, rfl, h6, h⟩ := FitL.un h
  obtain ⟨_, r, rfl, h7, h⟩ := FitL.un h
  obtain ⟨_, r, rfl, h8, h⟩ := FitL.un h
  obtain ⟨_, r, rfl, h9, h⟩ := FitL.un h
  obtain rfl := FitL.end_ h
  obtain ⟨a0, rfl, _⟩ := fit_i64 h0
  obtain ⟨a1, rfl, _⟩ := fit_i64 h1
  obtain ⟨a2, rfl, _⟩ := fit_i64 h2
  obtain ⟨a3, rfl, _⟩ := fit_i64 h3
  obtain ⟨a4, rfl, _⟩ := fit_i64 h4
  obtain ⟨a5, rfl, _⟩ := fit_i64 h5
  obtain ⟨a6, rfl, _⟩ := fit_i64 h6
  obtain ⟨a7, rfl, _⟩ := fit_i64 h7
  obtain ⟨bo, n1, c1, rows1, rfl, _, _, e1, m1, f1⟩ := h8
  obtain ⟨ro, n2, c2, rows2, rfl, _, _, e2, m2, f2⟩ := h9
  obtain ⟨l1, rfl⟩ := rowsLn f1
  obtain ⟨l2, rfl⟩ := rowsRd f2
  rw [List.length_map] at e1 e2
  subst e1 e2
  exact ⟨(⟨a0, ⟨a1, a2, a3, a4, a5, a6, a7, l1, l2⟩⟩, ⟨bo, ro, c1, c2⟩), rfl, m1, m2⟩
end Go.Proofs.YtolcicaclflagaaDoor

/- The calculus' rules: blocks of a number that is not known, kept behind those that are. Nothing of the program stands here. -/
namespace Go.X
open Go Go.RowKit
theorem Sel.perm {own' own t : Own} (h : own.Perm (own' ++ t)) : Sel own' own := fun _ _ hI => (hI.perm h.symm).weaken (List.sublist_append_left _ _)
/-- New blocks go behind the first n. -/
theorem insN_sel (n : Nat) (own t : Own) : Sel (own.take n ++ t ++ own.drop n) (own ++ t) := by
  refine Sel.perm (t := []) ?_
  rw [List.append_nil]
  have h : (own.take n ++ own.drop n ++ t).Perm (own.take n ++ t ++ own.drop n) := by
    rw [List.append_assoc, List.append_assoc]
    exact List.Perm.append_left _ List.perm_append_comm
  rw [List.take_append_drop] at h
  exact h
section
variable {C : Cx} {Q : Post} {env : Env} {own : Own} {D : List Deferred} {ops : Array Oper}
theorem SXL.insN {l : List Oper} {t : Own} (n : Nat) (h : SXL C ops l Q ⟨env, own.take n ++ t ++ own.drop n, D⟩) : SXL C ops l Q ⟨env, own ++ t, D⟩ :=
  SXL.le (s' := ⟨env, own.take n ++ t ++ own.drop n, D⟩) ⟨EnvSub.refl _, insN_sel n own t, rfl⟩ h
theorem SX.insN {c : Code} {t : Own} (n : Nat) (h : SX C c Q ⟨env, own.take n ++ t ++ own.drop n, D⟩) : SX C c Q ⟨env, own ++ t, D⟩ :=
  SX.le (s' := ⟨env, own.take n ++ t ++ own.drop n, D⟩) ⟨EnvSub.refl _, insN_sel n own t, rfl⟩ h
variable {α : Type}
/-- What stands at a head: behind the first n blocks others, of which the list is named. -/
def AtV (n : Nat) (K : Env) (E : α → Env) (own0 : Own) (U : α → List (Nat × (Nat × Obj))) (B : α → Own) (D : List Deferred) (x : α) : St := ⟨E x ++ K, setAll (own0.take n) (U x) ++ B x, D⟩
def MeetsV (n : Nat) (K : Env) (E : α → Env) (own0 : Own) (U : α → List (Nat × (Nat × Obj))) (B : α → Own) (D : List Deferred) (x : α) (s : St) : Prop :=
  EnvLe (E x) s.env ∧ EnvLe K s.env ∧ Sel (setAll (own0.take n) (U x) ++ B x) s.own ∧ s.D = D
theorem MeetsV.le {n : Nat} {K : Env} {E : α → Env} {own0 : Own} {U : α → List (Nat × (Nat × Obj))} {B : α → Own} {x : α} {s : St} (h : MeetsV n K E own0 U B D x s) : Le (AtV n K E own0 U B D x) s := by
  obtain ⟨h1, h2, h3, h4⟩ := h
  exact ⟨(h1.append h2).sub, h3, h4.symm⟩
theorem mid_perm {own' : Own} {n n' : Nat} (hn : n ≤ n') : own' = own'.take n ++ (own'.drop n).take (n' - n) ++ own'.drop n' := by
  have h1 : own'.drop n' = (own'.drop n).drop (n' - n) := by rw [List.drop_drop]; congr 1; omega
  rw [h1, List.append_assoc, List.take_append_drop, List.take_append_drop]
/-- .. no block more. -/
theorem MeetsV.mk0 {n : Nat} {K : Env} {E : α → Env} {own0 : Own} {U : α → List (Nat × (Nat × Obj))} {B : α → Own} {x : α} {env' : Env} {own' : Own} (n' : Nat) (t : Own) (h1 : EnvLe (E x) env') (h2 : EnvLe K env')
    (h3 : setAll (own0.take n) (U x) = own'.take n) (h4 : own'.drop n' = B x ++ t) (hn : Nat.ble n n' = true := by rfl) : MeetsV n K E own0 U B D x ⟨env', own', D⟩ := by
  refine ⟨h1, h2, ?_, rfl⟩
  rw [h3]
  refine Sel.perm (t := (own'.drop n).take (n' - n) ++ t) ?_
  have h := mid_perm (own' := own') (Nat.le_of_ble_eq_true hn)
  rw [h4] at h
  show own'.Perm _
  refine (List.Perm.of_eq h).trans ?_
  rw [List.append_assoc, List.append_assoc]
  refine List.Perm.append_left _ ?_
  rw [← List.append_assoc, ← List.append_assoc]
  exact List.Perm.append_right _ List.perm_append_comm
theorem selV0 {n n' : Nat} {own' A b t : Own} (h3 : A = own'.take n) (h4 : own'.drop n' = b ++ t) (hn : Nat.ble n n' = true) : Sel (A ++ b) own' := by
  have h := MeetsV.mk0 (K := []) (E := fun _ : Unit => []) (own0 := A) (n := n) (U := fun _ => []) (B := fun _ => b) (D := []) (x := ()) (env' := []) n' t trivial trivial (by rw [h3]; simp [setAll, List.take_take]) h4 hn
  have h2 := h.2.2.1
  have e : setAll (A.take n) [] = A := by rw [h3]; simp [setAll, List.take_take]
  rw [e] at h2
  exact h2
/-! ### heads at which the blocks are written out -/
def AtW (K : Env) (E : α → Env) (L B : α → Own) (D : List Deferred) (x : α) : St := ⟨E x ++ K, L x ++ B x, D⟩
def MeetsW (K : Env) (E : α → Env) (L B : α → Own) (D : List Deferred) (x : α) (s : St) : Prop := EnvLe (E x) s.env ∧ EnvLe K s.env ∧ Sel (L x ++ B x) s.own ∧ s.D = D
theorem MeetsW.le {K : Env} {E : α → Env} {L B : α → Own} {x : α} {s : St} (h : MeetsW K E L B D x s) : Le (AtW K E L B D x) s := by
  obtain ⟨h1, h2, h3, h4⟩ := h
  exact ⟨(h1.append h2).sub, h3, h4.symm⟩
theorem MeetsW.mk0 {K : Env} {E : α → Env} {L B : α → Own} {x : α} {env' : Env} {own' : Own} (n n' : Nat) (h1 : EnvLe (E x) env') (h2 : EnvLe K env') (h3 : L x = own'.take n) (h4 : own'.drop n' = B x) (hn : Nat.ble n n' = true := by rfl) : MeetsW K E L B D x ⟨env', own', D⟩ :=
  ⟨h1, h2, selV0 (t := []) h3 (by rw [List.append_nil]; exact h4) hn, rfl⟩
/-- .. new blocks behind all. -/
theorem MeetsW.mkP {K : Env} {E : α → Env} {L B : α → Own} {x : α} {env' : Env} {own' : Own} (t : Own) (h1 : EnvLe (E x) env') (h2 : EnvLe K env') (h3 : L x ++ B x ++ t = own') : MeetsW K E L B D x ⟨env', own', D⟩ :=
  ⟨h1, h2, h3 ▸ Sel.pre _ t, rfl⟩
/-- .. where blocks have changed their places. -/
theorem MeetsW.mkS {K : Env} {E : α → Env} {L B : α → Own} {x : α} {env' : Env} {own' : Own} (is : List Nat) (h1 : EnvLe (E x) env') (h2 : EnvLe K env') (h3 : selI own' is = some (L x ++ B x)) (h4 : distinct is = true := by rfl) : MeetsW K E L B D x ⟨env', own', D⟩ :=
  ⟨h1, h2, Sel.of is h3 h4, rfl⟩
theorem SX.loopW {c : Code} (ks : List Nat) {K : Env} (hK : selE env ks = some K) (E : α → Env) (L B : α → Own) (F : α → Prop) (μ : α → Nat) (x0 : α) (hF0 : F x0)
    (hE : EnvLe (E x0) env) (hU : L x0 ++ B x0 = own)
    (round : ∀ x, F x → SX C c (thenQ (fun s' => ∃ x', MeetsW K E L B D x' s' ∧ F x' ∧ μ x' < μ x) Q) (AtW K E L B D x)) : SX C (.loop c) Q ⟨env, own, D⟩ :=
  SX.loop (AtW K E L B D) F μ x0 hF0 (MeetsW.le ⟨hE, selE_le hK, by rw [hU]; exact Sel.refl _, rfl⟩) fun x hx =>
    (round x hx).mono fun e s hq => by
      cases e
      case normal => obtain ⟨x', h1, h2, h3⟩ := hq; exact ⟨x', h1.le, h2, h3⟩
      all_goals exact hq
theorem SX.cutW {x y : Code} (ks : List Nat) {K : Env} (hK : selE env ks = some K) (E : α → Env) (L B : α → Own) (F : α → Prop)
    (h : SX C x (thenQ (fun s' => ∃ z, MeetsW K E L B D z s' ∧ F z) Q) ⟨env, own, D⟩)
    (h' : ∀ z, F z → SX C y Q (AtW K E L B D z)) : SX C (.seq x y) Q ⟨env, own, D⟩ :=
  (fun (_ : selE env ks = some K) => SX.cut (AtW K E L B D) F (h.mono fun e s hq => by
      cases e
      case normal => obtain ⟨x', h1, h2⟩ := hq; exact ⟨x', h1.le, h2⟩
      all_goals exact hq) h') hK
theorem stepQ.mkL0 {m f i : Nat} {kt : Lt} {listed : Array Bool} {s s' : St} (hl : lateB ops kt.late i = true) (h1 : maskL kt.mask s'.own = maskL kt.mask s.own) (h2 : s'.D = s.D) (h3 : SXA C ops m Q kt f (listed.setIfInBounds i true) s') : stepQ C ops m Q kt f listed i s .normal s' :=
  stepQ.mkL [] hl (by rw [List.append_nil]; exact h1) h2 h3
theorem retQ.selS {rs : List ResultVar} {R : Value → Own → Prop} {e : Exit} {o : Own} (hS : Sel o own) (h : retQ C rs (fun v _ => R v o) e ⟨env, own, []⟩) : retQ C rs R e ⟨env, own, []⟩ := by
  cases e <;> first | exact h.elim | skip
  all_goals
    obtain ⟨own0, hu, vs, hrs, own', hs, hR⟩ := h
    cases hu
    exact ⟨own, .nil _, vs, hrs, o, hS, hR⟩
theorem Sel.at {x : Nat × Obj} {i : Nat} (h : own[i]? = some x) : Sel [x] own := Sel.of [i] (by simp [selI, h]) (by simp [distinct])
/-- Some of the first n, and all behind them. -/
theorem Sel.keepV (n : Nat) (is : List Nat) {o : Own} (hs : selI (own.take n) is = some o) (hd : distinct is = true) : Sel (o ++ own.drop n) own := by
  intro w0 w hI
  have h1 : Inv w0 o w := (hI.weaken (List.take_sublist n own)).sel hs hd
  have h2 : Inv w0 (own.drop n) w := hI.weaken (List.drop_sublist n own)
  refine ⟨hI.below, fun p hp hl => ?_, ?_⟩
  · rcases List.mem_append.1 hp with hp | hp
    · exact h1.mem p hp hl
    · exact h2.mem p hp hl
  · rw [List.filter_append, List.map_append, List.nodup_append]
    refine ⟨h1.nodup, h2.nodup, fun a ha b hb e => ?_⟩
    obtain ⟨p, hp, rfl⟩ := List.mem_map.1 ha
    obtain ⟨q, hq, rfl⟩ := List.mem_map.1 hb
    obtain ⟨hp1, hp2⟩ := List.mem_filter.1 hp
    obtain ⟨hq1, hq2⟩ := List.mem_filter.1 hq
    obtain ⟨j, _, hj⟩ := selI_mem hs hp1
    obtain ⟨k, hk⟩ := List.getElem?_of_mem hq1
    have hjn : j < n := by
      have := (List.getElem?_eq_some_iff.1 hj).1
      simp at this
      omega
    have hj' : own[j]? = some p := by
      rw [List.getElem?_take, if_pos hjn] at hj
      exact hj
    have hk' : own[n + k]? = some q := by
      rw [List.getElem?_drop] at hk
      exact hk
    exact nodup_fst_ne hI.nodup hj' hk' hp2 hq2 (by omega) e
end
end Go.X

/- The calculus' rules: a range over a function that a round may leave by 'return'. Nothing of the program stands here. -/
namespace Go.X
open Go Go.RowKit
/-- The record of a loop that a round has left by 'return'. -/
abbrev LJ (fn : FuncId) (T : Array Value) (ps : Array Tmp) (assign body : Code) (r : Nat) (st : LoopState) : Obj := .loop { state := st, pending := some .ret, fn, tmps := T, params := ps, assign, body, defers := r }
/-- What is asked when the function that is ranged over ends: no round has left the loop, or one has. -/
def rfQX (Q : Post) (env : Env) (D : List Deferred) (ob oj : LoopState → Obj) (r l : Nat) (own : Own) : Prop :=
  (∃ i, own[i]? = some (l, ob .ready) ∧ Q .normal ⟨env, own.set i (l, ob .exhausted), { target := .collected r, args := #[] } :: D⟩) ∨
  (∃ i, own[i]? = some (l, oj .done) ∧ Q .ret ⟨env, own.set i (l, oj .exhausted), { target := .collected r, args := #[] } :: D⟩)
section
variable {C : Cx} {Q : Post} {env : Env} {own : Own} {D : List Deferred} {ops : Array Oper} {rest : List Oper}
variable {d : Nat} {ty : TypeId} {pos : String} {aft : Array Edge} {gd : Option (Nat × Bool)} {y : Operand}
theorem SX.rangeFuncX {g : Operand} {ps : Array Tmp} {assign body : Code} {f nf : Nat} {fnc : Func} {cf : Code} {first capt : List Value} {rs : List ResultVar}
    (hg : ev env g = some (.func (.func f) ⟨first⟩ ⟨capt⟩)) (hok : fnOk C.P f = true) (hf : C.P.funcs[f]? = some fnc) (hb : fnc.body = some cf) (hn : fnc.ntmps = nf) (hr : fnc.results.toList = rs) (hl : Nat.ble (first.length + 1 + capt.length) nf = true)
    (h : ∀ fn T r l (ob oj : LoopState → Obj), Held C.n env T → (∀ st, ob st = LR fn T ps assign body r st) → (∀ st, oj st = LJ fn T ps assign body r st) → SX ⟨C.P, none, nf, C.w0, false⟩ cf (retQ ⟨C.P, none, nf, C.w0, false⟩ rs fun _ o => rfQX Q env D ob oj r l o)
      ⟨envOf (first ++ [.func (.yield l) ⟨[]⟩ ⟨[]⟩] ++ capt) 0, own ++ [(r, .deferred (some [])), (l, ob .ready)], []⟩) (hrd : C.rd = none := by rfl) : SX C (.rangeFunc g ps assign body) Q ⟨env, own, D⟩ := by
  intro a w hc
  refine wpIn_rangeFunc fun fn _ => ?_
  have hro : (FW C.rd).round = none := hrd
  rw [hro]
  obtain ⟨W1, hW1⟩ : ∃ W1, (w.alloc (.deferred (some []))).alloc (LR fn a.tmps ps assign body w.heap.size .ready) = W1 := ⟨_, rfl⟩
  have hI1 : Inv C.w0 (own ++ [(w.heap.size, .deferred (some [])), (w.heap.size + 1, LR fn a.tmps ps assign body w.heap.size .ready)]) W1 := by
    rw [← hW1]
    have h1 := hc.2.2.append (Inv.alloc1 w (.deferred (some [])))
    have h2 := h1.append (Inv.alloc1 (w.alloc (.deferred (some []))) (LR fn a.tmps ps assign body w.heap.size .ready))
    rw [List.append_assoc] at h2
    simpa using h2
  refine ⟨w.heap.size + 1, [{ target := .collected w.heap.size, args := #[] }], W1, { target := .fn (.func f) ⟨capt⟩, args := ⟨first⟩ ++ #[.func (.yield (w.heap.size + 1)) #[] #[]] }, W1, f, ⟨first ++ [.func (.yield (w.heap.size + 1)) ⟨[]⟩ ⟨[]⟩] ++ capt⟩, W1, ?_, ?_, fun _ _ => trivial, ?_, fun hx => (by cases hx), ?_⟩
  · rw [← hW1]; exact run_enterLoop_outer _ _ _ _ _
  · simp only [resolve, Deferred.ofValue, hc.1.eval hg]
    simp [Act.eval]
  · simp [invoke, run_callFunc hok]
  · refine callsIn_FW (Calls.mono (Calls.of_SX hI1 hf hb hn hr (by rw [Nat.ble_eq] at hl ⊢; simp only [List.length_append, List.length_singleton]; exact hl) (h fn a.tmps w.heap.size (w.heap.size + 1) (LR fn a.tmps ps assign body w.heap.size) (LJ fn a.tmps ps assign body w.heap.size) hc.1 (fun _ => rfl) (fun _ => rfl))) ?_)
    rintro e w' ⟨v, own', rfl, hI', ⟨i, hi, hQ⟩ | ⟨i, hi, hQ⟩⟩
    · have hb2 := (hI'.get hi rfl).2
      exact ⟨none, _, run_endLoop hb2 (by simp), ⟨env, own'.set i (w.heap.size + 1, LR fn a.tmps ps assign body w.heap.size .exhausted), { target := .collected w.heap.size, args := #[] } :: D⟩, ⟨hc.1, by simp [hc.2.1], hI'.putObj hi rfl⟩, hQ⟩
    · have hb2 := (hI'.get hi rfl).2
      refine ⟨some .ret, _, run_endLoop hb2 (by simp), ?_⟩
      exact SX.ret (C := C) hQ _ _ ⟨hc.1, by simp [hc.2.1], hI'.putObj hi rfl⟩
/-- What is asked at a round's end: it ends behind its last statement, or by 'return'. -/
def roundQX (C : Cx) (ops : Array Oper) (rest : List Oper) (Q : Post) (env : Env) (D : List Deferred) (d : Nat) (ob oj : LoopState → Obj) (l i : Nat) : Post
  | .normal, s => s.own[i]? = some (l, ob .busy) ∧ SXL C ops rest Q ⟨(d, .bool (decide True)) :: env, s.own.set i (l, ob .ready), D⟩
  | .ret, s => s.own[i]? = some (l, ob .busy) ∧ SXL C ops rest Q ⟨(d, .bool (decide False)) :: env, s.own.set i (l, oj .done), D⟩
  | _, _ => False
/-- A call of yield: a round, in place. -/
theorem SXL.yieldX {xs : List Operand} {ats : Array TypeId} {vs : List Value} {l r m : Nat} {fn : FuncId} {T : Array Value} {ps : List Nat} {assign body : Code} {envT : Env}
    {ob oj : LoopState → Obj} (hT : Held m envT T) (hob : ∀ st, ob st = LR fn T ⟨ps⟩ assign body r st) (hoj : ∀ st, oj st = LJ fn T ⟨ps⟩ assign body r st) (i : Nat) (hy : ev env y = some (.func (.yield l) ⟨[]⟩ ⟨[]⟩)) (hx : evl env xs = some vs) (hi : own[i]? = some (l, ob .ready)) (hlen : Nat.beq vs.length ps.length = true) (hps : (ps.all fun t => Nat.blt t m) = true)
    (h : SX ⟨C.P, some l, m, C.w0, false⟩ assign (assignQ (fun s => SX ⟨C.P, some l, m, C.w0, false⟩ body (roundQX C ops rest Q env D d ob oj l i) s) ob l i) ⟨zipE ps vs envT, own, []⟩)
    (hd : Nat.blt d C.n = true := by rfl) (hw : Wanted ops gd env = some true := by rfl) (hdr : C.dr = false := by rfl) :
    SXL C ops ({ dst := some d, op := .call { callee := .value y, args := ⟨xs⟩, argTypes := ats }, type := ty, pos, after := aft, guard := gd } :: rest) Q ⟨env, own, D⟩ := by
  refine SXL.ofn hdr ?_
  intro a w hc
  have hw' : Region.wanted ({ dst := some d, op := .call { callee := .value y, args := ⟨xs⟩, argTypes := ats }, type := ty, pos, after := aft, guard := gd } : Oper) (yielded ops a.tmps) = true := hc.1.wanted hw
  simp only [wpListIn, hw', if_true]
  refine ⟨about_true rfl, ?_⟩
  obtain rfl : ob = LR fn T ⟨ps⟩ assign body r := funext hob
  obtain rfl : oj = LJ fn T ⟨ps⟩ assign body r := funext hoj
  have hlr := (hc.2.2.get hi rfl).2
  have h1 := evl_map hc.1 hx
  have hyr := run_yield (P := C.P) (args := ⟨vs⟩) hlr (by simpa using Nat.eq_of_beq_eq_true hlen)
  have hrun : (execOp a.eval { dst := some d, op := .call { callee := .value y, args := ⟨xs⟩, argTypes := ats }, type := ty, pos, after := aft, guard := gd }).run C.P w = .ok (.round l fn ((ps.zip vs).foldl (fun tmps (p : Nat × Value) => tmps.setIfInBounds p.1 p.2) T) assign body) w := by
    simp only [execOp, resolve, Deferred.ofValue, hc.1.eval hy]
    simp only [List.map_toArray, h1, invoke]
    simp [hyr]
  rw [Oper.semAt_eq _ _ _ (fun _ e => by cases e), hrun]
  refine ⟨fun hx => (by cases hx), ?_⟩
  refine roundIn_of_wpIn trivial (wpIn_mono (h { tmps := _, defers := [] } w ⟨agree_zip hps hT, rfl, hc.2.2⟩) ?_)
  rintro e a1 w1 ⟨s1, hc1, hq1⟩
  cases e <;> first | exact hq1.elim | skip
  obtain ⟨hi1, hq1⟩ := hq1
  have hl1 := (hc1.2.2.get hi1 rfl).2
  refine ⟨_, run_beginRound hl1 rfl, wpIn_mono (hq1 a1 _ ⟨hc1.1, hc1.2.1, hc1.2.2.putObj hi1 rfl⟩) ?_⟩
  rintro e a2 w2 ⟨s2, hc2, hq2⟩
  cases e <;> first | exact hq2.elim | skip
  · obtain ⟨hi2, hq2⟩ := hq2
    have hl2 := (hc2.2.2.get hi2 rfl).2
    refine ⟨_, _, run_endRound none hl2, ?_⟩
    exact hq2.ton hdr _ _ ⟨hc.1.put hd _, by rw [put_defers]; exact hc.2.1, hc2.2.2.putObj hi2 rfl⟩
  · obtain ⟨hi2, hq2⟩ := hq2
    have hl2 := (hc2.2.2.get hi2 rfl).2
    refine ⟨_, _, run_endRound (some .ret) hl2, ?_⟩
    exact hq2.ton hdr _ _ ⟨hc.1.put hd _, by rw [put_defers]; exact hc.2.1, hc2.2.2.putObj hi2 rfl⟩
end
/-! ### another base: what lies there now is kept from here on -/
/-- More is known of the blocks than their cells: what each world shows in which they lie. -/
def Own.Has (own : Own) (p : World → Prop) : Prop := ∀ w0 w, Inv w0 own w → p w
theorem Own.Has.of {own own' : Own} {p : World → Prop} (h : Own.Has own p) (hs : Sel own own') : Own.Has own' p := fun w0 w hI => h w0 w (hs w0 w hI)
theorem Own.Has.and {own : Own} {p q : World → Prop} (h : Own.Has own p) (k : Own.Has own q) : Own.Has own fun w => p w ∧ q w := fun w0 w hI => ⟨h w0 w hI, k w0 w hI⟩
end Go.X

/- The calculus' rules: '==' on bools. Nothing of the program stands here. -/
namespace Go.X
open Go Go.RowKit
def isBoolP (P : Program) (t : TypeId) : Bool := match P.underlying t with | some .bool => true | _ => false
section
variable {C : Cx} {Q : Post} {env : Env} {own : Own} {D : List Deferred} {ops : Array Oper} {rest : List Oper}
variable {d : Nat} {ty : TypeId} {pos : String} {aft : Array Edge} {g : Option (Nat × Bool)} {x y : Operand} {T T' : TypeId} {p q : Prop} [Decidable p] [Decidable q]
/-! ### where both sides are known to be the same -/
end
end Go.X

/- The calculus' rules: conversions between integers, shifts, bits. Nothing of the program stands here. -/
namespace Go.X
open Go Go.RowKit
def cvP (P : Program) (src dst : TypeId) (k : IntKind) : Bool := match P.underlying src, P.underlying dst with | some _, some (.int j) => decide (j = k) | _, _ => false
section
variable {C : Cx} {Q : Post} {env : Env} {own : Own} {D : List Deferred} {ops : Array Oper} {rest : List Oper}
variable {d : Nat} {ty : TypeId} {pos : String} {aft : Array Edge} {g : Option (Nat × Bool)} {x y : Operand} {T T' : TypeId} {A B : Int} {k : IntKind}
theorem SXL.shr {j : IntKind} (hx : ev env x = some (.int k A)) (hy : ev env y = some (.int j B)) (hb : 0 ≤ B)
    (h : SXL C ops rest Q ⟨(d, .int k (A.fdiv (2 ^ (Min.min B.toNat k.bits)))) :: env, own, D⟩) (hd : Nat.blt d C.n = true := by rfl) (hw : Wanted ops g env = some true := by rfl) :
    SXL C ops ({ dst := some d, op := .binOp .shr T x y T', type := ty, pos, after := aft, guard := g } :: rest) Q ⟨env, own, D⟩ :=
  SXL.bin hx hy (r := .int k (A.fdiv (2 ^ (Min.min B.toNat k.bits)))) (fun w => by
    show (Op.shift .shr k A j B).run C.P w = _
    unfold Op.shift
    rw [if_neg (by omega)]; rfl) hd hw h
theorem SXL.and (hx : ev env x = some (.int k A)) (hy : ev env y = some (.int k B))
    (h : SXL C ops rest Q ⟨(d, .int k (k.wrap ((BitVec.ofInt k.bits A &&& BitVec.ofInt k.bits B).toNat))) :: env, own, D⟩) (hd : Nat.blt d C.n = true := by rfl) (hw : Wanted ops g env = some true := by rfl) :
    SXL C ops ({ dst := some d, op := .binOp .and T x y T', type := ty, pos, after := aft, guard := g } :: rest) Q ⟨env, own, D⟩ :=
  SXL.bin hx hy (r := .int k (k.wrap ((BitVec.ofInt k.bits A &&& BitVec.ofInt k.bits B).toNat))) (fun w => by
    have e : (do eqGuard .and T x y (.int k A) (.int k B); binOp .and T (.int k A) (.int k B) : Sem Value) = Op.intBits .and k A B := by
      simp [eqGuard, binOp]
    rw [e]; rfl) hd hw h
end
end Go.X

/- The calculus' rules: bits of small numbers, pairs of bools. Nothing of the program stands here. -/
namespace Go.X
open Go Go.RowKit
theorem fdiv_nat (b i : Nat) : ((b : Int)).fdiv (2 ^ i) = ((b / 2 ^ i : Nat) : Int) := by
  rw [Int.fdiv_eq_ediv_of_nonneg _ (by exact_mod_cast Nat.zero_le (2 ^ i))]
  norm_cast
theorem and_one (m : Nat) (h : m < 9223372036854775808) : IntKind.i64.wrap (((BitVec.ofInt 64 (m : Int) &&& BitVec.ofInt 64 1).toNat : Nat) : Int) = ((m % 2 : Nat) : Int) := by
  have e : (BitVec.ofInt 64 (m : Int) &&& BitVec.ofInt 64 1).toNat = m % 2 := by
    have h1 : BitVec.ofInt 64 (m : Int) = BitVec.ofNat 64 m := by simp
    have h2 : BitVec.ofInt 64 1 = BitVec.ofNat 64 1 := by decide
    rw [h1, h2, BitVec.toNat_and, BitVec.toNat_ofNat, BitVec.toNat_ofNat, Nat.mod_eq_of_lt (show m < 2 ^ 64 by omega)]
    exact Nat.and_one_is_mod m
  rw [e]
  exact IntWalk.i64_in _ (by omega)
section
variable {C : Cx} {Q : Post} {env : Env} {own : Own} {D : List Deferred} {ops : Array Oper} {rest : List Oper}
variable {d : Nat} {ty : TypeId} {pos : String} {aft : Array Edge} {g : Option (Nat × Bool)} {x y : Operand} {T T' : TypeId}
theorem SXL.shlN {n : Nat} (hx : ev env x = some (.int .i64 1)) (hy : ev env y = some (.int .i64 (n : Int))) (hn : n ≤ 60)
    (h : SXL C ops rest Q ⟨(d, .int .i64 ((2 ^ n : Nat) : Int)) :: env, own, D⟩) (hd : Nat.blt d C.n = true := by rfl) (hw : Wanted ops g env = some true := by rfl) :
    SXL C ops ({ dst := some d, op := .binOp .shl T x y T', type := ty, pos, after := aft, guard := g } :: rest) Q ⟨env, own, D⟩ :=
  SXL.bin hx hy (r := .int .i64 ((2 ^ n : Nat) : Int)) (fun w => by
    show (Op.shift .shl .i64 1 .i64 (n : Int)).run C.P w = _
    unfold Op.shift
    rw [if_neg (by omega)]
    have e : Min.min (n : Int).toNat IntKind.i64.bits = n := by show Min.min (n : Int).toNat 64 = n; omega
    rw [e]
    have hb : (2 : Nat) ^ n ≤ 1152921504606846976 := Nat.le_trans (Nat.pow_le_pow_right (by omega) hn) (by decide)
    have e2 : (1 : Int) * 2 ^ n = ((2 ^ n : Nat) : Int) := by push_cast; omega
    generalize (2 ^ n : Nat) = m at hb e2 ⊢
    show (pure (Value.int .i64 (IntKind.i64.wrap (1 * 2 ^ n))) : Sem Value).run C.P w = _
    rw [e2, IntWalk.i64_in _ (by omega)]; rfl) hd hw h
theorem SXL.shrN {b i : Nat} (hx : ev env x = some (.int .i64 (b : Int))) (hy : ev env y = some (.int .i64 (i : Int))) (hi : i ≤ 60)
    (h : SXL C ops rest Q ⟨(d, .int .i64 ((b / 2 ^ i : Nat) : Int)) :: env, own, D⟩) (hd : Nat.blt d C.n = true := by rfl) (hw : Wanted ops g env = some true := by rfl) :
    SXL C ops ({ dst := some d, op := .binOp .shr T x y T', type := ty, pos, after := aft, guard := g } :: rest) Q ⟨env, own, D⟩ :=
  SXL.shr hx hy (by omega) (by
    have e : Min.min (i : Int).toNat IntKind.i64.bits = i := by show Min.min (i : Int).toNat 64 = i; omega
    rw [e, fdiv_nat]; exact h) hd hw
theorem SXL.and1 {m : Nat} (hx : ev env x = some (.int .i64 (m : Int))) (hy : ev env y = some (.int .i64 1)) (hm : m < 9223372036854775808)
    (h : SXL C ops rest Q ⟨(d, .int .i64 ((m % 2 : Nat) : Int)) :: env, own, D⟩) (hd : Nat.blt d C.n = true := by rfl) (hw : Wanted ops g env = some true := by rfl) :
    SXL C ops ({ dst := some d, op := .binOp .and T x y T', type := ty, pos, after := aft, guard := g } :: rest) Q ⟨env, own, D⟩ :=
  SXL.and hx hy (by
    have e := and_one m hm
    show SXL C ops rest Q ⟨(d, .int .i64 (IntKind.i64.wrap (((BitVec.ofInt 64 (m : Int) &&& BitVec.ofInt 64 1).toNat : Nat) : Int))) :: env, own, D⟩
    rw [e]; exact h) hd hw
/-! ### pairs of bools -/
def boolArr2 (P : Program) (T : TypeId) : Bool := match P.underlying T with
  | some (.array 2 e) => isBoolP P e && (match sizeP P e with | some 1 => true | _ => false) && (match shapeT P e with | some none => true | _ => false)
  | _ => false
end
end Go.X

/- Springs without some readings: the plain words. Nothing of Go stands here. -/
namespace Go.S
open Go.X (G)
/-- Those that are not struck. -/
def keepR (l : List Rd) (ns : List Int) : List Rd := l.filter fun x => decide (x.num ∉ ns)
/-- A spring without some readings. -/
def wo (s : Sp) (ns : List Int) : Sp := { s with reads := keepR s.reads ns }
def numsL (s : Sp) : List Int := s.reads.map (·.num)
@[simp] theorem length_numsL (s : Sp) : (numsL s).length = s.reads.length := by simp [numsL]
theorem take_snoc {α : Type} [Inhabited α] {l : List α} {k : Nat} (h : k < l.length) : l.take (k + 1) = l.take k ++ [l.getD k default] := by
  rw [List.take_add_one, List.getElem?_eq_getElem h]
  simp [h]
def gvL (s : Sp) (week : Int) : List Int := [givesLo s week, givesHi s week]
/-- On which readings a week rests. -/
def restsTo (s : Sp) (week : Int) (k : Nat) : List Int := ((s.reads.take k).filter fun x => decide (gvL (wo s [x.num]) week ≠ gvL s week)).map (·.num)
def restsL (s : Sp) (week : Int) : List Int := if toldE s week = 0 then restsTo s week s.reads.length else []
/-- The first list of so many readings more, of those from an index on, without which there is a truth. -/
def struckFrom (rec : Nat → List Int → Option (List Int)) (s : Sp) (l : List Int) : Nat → Nat → Option (List Int)
  | _, 0 => none
  | i, f + 1 => match rec (i + 1) (l ++ [(s.reads.getD i default).num]) with
    | some r => some r
    | none => struckFrom rec s l (i + 1) f
def struckP (s : Sp) : Nat → Nat → List Int → Option (List Int)
  | 0, _, l => if TrueP (wo s l) then some l else none
  | m + 1, i, l => struckFrom (struckP s m) s l i (s.reads.length - i)
/-- The readings that must be false; the error. -/
def wrongF (s : Sp) : Option (List Int) := match struckP s 0 0 [] with
  | some r => some r
  | none => match struckP s 1 0 [] with
    | some r => some r
    | none => struckP s 2 0 []
def wrongE (s : Sp) : Int := if ¬SpP s then 10 else if (wrongF s).isSome then 0 else if ¬TrueP { s with reads := [] } then 6 else 4
def wrongL (s : Sp) : List Int := if SpP s then (wrongF s).getD [] else []
end Go.S

/- What is true of a spring, and what is told of it: the plain words. Nothing of Go stands here. -/
namespace Go.S
open Go.X (G)
/-- What may be given week by week, with a rain, of what is left of each week. -/
def Tl (s : Sp) (L : List Int) (rain : Int) (t : Nat → Int) : Prop := ∀ w, w < s.weeks.toNat →
  (G L w ≤ t w ∧ t w ≤ G L (10 + w)) ∧ (∀ x ∈ s.book, x.wk = w → Wi rain x.r0 x.r1 → Wi (t w) x.g0 x.g1) ∧ (0 < w → t (w - 1) - s.fall ≤ t w ∧ t w ≤ t (w - 1))
theorem lines_tr {s : Sp} (hv : SpP s) {L : List Int} (hL : L.length = 20) (rain : Int) {w : Nat} (hw : w < s.weeks.toNat) (m : Int) : ∀ k, k ≤ s.book.length →
    ((G (linesTo s L rain k) w ≤ m ∧ m ≤ G (linesTo s L rain k) (10 + w)) ↔ ((G L w ≤ m ∧ m ≤ G L (10 + w)) ∧ ∀ x ∈ s.book.take k, x.wk = w → Wi rain x.r0 x.r1 → Wi m x.g0 x.g1))
  | 0, _ => by simp [linesTo]
  | k + 1, hk => by
    have ih := lines_tr hv hL rain hw m k (by omega)
    have h1 := hv.1; unfold HeadP at h1
    have hb := bookD hv.2.1 (show k < s.book.length by omega)
    have hlen : (linesTo s L rain k).length = 20 := by rw [linesTo_len]; exact hL
    rw [take_snoc (show k < s.book.length by omega)]
    simp only [linesTo, List.getElem?_eq_getElem (show k < s.book.length by omega), lineStep]
    have e : s.book[k] = s.book.getD k default := by simp [show k < s.book.length by omega]
    rw [e]
    generalize s.book.getD k default = x at *
    have hx : ∀ p : Prop, (∀ y ∈ s.book.take k ++ [x], y.wk = w → Wi rain y.r0 y.r1 → Wi m y.g0 y.g1) ↔ ((∀ y ∈ s.book.take k, y.wk = w → Wi rain y.r0 y.r1 → Wi m y.g0 y.g1) ∧ (x.wk = w → Wi rain x.r0 x.r1 → Wi m x.g0 x.g1)) := by
      intro _
      constructor
      · intro h; exact ⟨fun y hy => h y (by simp [hy]), h x (by simp)⟩
      · rintro ⟨h2, h3⟩ y hy
        rcases List.mem_append.1 hy with hy | hy
        · exact h2 y hy
        · simp at hy; subst hy; exact h3
    rw [hx True]
    by_cases hr : Wi rain x.r0 x.r1
    · rw [if_pos hr]
      obtain ⟨a1, a2⟩ := setA_at hlen (i := x.wk.toNat) (j := w) (by omega) (by omega) (max (G (linesTo s L rain k) x.wk.toNat) x.g0) (min (G (linesTo s L rain k) (10 + x.wk.toNat)) x.g1)
      rw [a1, a2]
      by_cases hwk : x.wk.toNat = w
      · rw [if_pos hwk, if_pos hwk, hwk]
        have e2 : x.wk = w := by omega
        constructor
        · intro h
          have := ih.1 (by omega)
          exact ⟨this.1, this.2, fun _ _ => by omega⟩
        · rintro ⟨h2, h3, h4⟩
          have := ih.2 ⟨h2, h3⟩
          have := h4 e2 hr
          omega
      · rw [if_neg hwk, if_neg hwk, ih]
        constructor
        · rintro ⟨h2, h3⟩
          exact ⟨h2, h3, fun e => by omega⟩
        · rintro ⟨h2, h3, _⟩
          exact ⟨h2, h3⟩
    · rw [if_neg hr, ih]
      constructor
      · rintro ⟨h2, h3⟩
        exact ⟨h2, h3, fun _ h => absurd h hr⟩
      · rintro ⟨h2, h3, _⟩
        exact ⟨h2, h3⟩
theorem tl_tr {s : Sp} (hv : SpP s) {L : List Int} (hL : L.length = 20) (rain : Int) (t : Nat → Int) :
    Tr s.weeks.toNat s.fall (fun w => G (linesTo s L rain s.book.length) w) (fun w => G (linesTo s L rain s.book.length) (10 + w)) t ↔ Tl s L rain t := by
  constructor
  · intro h w hw
    have h1 := h w hw
    have h2 := (lines_tr hv hL rain hw (t w) s.book.length (Nat.le_refl _)).1 ⟨h1.1, h1.2.1⟩
    rw [List.take_length] at h2
    exact ⟨h2.1, h2.2, h1.2.2⟩
  · intro h w hw
    have h1 := h w hw
    have h2 := (lines_tr hv hL rain hw (t w) s.book.length (Nat.le_refl _)).2 (by rw [List.take_length]; exact ⟨h1.1, h1.2.1⟩)
    exact ⟨h2.1, h2.2, h1.2.2⟩
theorem lv_ref {s : Sp} (hv : SpP s) {L : List Int} (hL : L.length = 20) (rain : Int) : RefP s.weeks.toNat s.fall (linesTo s L rain s.book.length) (lvL s L rain) := by
  have h1 := hv.1; unfold HeadP at h1
  exact ref_ok (by rw [linesTo_len]; exact hL) (by omega) (by omega) (by omega)
/-- Both ends may be given. -/
theorem lv_ends {s : Sp} (hv : SpP s) {L : List Int} (hL : L.length = 20) {rain : Int} (h : lvB s L rain) : Tl s L rain (fun w => G (lvL s L rain) w) ∧ Tl s L rain (fun w => G (lvL s L rain) (10 + w)) := by
  have h1 := hv.1; unfold HeadP at h1
  have hr := lv_ref hv hL rain
  have := ends_true hr.stp (fun w hw => hr.sub w (by omega)) h
  exact ⟨(tl_tr hv hL rain _).1 this.1, (tl_tr hv hL rain _).1 this.2⟩
/-- What readings leave: just the numbers that are right. -/
theorem base_mem {s : Sp} (hv : SpP s) {w : Nat} (hw : w < s.weeks.toNat) (m : Int) : (G (baseL s) w ≤ m ∧ m ≤ G (baseL s) (10 + w)) ↔ ((0 ≤ m ∧ m ≤ s.most) ∧ OkP s w m) := by
  have h1 := hv.1; unfold HeadP at h1
  have hf := flTo_mem hv s.reads.length (Nat.le_refl _) w hw
  have hb := (relW hv).rel w hw
  have hfl : flTo s s.reads.length = flL s := rfl
  rw [hfl] at hf
  constructor
  · intro h
    rcases hb with ⟨a, b⟩ | ⟨a, b⟩
    · have hle := hf.2
      have hr : 0 ≤ m ∧ m ≤ s.most := by omega
      exact ⟨hr, okP_iff.2 ((hf.1 m hr.1 hr.2).2 (by omega))⟩
    · omega
  · rintro ⟨h2, h3⟩
    have := (hf.1 m h2.1 h2.2).1 (okP_iff.1 h3)
    rcases hb with ⟨a, b⟩ | ⟨a, b⟩ <;> omega
theorem base_len {s : Sp} (hv : SpP s) : (baseL s).length = 20 := (baseL_Bd hv).len
/-- A truth: a rain, and what is given week by week. -/
def Truth (s : Sp) (rain : Int) (t : Nat → Int) : Prop := ∀ w, w < s.weeks.toNat →
  ((0 ≤ t w ∧ t w ≤ s.most) ∧ OkP s w (t w)) ∧ (∀ x ∈ s.book, x.wk = w → Wi rain x.r0 x.r1 → Wi (t w) x.g0 x.g1) ∧ (0 < w → t (w - 1) - s.fall ≤ t w ∧ t w ≤ t (w - 1))
theorem mem_rnsTo {s : Sp} {L : List Int} {r : Int} : ∀ k, r ∈ rnsTo s L k ↔ ∃ i : Nat, i < k ∧ r = s.w0 + i ∧ lvB s L r
  | 0 => by simp [rnsTo]
  | k + 1 => by
    have ih := mem_rnsTo (s := s) (L := L) (r := r) k
    simp only [rnsTo]
    split
    · rename_i hb
      rw [List.mem_append, ih]
      constructor
      · rintro (⟨i, h1, h2, h3⟩ | h)
        · exact ⟨i, by omega, h2, h3⟩
        · simp at h
          exact ⟨k, by omega, h, h ▸ hb⟩
      · rintro ⟨i, h1, h2, h3⟩
        by_cases e : i = k
        · right; simp [h2, e]
        · exact .inl ⟨i, by omega, h2, h3⟩
    · rename_i hb
      rw [ih]
      constructor
      · rintro ⟨i, h1, h2, h3⟩
        exact ⟨i, by omega, h2, h3⟩
      · rintro ⟨i, h1, h2, h3⟩
        by_cases e : i = k
        · subst e; subst h2; exact absurd h3 hb
        · exact ⟨i, by omega, h2, h3⟩
theorem mem_rnsL {s : Sp} {L : List Int} {r : Int} : r ∈ rnsL s L ↔ Wi r s.w0 s.w1 ∧ lvB s L r := by
  rw [rnsL, mem_rnsTo]
  unfold rnN
  constructor
  · rintro ⟨i, h1, h2, h3⟩
    exact ⟨by omega, h3⟩
  · rintro ⟨h1, h3⟩
    exact ⟨(r - s.w0).toNat, by omega, by omega, h3⟩
end Go.S

/- Weeks in which it fails, what gives least and most, buckets, what tells most: the plain words. Nothing of Go stands here. -/
namespace Go.S
open Go.X (G idxF)
/-! ### the first that is least -/
def amin (f : Nat → Int) : Nat → Nat
  | 0 => 0
  | k + 1 => if f (k + 1) < f (amin f k) then k + 1 else amin f k
theorem amin_le (f : Nat → Int) : ∀ k, amin f k ≤ k
  | 0 => Nat.le_refl _
  | k + 1 => by
    have := amin_le f k
    simp only [amin]
    split <;> omega
theorem amin_min (f : Nat → Int) : ∀ k i, i ≤ k → f (amin f k) ≤ f i
  | 0, i, h => by
    obtain rfl : i = 0 := by omega
    exact Int.le_refl _
  | k + 1, i, h => by
    have ih := amin_min f k
    simp only [amin]
    split
    · rename_i hlt
      by_cases e : i = k + 1
      · subst e; exact Int.le_refl _
      · have := ih i (by omega); omega
    · rename_i hlt
      by_cases e : i = k + 1
      · subst e; omega
      · exact ih i (by omega)
/-! ### sums -/
def sumTo (l : List Int) : Nat → Int
  | 0 => 0
  | k + 1 => sumTo l k + l.getD k 0
def sumL (l : List Int) : Int := sumTo l l.length
/-- The lower ends (off = 0) or the upper ones (off = 10) of so many weeks. -/
def endL (X : List Int) (off n : Nat) : List Int := (X.drop off).take n
/-! ### weeks -/
/-- The value of the first week that is so, and the error. -/
def wkE (s : Sp) (i : Int) : Int := if toldE s 0 ≠ 0 then toldE s 0 else if 0 ≤ i then 0 else 6
def wkV (s : Sp) (i : Int) : Int := if toldE s 0 ≠ 0 then 0 else if 0 ≤ i then i else 0
def loI (s : Sp) (need : Int) : Int := idxF (fun w => hLo (toldA s 0) w < need) s.weeks.toNat
def hiI (s : Sp) (need : Int) : Int := idxF (fun w => hHi (toldA s 0) w < need) s.weeks.toNat
/-! ### the truths that give least and most -/
def endsL (s : Sp) (off i : Nat) : List Int := endL ((toldA s 0).getD i []) off s.weeks.toNat
def poorI (s : Sp) : Nat := amin (fun i => sumL (endsL s 0 i)) ((toldL s 0).length - 1)
def richI (s : Sp) : Nat := amin (fun i => -sumL (endsL s 10 i)) ((toldL s 0).length - 1)
def bestR (s : Sp) (i : Nat) : Int := if toldE s 0 = 0 then (toldL s 0).getD i 0 else 0
def bestL (s : Sp) (off i : Nat) : List Int := if toldE s 0 = 0 then endsL s off i else []
/-! ### buckets -/
def fillE (s : Sp) (week bucket : Int) : Int := if ¬SpP s then 10 else if ¬Wi week 0 (s.weeks - 1) then 11 else if ¬Wi bucket 1 40 then 14 else if toldE s week ≠ 0 then toldE s week else if givesLo s week = 0 then 6 else 0
def fillLo (s : Sp) (week bucket : Int) : Int := if fillE s week bucket = 0 then (3600 * bucket) / givesHi s week else 0
def fillHi (s : Sp) (week bucket : Int) : Int := if fillE s week bucket = 0 then (3600 * bucket + givesLo s week - 1) / givesLo s week else 0
/-! ### what tells most -/
def widTo (A : List (List Int)) : Nat → Int
  | 0 => 0
  | k + 1 => widTo A k + (hHi A k - hLo A k)
def wideP (s : Sp) (L : List Int) : Int := if rnsL s L = [] then -1 else widTo (lvsL s L (rnsL s L)) s.weeks.toNat
/-- One week is known. -/
def oneW (L : List Int) (w : Nat) (n : Int) : List Int := (L.set w n).set (10 + w) n
def leftTo (s : Sp) (w : Nat) : Nat → Int
  | 0 => 0
  | k + 1 => max (leftTo s w k) (wideP s (oneW (baseL s) w (G (baseL s) w + k)))
def leftN (s : Sp) (w : Nat) : Nat := (G (baseL s) (10 + w) + 1 - G (baseL s) w).toNat
def leftP (s : Sp) (w : Nat) : Int := leftTo s w (leftN s w)
def lookI (s : Sp) : Nat := amin (leftP s) (s.weeks.toNat - 1)
def lookW (s : Sp) : Int := if toldE s 0 = 0 then lookI s else 0
def lookV (s : Sp) : Int := if toldE s 0 = 0 then leftP s (lookI s) else 0
end Go.S

/- What rains leave: bounds; rows laid one behind the other. Nothing of Go stands here. -/
namespace Go.S
open Go Go.X
theorem amin_at (f : Nat → Int) {k : Nat} (h : 1 ≤ k) : amin f k = if f k < f (amin f (k - 1)) then k else amin f (k - 1) := by
  obtain ⟨j, rfl⟩ : ∃ j, k = j + 1 := ⟨k - 1, by omega⟩
  rfl
/-- The first least so far, and what it comes to: c where there is none. -/
def bI (f : Nat → Int) (k : Nat) : Nat := amin f (k - 1)
def bV (c : Int) (f : Nat → Int) (k : Nat) : Int := if k = 0 then c else f (amin f (k - 1))
theorem getD_mem {A : List (List Int)} {i : Nat} (hi : i < A.length) : A.getD i [] ∈ A := by
  rw [List.getD_eq_getElem?_getD, List.getElem?_eq_getElem hi]
  exact List.getElem_mem hi
theorem told_lens {s : Sp} {week : Int} : (toldA s week).length = (toldL s week).length := by simp [toldA, lvsL]
theorem toldL_pos {s : Sp} {week : Int} (he : toldE s week = 0) : 0 < (toldL s week).length := by
  rw [toldL_ok he]
  exact List.length_pos_iff.2 (toldE_valid he).2.2
/-- What is told may be given: no number is below nought. -/
theorem toldA_nonneg {s : Sp} {week : Int} (he : toldE s week = 0) {i w : Nat} (hi : i < (toldA s week).length) (hw : w < s.weeks.toNat) : 0 ≤ G ((toldA s week).getD i []) w ∧ G ((toldA s week).getD i []) w ≤ G ((toldA s week).getD i []) (10 + w) ∧ G ((toldA s week).getD i []) (10 + w) ≤ s.most := by
  obtain ⟨hv, _, _⟩ := toldE_valid he
  have hm := getD_mem hi
  obtain ⟨r, hr, e⟩ := List.mem_map.1 hm
  rw [← e]
  rw [toldL_ok he] at hr
  have hb := (mem_rnsL.1 hr).2
  obtain ⟨h1, h2⟩ := lv_ends hv (base_len hv) hb
  have a := (base_mem hv hw _).1 (h1 w hw).1
  have b := (base_mem hv hw _).1 (h2 w hw).1
  exact ⟨a.1.1, hb w hw, b.1.2⟩
theorem Bd.one {L : List Int} (h : Bd L) {w : Nat} {n : Int} (hn : -1000 ≤ n ∧ n ≤ 1000) : Bd (oneW L w n) := (h.set hn).set hn
/-! ### rows, one behind the other -/
end Go.S

/- What the package spring reckons of weeks: the same. Nothing of Go stands here. -/
namespace Go.S
open Go Go.X
def cmpV (a b : Int) : Int := if a < b then -1 else if b < a then 1 else 0
theorem cmpV_neg {a b : Int} : cmpV a b < 0 ↔ a < b := by
  unfold cmpV
  split
  · simp_all
  · split <;> simp_all
/-- How wide what is told is, of all weeks together. -/
def widM (M : List Int) : Nat → Int
  | 0 => 0
  | k + 1 => widM M k + (Hi M k - Lo M k)
/-- The lists of what is left: the least of all, and where it first stands. -/
def leftsL (s : Sp) (k : Nat) : List Int := (List.range k).map (leftP s)
@[simp] theorem leftsL_len (s : Sp) (k : Nat) : (leftsL s k).length = k := by simp [leftsL]
end Go.S

/- What is told, from week to week. Nothing of Go stands here. -/
namespace Go.S
open Go.X (G idxF idxF_some idxF_none)
theorem told_of_true {s : Sp} (hv : SpP s) (ht : TrueP s) {k : Nat} (hk : k < s.weeks.toNat) : toldE s k = 0 := by
  have hH := hv.1; unfold HeadP at hH
  unfold toldE
  rw [if_neg (fun h => h hv), if_neg (fun h => h ⟨by omega, by omega⟩), if_neg ht]
theorem told_same {s : Sp} (he : toldE s 0 = 0) {k : Nat} (hk : k < s.weeks.toNat) : toldE s k = 0 ∧ toldA s k = toldA s 0 := by
  obtain ⟨hv, _, ht⟩ := toldE_valid he
  have h := told_of_true hv ht hk
  exact ⟨h, by rw [toldA, toldA, toldL_ok h, toldL_ok he]⟩
theorem gives_at {s : Sp} (he : toldE s 0 = 0) {k : Nat} (hk : k < s.weeks.toNat) : givesLo s k = hLo (toldA s 0) k ∧ givesHi s k = hHi (toldA s 0) k := by
  obtain ⟨h, ha⟩ := told_same he hk
  rw [givesLo, givesHi, if_pos h, if_pos h, ha]
  exact ⟨rfl, rfl⟩
theorem hLo_le {A : List (List Int)} {w : Nat} : ∀ k, (∀ i, i < k → hLoTo A w k ≤ G (A.getD i []) w) ∧ (∀ i, i < k → G (A.getD i []) (10 + w) ≤ hHiTo A w k)
  | 0 => ⟨fun _ h => absurd h (Nat.not_lt_zero _), fun _ h => absurd h (Nat.not_lt_zero _)⟩
  | k + 1 => by
    obtain ⟨h1, h2⟩ := hLo_le (A := A) (w := w) k
    refine ⟨fun i hi => ?_, fun i hi => ?_⟩ <;> simp only [hLoTo, hHiTo]
    · rcases Nat.lt_or_ge i k with h | h
      · have := h1 i h; omega
      · obtain rfl : i = k := by omega
        omega
    · rcases Nat.lt_or_ge i k with h | h
      · have := h2 i h; omega
      · obtain rfl : i = k := by omega
        omega
theorem hLo_ex {A : List (List Int)} {w : Nat} (hA : 0 < A.length) : ∀ k, k ≤ A.length → (∃ i, i < A.length ∧ hLoTo A w k = G (A.getD i []) w) ∧ (∃ i, i < A.length ∧ hHiTo A w k = G (A.getD i []) (10 + w))
  | 0, _ => ⟨⟨0, hA, rfl⟩, ⟨0, hA, rfl⟩⟩
  | k + 1, hk => by
    obtain ⟨⟨i, hi, e1⟩, ⟨j, hj, e2⟩⟩ := hLo_ex (A := A) (w := w) hA k (by omega)
    simp only [hLoTo, hHiTo]
    refine ⟨?_, ?_⟩
    · by_cases h : hLoTo A w k ≤ G (A.getD k []) w
      · exact ⟨i, hi, by omega⟩
      · exact ⟨k, by omega, by omega⟩
    · by_cases h : G (A.getD k []) (10 + w) ≤ hHiTo A w k
      · exact ⟨j, hj, by omega⟩
      · exact ⟨k, by omega, by omega⟩
theorem gives_in {s : Sp} (he : toldE s 0 = 0) {k : Nat} (hk : k < s.weeks.toNat) : 0 ≤ givesLo s k ∧ givesLo s k ≤ givesHi s k ∧ givesHi s k ≤ s.most := by
  obtain ⟨e1, e2⟩ := gives_at he hk
  have hA : 0 < (toldA s 0).length := by rw [told_lens]; exact toldL_pos he
  obtain ⟨i, hi, h1⟩ := (hLo_ex (w := k) hA (toldA s 0).length (Nat.le_refl _)).1
  obtain ⟨j, hj, h2⟩ := (hLo_ex (w := k) hA (toldA s 0).length (Nat.le_refl _)).2
  have h3 := (hLo_le (A := toldA s 0) (w := k) (toldA s 0).length).1 j hj
  have a := toldA_nonneg he hi hk
  have b := toldA_nonneg he hj hk
  rw [e1, e2, hLo, hHi]
  omega
end Go.S

/- Weeks, truths, water of a supply. Nothing of Go stands here. -/
namespace Go.T
open Go.S
theorem longTo_le {u : Su} : ∀ {k : Nat}, longTo u k ≤ 10 ∧ ∀ i, i < k → longTo u k ≤ (u.founts.getD i default).sp.weeks
  | 0 => ⟨Int.le_refl _, fun i hi => by omega⟩
  | k + 1 => by
    obtain ⟨h1, h2⟩ := longTo_le (u := u) (k := k)
    refine ⟨by simp only [longTo]; omega, fun i hi => ?_⟩
    simp only [longTo]
    by_cases e : i = k
    · subst e; omega
    · have := h2 i (by omega); omega
theorem longTo_ex {u : Su} : ∀ {k : Nat}, longTo u k = 10 ∨ ∃ i, i < k ∧ longTo u k = (u.founts.getD i default).sp.weeks
  | 0 => .inl rfl
  | k + 1 => by
    simp only [longTo]
    by_cases h : longTo u k ≤ (u.founts.getD k default).sp.weeks
    · rw [Int.min_eq_left h]
      exact (longTo_ex (u := u) (k := k)).imp id fun ⟨i, hi, e⟩ => ⟨i, by omega, e⟩
    · exact .inr ⟨k, by omega, by omega⟩
theorem SuP.spring {u : Su} (h : SuP u) {i : Nat} (hi : i < u.founts.length) : SpP (u.founts.getD i default).sp := (h.2.1 i hi).2
theorem SuP.long {u : Su} (h : SuP u) : 1 ≤ long u ∧ long u ≤ 10 := by
  refine ⟨?_, longTo_le.1⟩
  rcases longTo_ex (u := u) (k := u.founts.length) with e | ⟨i, hi, e⟩
  · unfold Go.T.long; omega
  · have := (h.spring hi).1; unfold HeadP at this; unfold Go.T.long; omega
abbrev wkF (u : Su) : Nat → Int := fun i => (u.founts.getD i default).sp.weeks
theorem SuP.first {u : Su} (h : SuP u) : wkF u (amin (wkF u) (u.founts.length - 1)) = Go.T.long u := by
  have hn := h.1.1
  have h1 := amin_le (wkF u) (u.founts.length - 1)
  have h2 := amin_min (wkF u) (u.founts.length - 1)
  have h3 := (longTo_le (u := u) (k := u.founts.length)).2 _ (show amin (wkF u) (u.founts.length - 1) < u.founts.length by omega)
  have h4 : wkF u (amin (wkF u) (u.founts.length - 1)) ≤ 10 := by
    have := (h.spring (show amin (wkF u) (u.founts.length - 1) < u.founts.length by omega)).1; unfold HeadP at this; simp only [wkF]; omega
  unfold Go.T.long
  rcases longTo_ex (u := u) (k := u.founts.length) with e | ⟨i, hi, e⟩
  · simp only [wkF] at *; omega
  · have := h2 i (by omega); simp only [wkF] at *; omega
theorem hasF_pos {u : Su} (h : FountsP u) {id : Int} (hf : HasF u id) : 1 ≤ id := by
  obtain ⟨x, hx, rfl⟩ := hf
  obtain ⟨k, hk, rfl⟩ := List.getElem_of_mem hx
  have h1 := (h k hk).1.1
  have h2 := lastF_pos h k (by omega)
  rw [List.getD_eq_getElem?_getD, List.getElem?_eq_getElem hk] at h1
  simp only [Option.getD_some] at h1
  omega
theorem lastD_at {l : List Int} {j : Nat} (h0 : 0 < j) : lastD l j = l.getD (j - 1) 0 := by
  cases j with
  | zero => omega
  | succ j => rfl
theorem drP_of {u : Su} {l : List Int} (h : FountsP u) (hl : ∀ i, i < l.length → HasF u (l.getD i 0) ∧ (0 < i → l.getD (i - 1) 0 < l.getD i 0)) : DrP u l := by
  intro i hi
  obtain ⟨h1, h2⟩ := hl i hi
  refine ⟨?_, h1⟩
  cases i with
  | zero => have := hasF_pos h h1; simp only [lastD]; omega
  | succ i => exact h2 (by omega)
/-- A supply has a truth. -/
def TrueS (u : Su) : Prop := ∀ i, i < u.founts.length → TrueP (u.founts.getD i default).sp
instance (u : Su) : Decidable (TrueS u) := by unfold TrueS; infer_instance
/-- What the fountains give. -/
def waterL (u : Su) (week : Int) (best : Bool) : List Int := u.founts.map fun x => if best then givesHi x.sp week else givesLo x.sp week
theorem waterL_len (u : Su) (week : Int) (best : Bool) : (waterL u week best).length = u.founts.length := by simp [waterL]
theorem waterL_at {u : Su} {week : Int} {best : Bool} {k : Nat} (hk : k < u.founts.length) : (waterL u week best).getD k 0 = if best then givesHi (u.founts.getD k default).sp week else givesLo (u.founts.getD k default).sp week := by
  simp [waterL, List.getD_eq_getElem?_getD, hk]
theorem told_at {u : Su} (h : SuP u) {week : Int} (hw : Wi week 0 (Go.T.long u - 1)) {k : Nat} (hk : k < u.founts.length) :
    toldE (u.founts.getD k default).sp week = if TrueP (u.founts.getD k default).sp then 0 else 8 := by
  have h1 := h.spring hk
  have h2 := (longTo_le (u := u) (k := u.founts.length)).2 k hk
  have h3 : Wi week 0 ((u.founts.getD k default).sp.weeks - 1) := by unfold Go.T.long at hw; exact ⟨hw.1, by omega⟩
  by_cases ht : TrueP (u.founts.getD k default).sp
  · rw [if_pos ht]; exact toldE_ok h1 h3 ht
  · rw [if_neg ht]; exact toldE_none h1 h3 (Decidable.not_not.1 ht)
theorem toldE0 {s : Sp} {week : Int} (h : toldE s week = 0) : toldE s 0 = 0 := by
  obtain ⟨h1, h2, h3⟩ := toldE_valid h
  exact toldE_ok h1 (by have := h1.1; unfold HeadP at this; exact ⟨by omega, by omega⟩) h3
/-- What is given is from 0 to 100. -/
theorem water_in {u : Su} (h : SuP u) (ht : TrueS u) {week : Int} (hw : Wi week 0 (Go.T.long u - 1)) (best : Bool) (k : Nat) : 0 ≤ (waterL u week best).getD k 0 ∧ (waterL u week best).getD k 0 ≤ 100 := by
  by_cases hk : k < u.founts.length
  · rw [waterL_at hk]
    have e := told_at h hw hk
    rw [if_pos (ht k hk)] at e
    obtain ⟨h1, h2, _⟩ := toldE_valid e
    have h3 := gives_in (toldE0 e) (k := week.toNat) (by omega)
    have h4 := h1.1; unfold HeadP at h4
    rw [show ((week.toNat : Nat) : Int) = week by omega] at h3
    split <;> omega
  · rw [List.getD_eq_getElem?_getD, List.getElem?_eq_none (by rw [waterL_len]; omega)]; simp
/-- Water is asked by index alone. -/
theorem thr_congr {u : Su} {b : Nat} {w w' : List Int} (h : ∀ k, w.getD k 0 = w'.getD k 0) : thr u b w = thr u b w' := by
  unfold thr
  generalize u.founts.length = n
  induction n with
  | zero => rfl
  | succ n ih => simp only [thrTo]; rw [ih, h n]
theorem CanP.congr {u : Su} {w w' l : List Int} (h : ∀ k, w.getD k 0 = w'.getD k 0) : CanP u w l ↔ CanP u w' l := by
  unfold CanP; constructor
  · intro hc b hb; rw [← thr_congr h]; exact hc b hb
  · intro hc b hb; rw [thr_congr h]; exact hc b hb
/-- So much water as there can be fountains. -/
def pad4 (l : List Int) : List Int := l ++ List.replicate (4 - l.length) 0
theorem pad4_len {l : List Int} (h : l.length ≤ 4) : (pad4 l).length = 4 := by simp [pad4]; omega
theorem pad4_at (l : List Int) (k : Nat) : (pad4 l).getD k 0 = l.getD k 0 := by
  unfold pad4
  rw [List.getD_eq_getElem?_getD, List.getD_eq_getElem?_getD]
  by_cases h : k < l.length
  · rw [List.getElem?_append_left h]
  · rw [List.getElem?_append_right (by omega), List.getElem?_eq_none (l := l) (by omega), List.getElem?_replicate]
    split <;> rfl
/-- The first k of them, the rest 0. -/
def padTo (l : List Int) (k : Nat) : List Int := l.take k ++ List.replicate (4 - k) 0
theorem padTo_len {l : List Int} {k : Nat} (hk : k ≤ l.length) (h : l.length ≤ 4) : (padTo l k).length = 4 := by simp [padTo]; omega
theorem take_snocI {l : List Int} {k : Nat} (h : k < l.length) : l.take (k + 1) = l.take k ++ [l.getD k 0] := by
  rw [List.take_add_one, List.getElem?_eq_getElem h, List.getD_eq_getElem?_getD, List.getElem?_eq_getElem h]; simp
theorem padTo_set {l : List Int} {k : Nat} (hk : k < l.length) (h : l.length ≤ 4) : (padTo l k).set k (l.getD k 0) = padTo l (k + 1) := by
  unfold padTo
  have hl : (l.take k).length = k := by simp; omega
  rw [List.set_append_right _ _ (by omega), hl, Nat.sub_self]
  have e : 4 - k = (4 - (k + 1)) + 1 := by omega
  rw [e, List.replicate_succ, List.set_cons_zero, take_snocI hk, List.append_assoc]; rfl
theorem padTo_all (l : List Int) : padTo l l.length = pad4 l := by simp [padTo, pad4]
theorem padTo_all_w (u : Su) (week : Int) (best : Bool) : padTo (waterL u week best) u.founts.length = pad4 (waterL u week best) := by
  have := padTo_all (waterL u week best); rwa [waterL_len] at this
theorem needs_len (u : Su) (best : Bool) : (needs u best).length = u.streets.length := by simp [needs]
theorem needs_at {u : Su} {best : Bool} {k : Nat} (hk : k < u.streets.length) : (needs u best).getD k 0 = if best then (u.streets.getD k default).n0 else (u.streets.getD k default).n1 := by
  simp [needs, List.getD_eq_getElem?_getD, hk]
theorem leasts_len (u : Su) : (leasts u).length = u.streets.length := by simp [leasts]
theorem leasts_at {u : Su} {k : Nat} (hk : k < u.streets.length) : (leasts u).getD k 0 = (u.streets.getD k default).least := by
  simp [leasts, List.getD_eq_getElem?_getD, hk]
theorem leasts_in {u : Su} (h : SuP u) (k : Nat) : 0 ≤ (leasts u).getD k 0 ∧ (leasts u).getD k 0 ≤ 100 := by
  by_cases hk : k < u.streets.length
  · rw [leasts_at hk]
    have h1 := (h.2.2 k hk).2.1
    have h2 := (h.2.2 k hk).2.2.1
    omega
  · rw [List.getD_eq_getElem?_getD, List.getElem?_eq_none (by rw [leasts_len]; omega)]; simp
/-- The errors of a supply, of a week, of what else is asked, and that there is no truth. -/
def askT (u : Su) (week : Int) (p : Prop) [Decidable p] (e : Int) : Int := if ¬SuP u then 90 else if ¬Wi week 0 (Go.T.long u - 1) then 91 else if ¬p then e else if TrueS u then 0 else 8
theorem askT_ok {u : Su} {week : Int} {p : Prop} [Decidable p] {e : Int} (he : ¬p → e ≠ 0) (h : askT u week p e = 0) : SuP u ∧ Wi week 0 (Go.T.long u - 1) ∧ p ∧ TrueS u := by
  unfold askT at h
  by_cases h1 : SuP u
  · rw [if_neg (Classical.not_not.2 h1)] at h
    by_cases h2 : Wi week 0 (Go.T.long u - 1)
    · rw [if_neg (Classical.not_not.2 h2)] at h
      by_cases h3 : p
      · rw [if_neg (Classical.not_not.2 h3)] at h
        by_cases h4 : TrueS u
        · exact ⟨h1, h2, h3, h4⟩
        · rw [if_neg h4] at h; omega
      · rw [if_pos h3] at h; exact absurd h (he h3)
    · rw [if_pos h2] at h; omega
  · rw [if_pos h1] at h; omega
end Go.T

/- A supply at work in memory; what is handed back of it. -/
namespace Go.T
open Go Go.X Go.S Go.RowKit
/-- A supply at work: its two slices, the water, what is needed. -/
def welC (a b : Value) (W : List Int) (nv : Value) : List Value := a :: b :: (ints W ++ [nv])
section
variable {a b nv : Value} {W : List Int}
theorem welC_len (hW : W.length = 4) : (welC a b W nv).length = 7 := by simp [welC, ints, hW]
theorem welC_one (ha : isOne a = true) (hb : isOne b = true) (hn : isOne nv = true) : (welC a b W nv).all isOne = true := by
  simp [welC, ints, ha, hb, hn]; intro x _; rfl
theorem welC_take (hW : W.length = 4) : takeAt (welC a b W nv) 0 7 = some (welC a b W nv) := takeAt_full (welC_len hW)
theorem welC_at {i off : Nat} (ho : off = 2 + i) (hi : i < W.length) : (welC a b W nv)[off]? = some (.int .i64 (W.getD i 0)) := by
  subst ho
  rw [show 2 + i = i + 1 + 1 by omega]
  simp only [welC, List.getElem?_cons_succ]
  rw [List.getElem?_append_left (by simpa [ints] using hi)]
  simp [ints, hi]
theorem welC_need (hW : W.length = 4) : (welC a b W nv)[6]? = some nv := by
  simp only [welC, List.getElem?_cons_succ]
  rw [List.getElem?_append_right (by simp [ints, hW])]
  simp [ints, hW]
theorem welC_put {i off : Nat} {x : Int} (ho : off = 2 + i) (hi : i < W.length) : putAt (welC a b W nv) off [.int .i64 x] = some (welC a b (W.set i x) nv) := by
  rw [putAt_one _ (by subst ho; simp [welC, ints]; omega)]
  subst ho
  rw [show 2 + i = i + 1 + 1 by omega]
  simp only [welC, List.set_cons_succ, Option.some.injEq]
  rw [List.set_append_left _ _ (by simpa [ints] using hi)]
  simp [ints, List.map_set]
theorem welC_putN {u : Value} (hW : W.length = 4) : putAt (welC a b W nv) 6 [u] = some (welC a b W u) := by
  rw [putAt_one _ (by simp [welC, ints, hW])]
  simp only [welC, List.set_cons_succ, Option.some.injEq]
  rw [List.set_append_right _ _ (by simp [ints, hW])]
  simp [ints, hW]
end
abbrev suW (u : Su) (fo so : Option Addr) (fc sc : Nat) (W : List Int) (nv : Value) : List Value := welC (.slice fo u.founts.length fc) (.slice so u.streets.length sc) W nv
/-- A supply at work, or an error. -/
structure DrR (u : Su) (fo so : Option Addr) (fc sc : Nat) (week : Int) (best : Bool) (e : Int) (v : Value) (own : X.Own) : Prop where
  ex : ∃ (C : List Value) (r : Sl) (N : List Int), C.length = 7 ∧ C.all isOne = true ∧ r.Ok N.length 1 (ints N) ∧ v = .tuple ⟨[.agg ⟨C⟩, .int .i64 e]⟩ ∧ own = [r.ent 3 (ints N)] ∧
    (e = 0 → C = suW u fo so fc sc (pad4 (waterL u week best)) (r.val N.length) ∧ N = needs u best)
theorem DrR.errs {u : Su} {fo so : Option Addr} {fc sc : Nat} {week : Int} {best : Bool} {e e' : Int} {C : List Value} (hC : C.length = 7) (h1 : C.all isOne = true) (he : e' = e) (h0 : e' ≠ 0) :
    DrR u fo so fc sc week best e (.tuple ⟨[.agg ⟨C⟩, .int .i64 e']⟩) [Sl.nil.ent 3 []] := by
  subst he
  exact ⟨C, Sl.nil, [], hC, h1, Sl.Ok.none 1, rfl, rfl, fun h => absurd h h0⟩
theorem onesSrc {w : World} {l : List Int} {ao : Option Addr} (h : RowsAt w ao 1 (ones l)) (own : X.Own) : Src w own ao l.length (ints l) := by
  have := h.src (by omega) (by intro q hq; obtain ⟨x, _, rfl⟩ := List.mem_map.1 hq; rfl) own
  rwa [ones_flatten, show (ones l).length = l.length from by simp [ones]] at this
/-- A list of numbers handed back. -/
structure IsI (l : List Int) (v : Value) (own : X.Own) : Prop where
  ex : ∃ r : Sl, r.Ok l.length 1 (ints l) ∧ v = r.val l.length ∧ own = [r.ent 3 (ints l)]
end Go.T

/- Supplies in new memory. -/
namespace Go.T
open Go Go.X Go.S Go.RowKit
theorem srcLast {w0 : World} {own : X.Own} {b m : Nat} {l : List Value} {E : TypeId} {fz : Nat × Nat} : Src w0 (own ++ [(b, .cells ⟨l⟩ E fz)]) (some ⟨b, 0, none⟩) m l :=
  .inr ⟨b, 0, rfl, Mem.own (i := own.length) (show (own ++ [(b, .cells ⟨l⟩ E fz)])[own.length]? = some (b, .cells ⟨l⟩ E fz) by simp) (takeAt_full rfl)⟩
def upd {α : Type} (f : Nat → α) (k : Nat) (a : α) : Nat → α := fun i => if i = k then a else f i
theorem upd_self {α : Type} (f : Nat → α) (k : Nat) (a : α) : upd f k a k = a := if_pos rfl
theorem upd_ne {α : Type} (f : Nat → α) {k i : Nat} (a : α) (h : i ≠ k) : upd f k a i = f i := if_neg h
def foRowsN (u : Su) (fa : Nat → FA) (n : Nat) : List (List Value) := (List.range n).map fun i => foC (u.founts.getD i default) (fa i)
def srRowsN (u : Su) (sa : Nat → DA) (n : Nat) : List (List Value) := (List.range n).map fun i => srC (u.streets.getD i default) (sa i)
theorem foRowsN_succ (u : Su) (fa : Nat → FA) (k : Nat) (a : FA) : (foRowsN u (upd fa k a) (k + 1)).flatten = (foRowsN u fa k).flatten ++ foC (u.founts.getD k default) a := by
  unfold foRowsN
  rw [List.range_succ, List.map_append, List.flatten_append]
  congr 1
  · congr 1
    refine List.map_congr_left fun i hi => ?_
    rw [upd_ne _ _ (by have := List.mem_range.1 hi; omega)]
  · simp [upd_self]
theorem srRowsN_succ (u : Su) (sa : Nat → DA) (k : Nat) (a : DA) : (srRowsN u (upd sa k a) (k + 1)).flatten = (srRowsN u sa k).flatten ++ srC (u.streets.getD k default) a := by
  unfold srRowsN
  rw [List.range_succ, List.map_append, List.flatten_append]
  congr 1
  · congr 1
    refine List.map_congr_left fun i hi => ?_
    rw [upd_ne _ _ (by have := List.mem_range.1 hi; omega)]
  · simp [upd_self]
theorem srRowsN_len (u : Su) (sa : Nat → DA) (n : Nat) : (srRowsN u sa n).flatten.length = n * 5 := by
  rw [length_flatten (k := 5) (by intro r hr; obtain ⟨i, _, rfl⟩ := List.mem_map.1 hr; rfl)]; simp [srRowsN]
theorem Sel.keepM {A M B N own : X.Own} (h : own = A ++ (M ++ (B ++ N))) : Sel (A ++ B) own := by
  subst h
  refine Sel.sub ((List.Sublist.refl A).append ?_)
  exact (List.sublist_append_left B N).trans (List.sublist_append_right M (B ++ N))
theorem Sel.keepM2 {A M B N T own : X.Own} (h : own = A ++ (M ++ (B ++ (N ++ T)))) : Sel (A ++ (B ++ T)) own := by
  subst h
  refine Sel.sub ((List.Sublist.refl A).append ?_)
  refine List.Sublist.trans ?_ (List.sublist_append_right M _)
  exact (List.Sublist.refl B).append (List.sublist_append_right N T)
/-- What the blocks B hold of springs, of what streets draw from. -/
def SpHas (B : X.Own) (u : Su) (fa : Nat → FA) (n : Nat) : Prop := ∀ i, i < n → Own.Has B fun w => SpAt w (u.founts.getD i default).sp (fa i).bo (fa i).ro
def DrHas (B : X.Own) (u : Su) (sa : Nat → DA) (n : Nat) : Prop := ∀ i, i < n → Own.Has B fun w => RowsAt w (sa i).1 1 (ones (u.streets.getD i default).draws)
theorem SpHas.of {B B' : X.Own} {u : Su} {fa : Nat → FA} {n : Nat} (h : SpHas B u fa n) (hs : Sel B B') : SpHas B' u fa n := fun i hi => (h i hi).of hs
theorem DrHas.of {B B' : X.Own} {u : Su} {sa : Nat → DA} {n : Nat} (h : DrHas B u sa n) (hs : Sel B B') : DrHas B' u sa n := fun i hi => (h i hi).of hs
theorem SpHas.add {B : X.Own} {u : Su} {fa : Nat → FA} {k : Nat} (h : SpHas B u fa k) {r1 r2 : Sl} (o1 : r1.Ok (u.founts.getD k default).sp.book.length 5 (bookC (u.founts.getD k default).sp)) (o2 : r2.Ok (u.founts.getD k default).sp.reads.length 5 (readsC (u.founts.getD k default).sp)) :
    SpHas (B ++ [r1.ent 129 (bookC (u.founts.getD k default).sp), r2.ent 131 (readsC (u.founts.getD k default).sp)]) u (upd fa k ⟨r1.addr, r2.addr, r1.cap, r2.cap⟩) (k + 1) := by
  intro i hi
  by_cases e : i = k
  · subst e; rw [upd_self]
    intro w0 w hI
    exact spAtOwn (hI.weaken (List.sublist_append_right B _)) o1 o2 (i := 0) (j := 1) rfl rfl
  · rw [upd_ne _ _ e]
    exact (h i (by omega)).of (Sel.pre B _)
theorem DrHas.add {B : X.Own} {u : Su} {sa : Nat → DA} {k : Nat} (h : DrHas B u sa k) {r : Sl} (o : r.Ok (u.streets.getD k default).draws.length 1 (ints (u.streets.getD k default).draws)) :
    DrHas ([r.ent 3 (ints (u.streets.getD k default).draws)] ++ B) u (upd sa k (r.addr, r.cap)) (k + 1) := by
  intro i hi
  by_cases e : i = k
  · subst e; rw [upd_self]
    intro w0 w hI
    exact slOnes (hI.weaken (List.sublist_append_left _ B)) o (i := 0) rfl
  · rw [upd_ne _ _ e]
    exact (h i (by omega)).of (Sel.sub (List.sublist_append_right _ B))
/-- A supply in new memory. -/
structure TwR (u : Su) (v : Value) (own : X.Own) : Prop where
  ex : ∃ (q1 q2 : Sl) (fa : Nat → FA) (sa : Nat → DA), v = .agg ⟨[q1.val u.founts.length, q2.val u.streets.length]⟩ ∧ Own.Has own fun w => SuAt w u q1.addr q2.addr fa sa
/-! ### supplies that are the same -/
def Fo.key (x : Fo) : Int × Sp := (x.id, x.sp)
theorem su_ext {u v : Su} (h1 : u.founts.length = v.founts.length) (h2 : u.streets.length = v.streets.length) (h3 : ∀ i, i < u.founts.length → (u.founts.getD i default).id = (v.founts.getD i default).id ∧ (u.founts.getD i default).sp = (v.founts.getD i default).sp)
    (h4 : ∀ i, i < u.streets.length → u.streets.getD i default = v.streets.getD i default) : u = v := by
  obtain ⟨uf, us⟩ := u
  obtain ⟨vf, vs⟩ := v
  simp only at *
  congr 1
  · refine list_extD h1 fun i hi => ?_
    have := h3 i hi
    cases hx : uf.getD i default; cases hy : vf.getD i default
    rw [hx, hy] at this
    simp only at this
    rw [this.1, this.2]
  · exact list_extD h2 h4
theorem sr_ext {x y : Sr} (h1 : x.id = y.id) (h2 : [x.n0, x.n1] = [y.n0, y.n1]) (h3 : x.least = y.least) (h4 : x.draws = y.draws) : x = y := by
  cases x; cases y
  simp at *
  exact ⟨h1, h2.1, h2.2, h3, h4⟩
end Go.T

/- Sets of streets as lists of numbers; sums over them. Nothing of Go stands here. -/
namespace Go.T
open Go.S
/-- The streets of a set, of the first k. -/
def memb (b : Nat) : Nat → List Int
  | 0 => []
  | k + 1 => if hasI b k then memb b k ++ [(k : Int)] else memb b k
theorem memb_in (b : Nat) : ∀ k, ∀ x ∈ memb b k, 0 ≤ x ∧ x < (k : Int)
  | 0, x, h => by simp [memb] at h
  | k + 1, x, h => by
    have ih := memb_in b k x
    simp only [memb] at h
    split at h
    · rcases List.mem_append.1 h with h | h
      · have := ih h; omega
      · simp at h; omega
    · have := ih h; omega
theorem memb_len (b : Nat) : ∀ k, (memb b k).length ≤ k
  | 0 => Nat.le_refl _
  | k + 1 => by
    have ih := memb_len b k
    simp only [memb]; split
    · simp; omega
    · omega
/-- The sum of the numbers at the first k of some places. -/
def sumIx (I L : List Int) : Nat → Int
  | 0 => 0
  | k + 1 => sumIx I L k + L.getD (I.getD k 0).toNat 0
theorem sumIx_app (I J L : List Int) : ∀ k, k ≤ I.length → sumIx (I ++ J) L k = sumIx I L k
  | 0, _ => rfl
  | k + 1, h => by
    have ih := sumIx_app I J L k (by omega)
    simp only [sumIx]; rw [ih]
    congr 2
    rw [List.getD_eq_getElem?_getD, List.getElem?_append_left (by omega), ← List.getD_eq_getElem?_getD]
theorem sumIx_memb (b : Nat) (L : List Int) : ∀ k, sumIx (memb b k) L (memb b k).length = sumTo b L k
  | 0 => rfl
  | k + 1 => by
    have ih := sumIx_memb b L k
    simp only [memb, sumTo]
    split
    · rw [List.length_append, List.length_singleton]
      simp only [sumIx]
      rw [sumIx_app _ _ _ _ (Nat.le_refl _), ih]
      simp [List.getD_eq_getElem?_getD]
    · exact ih
/-- Numbers of which sums do not grow too large. -/
def Sm (l : List Int) : Prop := ∀ k : Nat, -1000000 ≤ l.getD k 0 ∧ l.getD k 0 ≤ 1000000
theorem sumIx_in {I L : List Int} (h : Sm L) : ∀ k : Nat, -(1000000 * (k : Int)) ≤ sumIx I L k ∧ sumIx I L k ≤ 1000000 * (k : Int)
  | 0 => by simp [sumIx]
  | k + 1 => by
    have ih := sumIx_in (I := I) h k
    have h1 := h (I.getD k 0).toNat
    simp only [sumIx]; omega
theorem sumTo_in {b : Nat} {L : List Int} (h : Sm L) : ∀ k : Nat, -(1000000 * (k : Int)) ≤ sumTo b L k ∧ sumTo b L k ≤ 1000000 * (k : Int)
  | 0 => by simp [sumTo]
  | k + 1 => by
    have ih := sumTo_in (b := b) h k
    have h1 := h k
    simp only [sumTo]; split <;> omega
theorem thrTo_in {u : Su} {b : Nat} {W : List Int} (h : Sm W) : ∀ k : Nat, -(1000000 * (k : Int)) ≤ thrTo u b W k ∧ thrTo u b W k ≤ 1000000 * (k : Int)
  | 0 => by simp [thrTo]
  | k + 1 => by
    have ih := thrTo_in (u := u) (b := b) h k
    have h1 := h k
    simp only [thrTo]; split <;> omega
theorem Sm.of {l : List Int} (h : ∀ k, 0 ≤ l.getD k 0 ∧ l.getD k 0 ≤ 100) : Sm l := fun k => by have := h k; omega
theorem sumB_memb {u : Su} {b : Nat} {L : List Int} (hL : L.length = u.streets.length) : sumIx (memb b u.streets.length) L (memb b u.streets.length).length = sumB b L := by
  rw [sumIx_memb, sumB, hL]
/-- What is open behind one street more. -/
theorem opens_add {u : Su} {b i : Nat} {K K' : List Int} (hK : ∀ id, id ∈ K ↔ opnB u b id i) (hb : hasI b i) (hK' : ∀ id, id ∈ K' ↔ id ∈ K ∨ id ∈ (u.streets.getD i default).draws) (id : Int) : id ∈ K' ↔ opnB u b id (i + 1) := by
  rw [hK', hK]; simp only [opnB]
  exact ⟨fun h => h.elim .inl fun h => .inr ⟨hb, h⟩, fun h => h.elim .inl fun h => .inr h.2⟩
theorem opens_same {u : Su} {b i : Nat} {K : List Int} (hK : ∀ id, id ∈ K ↔ opnB u b id i) (hb : ¬hasI b i) (id : Int) : id ∈ K ↔ opnB u b id (i + 1) := by
  rw [hK]; simp only [opnB]
  exact ⟨.inl, fun h => h.elim (fun h => h) fun h => absurd h.1 hb⟩
theorem mem_take_snoc {l : List Int} {j : Nat} (hj : j < l.length) {x : Int} : x ∈ l.take (j + 1) ↔ x ∈ l.take j ∨ x = l.getD j 0 := by
  rw [take_snocI hj, List.mem_append, List.mem_singleton]
theorem canP_iff {u : Su} {W L : List Int} (hL : L.length = u.streets.length) : CanP u W L ↔ ∀ c, c < 2 ^ u.streets.length → sumB c L ≤ thr u c W := by unfold CanP; rw [hL]
end Go.T

/- What is known; the first week without. Nothing of Go stands here. -/
namespace Go.T
open Go.S Go.X
/-- What is known of something that is so at worst, and at best. -/
def knT (e : Int) (pw pb : Prop) [Decidable pw] [Decidable pb] : Int := if e ≠ 0 then 0 else if pw then 2 else if pb then 1 else 0
/-- There is enough in a week. -/
def EnoP (u : Su) (week : Int) (best : Bool) : Prop := CanP u (waterL u week best) (needs u best)
instance (u : Su) (week : Int) (best : Bool) : Decidable (EnoP u week best) := by unfold EnoP; infer_instance
/-- Each can have its least. -/
def LeaP (u : Su) (week : Int) (best : Bool) : Prop := CanP u (waterL u week best) (leasts u)
instance (u : Su) (week : Int) (best : Bool) : Decidable (LeaP u week best) := by unfold LeaP; infer_instance
/-- The first week in which there is not enough, -1 if there is none. -/
def wiI (u : Su) (best : Bool) : Int := idxF (fun i => ¬EnoP u (i : Int) best) (Go.T.long u).toNat
def wiE (u : Su) (best : Bool) : Int := if ¬SuP u then 90 else if ¬TrueS u then 8 else if wiI u best < 0 then 6 else 0
def wiV (u : Su) (best : Bool) : Int := if wiE u best = 0 then wiI u best else 0
theorem canP_pad {u : Su} {l m : List Int} : CanP u (pad4 l) m ↔ CanP u l m := CanP.congr (pad4_at l)
theorem leasts_sm {u : Su} (h : SuP u) : Sm (leasts u) := Sm.of (leasts_in h)
theorem water_sm {u : Su} (h : SuP u) (ht : TrueS u) {week : Int} (hw : Wi week 0 (Go.T.long u - 1)) (best : Bool) : Sm (waterL u week best) := Sm.of (water_in h ht hw best)
theorem pad_sm {l : List Int} (h : Sm l) : Sm (pad4 l) := fun k => by rw [pad4_at]; exact h k
end Go.T

/- The most that streets can get; which pint more helps; how many are enough. Nothing of Go stands here. -/
namespace Go.T
open Go.S Go.X
def totTo (l : List Int) : Nat → Int
  | 0 => 0
  | k + 1 => totTo l k + l.getD k 0
/-- The sum of all. -/
def totL (l : List Int) : Int := totTo l l.length
def flowTo (u : Su) (W L : List Int) : Nat → Int
  | 0 => totL L
  | k + 1 => min (flowTo u W L k) (totL L - sumB k L + thr u k W)
/-- The most that streets can get together. -/
def flow (u : Su) (W L : List Int) : Int := flowTo u W L (2 ^ L.length)
def moLo (u : Su) (week : Int) : Int := if askT u week True 0 = 0 then flow u (waterL u week false) (needs u true) else 0
def moHi (u : Su) (week : Int) : Int := if askT u week True 0 = 0 then flow u (waterL u week true) (needs u false) else 0
/-! ### which pint more helps -/
def helTo (u : Su) (W L : List Int) : Nat → List Int
  | 0 => []
  | k + 1 => if flow u W L < flow u (W.set k (W.getD k 0 + 1)) L then helTo u W L k ++ [(u.founts.getD k default).id] else helTo u W L k
def helL (u : Su) (week : Int) : List Int := if askT u week True 0 = 0 then helTo u (waterL u week false) (needs u false) u.founts.length else []
theorem set_sm {l : List Int} (h : ∀ k : Nat, 0 ≤ l.getD k 0 ∧ l.getD k 0 ≤ 100) {k : Nat} {x : Int} (hx : 0 ≤ x ∧ x ≤ 1000) : Sm (l.set k x) := fun j => by
  by_cases hk : k < l.length
  · by_cases e : j = k
    · subst e; rw [getD_set_self _ hk]; omega
    · rw [getD_set_ne _ e]; have := h j; omega
  · rw [List.set_eq_of_length_le (by omega)]; have := h j; omega
/-! ### how many pints more are enough -/
/-- Each set that lacks water can draw from there. -/
def MoOk (u : Su) (W L : List Int) (id : Int) : Prop := ∀ b, b < 2 ^ L.length → lack u W L b ≤ 0 ∨ opnB u b id u.streets.length
instance (u : Su) (W L : List Int) (id : Int) : Decidable (MoOk u W L id) := by unfold MoOk; infer_instance
def moE (u : Su) (week id : Int) : Int := if askT u week (0 ≤ fountI u id) 93 ≠ 0 then askT u week (0 ≤ fountI u id) 93 else if MoOk u (waterL u week false) (needs u false) id then 0 else 6
def moV (u : Su) (week id : Int) : Int := if moE u week id = 0 then maxL u (waterL u week false) (needs u false) (2 ^ u.streets.length) else 0
end Go.T

/- The fair sharing. Nothing of Go stands here. -/
namespace Go.T
open Go.S
def oI : Option Nat → Int
  | none => -1
  | some a => a
theorem poorTo_lt {p : Nat → Prop} [DecidablePred p] {l : List Int} {k a : Nat} (h : poorTo p l k = some a) : a < k := (((poorTo_spec p l k).2 a).1 h).1
theorem oI_lt {p : Nat → Prop} [DecidablePred p] {l : List Int} {k : Nat} : oI (poorTo p l k) < (k : Int) ∧ -1 ≤ oI (poorTo p l k) := by
  cases h : poorTo p l k with
  | none => simp only [oI]; omega
  | some a => have := poorTo_lt h; simp only [oI]; omega
theorem poorTo_succ {p : Nat → Prop} [DecidablePred p] {l : List Int} {k : Nat} {at_ : Int} (h : at_ = oI (poorTo p l k)) :
    oI (poorTo p l (k + 1)) = if p k ∧ (at_ < 0 ∨ l.getD k 0 < l.getD at_.toNat 0) then (k : Int) else at_ := by
  subst h
  simp only [poorTo]
  cases hq : poorTo p l k with
  | none =>
    by_cases hp : p k
    · simp only [if_pos hp]
      exact (if_pos (c := p k ∧ (oI none < 0 ∨ l.getD k 0 < l.getD (oI none).toNat 0)) ⟨hp, .inl (by decide)⟩).symm
    · simp only [if_neg hp]
      exact (if_neg (c := p k ∧ (oI none < 0 ∨ l.getD k 0 < l.getD (oI none).toNat 0)) (fun h => hp h.1)).symm
  | some a =>
    by_cases hp : p k ∧ l.getD k 0 < l.getD a 0
    · simp only [if_pos hp]
      exact (if_pos (c := p k ∧ (oI (some a) < 0 ∨ l.getD k 0 < l.getD (oI (some a)).toNat 0)) ⟨hp.1, .inr hp.2⟩).symm
    · simp only [if_neg hp]
      refine (if_neg (c := p k ∧ (oI (some a) < 0 ∨ l.getD k 0 < l.getD (oI (some a)).toNat 0)) ?_).symm
      rintro ⟨h1, h2 | h2⟩
      · simp only [oI] at h2; omega
      · exact hp ⟨h1, h2⟩
/-- The fair sharing, from a sharing on. -/
inductive FairR (u : Su) (W : List Int) : List Int → List Int → Prop
  | done {l : List Int} (h : poorTo (UpP u W l) l u.streets.length = none) : FairR u W l l
  | step {l r : List Int} {a : Nat} (h : poorTo (UpP u W l) l u.streets.length = some a) (k : FairR u W (l.set a (l.getD a 0 + 1)) r) : FairR u W l r
theorem FairR.det {u : Su} {W l r : List Int} (h : FairR u W l r) : ∀ {r' : List Int}, FairR u W l r' → r = r' := by
  induction h with
  | done h =>
    intro r' h'
    cases h' with
    | done => rfl
    | step h2 => rw [h] at h2; cases h2
  | step h k ih =>
    intro r' h'
    cases h' with
    | done h2 => rw [h] at h2; cases h2
    | step h2 k2 => rw [h] at h2; cases h2; exact ih k2
noncomputable def fairL (u : Su) (W l : List Int) : List Int := Classical.epsilon fun r => FairR u W l r
theorem FairR.eq {u : Su} {W l r : List Int} (h : FairR u W l r) : fairL u W l = r := (Classical.epsilon_spec (p := fun r => FairR u W l r) ⟨r, h⟩ : FairR u W l (fairL u W l)).det h
/-- What is fair from here on is fair from there on. -/
def RchP (u : Su) (W l0 l : List Int) : Prop := ∀ r, FairR u W l r → FairR u W l0 r
theorem RchP.refl (u : Su) (W l : List Int) : RchP u W l l := fun _ h => h
theorem RchP.step {u : Su} {W l0 l : List Int} {a : Nat} (h : RchP u W l0 l) (ha : poorTo (UpP u W l) l u.streets.length = some a) : RchP u W l0 (l.set a (l.getD a 0 + 1)) := fun r hr => h r (.step ha hr)
/-- How much more all could need. -/
def roomTo (u : Su) (l : List Int) : Nat → Nat
  | 0 => 0
  | k + 1 => roomTo u l k + ((u.streets.getD k default).n1 - l.getD k 0).toNat
theorem roomTo_ne {u : Su} {l : List Int} {a : Nat} {x : Int} : ∀ k, k ≤ a → roomTo u (l.set a x) k = roomTo u l k
  | 0, _ => rfl
  | k + 1, h => by simp only [roomTo]; rw [roomTo_ne k (by omega), getD_set_ne _ (by omega)]
theorem roomTo_set {u : Su} {l : List Int} {a : Nat} (hal : a < l.length) (h1 : l.getD a 0 + 1 ≤ (u.streets.getD a default).n1) : ∀ k, a < k → roomTo u (l.set a (l.getD a 0 + 1)) k + 1 = roomTo u l k
  | 0, h => by omega
  | k + 1, h => by
    simp only [roomTo]
    by_cases e : k = a
    · subst e; rw [roomTo_ne k (Nat.le_refl _), getD_set_self _ hal]; omega
    · rw [getD_set_ne _ e, ← roomTo_set hal h1 k (by omega)]; omega
/-- A sharing within what streets need. -/
structure InP (u : Su) (l : List Int) : Prop where
  len : l.length = u.streets.length
  in_ : ∀ i, i < u.streets.length → 0 ≤ l.getD i 0 ∧ l.getD i 0 ≤ (u.streets.getD i default).n1 ∧ (u.streets.getD i default).n1 ≤ 100
theorem InP.leasts {u : Su} (h : SuP u) : InP u (leasts u) := by
  refine ⟨leasts_len u, fun i hi => ?_⟩
  have h1 := (h.2.2 i hi).2.1
  have h2 := (h.2.2 i hi).2.2.1
  rw [leasts_at hi]; omega
theorem InP.up {u : Su} {l : List Int} (h : InP u l) {a : Nat} (ha : a < u.streets.length) (h1 : l.getD a 0 + 1 ≤ (u.streets.getD a default).n1) : InP u (l.set a (l.getD a 0 + 1)) := by
  refine ⟨by rw [List.length_set]; exact h.len, fun i hi => ?_⟩
  have := h.in_ i hi
  by_cases e : i = a
  · subst e; rw [getD_set_self _ (by rw [h.len]; exact hi)]; omega
  · rw [getD_set_ne _ e]; exact this
theorem InP.sm1 {u : Su} {l : List Int} (h : InP u l) {a : Nat} : Sm (l.set a (l.getD a 0 + 1)) := fun j => by
  by_cases ha : a < u.streets.length
  · by_cases e : j = a
    · subst e; rw [getD_set_self _ (by rw [h.len]; exact ha)]; have := h.in_ j ha; omega
    · rw [getD_set_ne _ e]
      by_cases hj : j < u.streets.length
      · have := h.in_ j hj; omega
      · rw [List.getD_eq_getElem?_getD, List.getElem?_eq_none (by rw [h.len]; omega)]; simp
  · rw [List.set_eq_of_length_le (by rw [h.len]; omega)]
    by_cases hj : j < u.streets.length
    · have := h.in_ j hj; omega
    · rw [List.getD_eq_getElem?_getD, List.getElem?_eq_none (by rw [h.len]; omega)]; simp
theorem set_back {l : List Int} {a : Nat} {x y : Int} (hy : y = l.getD a 0) : (l.set a x).set a y = l := by
  rw [List.set_set, hy]
  by_cases h : a < l.length
  · rw [List.getD_eq_getElem?_getD, List.getElem?_eq_getElem h]; simp
  · exact List.set_eq_of_length_le (by omega)
/-- Those that are open, of the program: none else can get more. -/
def OpP (u : Su) (W l : List Int) (K : List Int) : Prop := ∀ j, j < u.streets.length → UpP u W l j → (j : Int) ∈ K
theorem OpP.poor {u : Su} {W l K : List Int} (h : OpP u W l K) {a : Nat} (ha : poorTo (fun i => (i : Int) ∈ K) l u.streets.length = some a) (hu : UpP u W l a) : poorTo (UpP u W l) l u.streets.length = some a := by
  obtain ⟨h1, h2, h3, h4⟩ := ((poorTo_spec _ l u.streets.length).2 a).1 ha
  exact ((poorTo_spec _ l u.streets.length).2 a).2 ⟨h1, hu, fun j hj hp => h3 j hj (h j hj hp), fun j hj hp => h4 j hj (h j (by omega) hp)⟩
theorem OpP.none {u : Su} {W l K : List Int} (h : OpP u W l K) (ha : poorTo (fun i => (i : Int) ∈ K) l u.streets.length = none) : poorTo (UpP u W l) l u.streets.length = none :=
  (poorTo_spec _ l u.streets.length).1.2 fun j hj hp => (poorTo_spec _ l u.streets.length).1.1 ha j hj (h j hj hp)
theorem OpP.step {u : Su} {W l K : List Int} (h : OpP u W l K) (hl : l.length = u.streets.length) {a : Nat} : OpP u W (l.set a (l.getD a 0 + 1)) K := fun j hj hp => by
  refine h j hj (hp.mono (by omega) (by simp) fun i hi => ?_)
  rw [List.length_set] at hi
  by_cases e : i = a
  · subst e; rw [getD_set_self _ hi]; omega
  · rw [getD_set_ne _ e]; exact Int.le_refl _
theorem OpP.drop {u : Su} {W l K K' : List Int} (h : OpP u W l K) {a : Nat} (hu : ¬UpP u W l a) (hK : ∀ x, x ∈ K' ↔ x ≠ (a : Int) ∧ x ∈ K) : OpP u W l K' := fun j hj hp => (hK _).2 ⟨fun e => hu ((show j = a by omega) ▸ hp), h j hj hp⟩
/-! ### what Fair tells -/
def faE (u : Su) (week : Int) (best : Bool) : Int := if askT u week True 0 ≠ 0 then askT u week True 0 else if CanP u (waterL u week best) (leasts u) then 0 else 6
noncomputable def faL (u : Su) (week : Int) (best : Bool) : List Int := if faE u week best = 0 then fairL u (waterL u week best) (leasts u) else []
theorem UpP.congr {u : Su} {W W' l : List Int} (h : ∀ k, W.getD k 0 = W'.getD k 0) {i : Nat} : UpP u W l i ↔ UpP u W' l i := by unfold UpP; rw [CanP.congr h]
theorem poor_congr {u : Su} {W W' l : List Int} (h : ∀ k, W.getD k 0 = W'.getD k 0) : ∀ n, poorTo (UpP u W l) l n = poorTo (UpP u W' l) l n
  | 0 => rfl
  | n + 1 => by
    simp only [poorTo]; rw [poor_congr h n]
    have e := UpP.congr (u := u) (l := l) h (i := n)
    cases poorTo (UpP u W' l) l n <;> simp only [e]
theorem FairR.congr {u : Su} {W W' l r : List Int} (h : ∀ k, W.getD k 0 = W'.getD k 0) (hr : FairR u W l r) : FairR u W' l r := by
  induction hr with
  | done h1 => exact .done (by rw [← poor_congr h]; exact h1)
  | step h1 _ ih => exact .step (by rw [← poor_congr h]; exact h1) ih
theorem fair_some {u : Su} {week : Int} {best : Bool} {l : List Int} (he : askT u week True 0 = 0) (hc : CanP u (waterL u week best) (leasts u)) (h : FairR u (waterL u week best) (leasts u) l) : faE u week best = 0 ∧ faL u week best = l := by
  have e : faE u week best = 0 := by rw [faE, if_neg (fun h => h he), if_pos hc]
  exact ⟨e, by rw [faL, if_pos e, h.eq]⟩
theorem fair_none {u : Su} {week : Int} {best : Bool} (he : askT u week True 0 = 0) (hc : ¬CanP u (waterL u week best) (leasts u)) : faE u week best = 6 ∧ faL u week best = [] := by
  have e : faE u week best = 6 := by rw [faE, if_neg (fun h => h he), if_neg hc]
  exact ⟨e, by rw [faL, e]; rfl⟩
theorem fair_err {u : Su} {week : Int} {best : Bool} (he : askT u week True 0 ≠ 0) : faE u week best = askT u week True 0 ∧ faL u week best = [] := by
  have e : faE u week best = askT u week True 0 := if_pos he
  exact ⟨e, by rw [faL, e, if_neg he]⟩
end Go.T
