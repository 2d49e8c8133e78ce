/- Texts of the proof, merged: D2, D3, P4, P5, D4, P6, P7, P8, P9, P10, D5, P11, D6, T1, T2, T3, T4, T5, T6, TD1, Facts, KT1, S1, S2, S3, S4. -/
import Derived.Test.YtolcicaclflagaaDoorMTownProofs1
import Derived.Test.YtolcicaclflagaaDoorProg
import Derived.Test.YtolcicaclflagaaDoorCards
import Derived.Test.YtolcicaclflagaaDoorTie
import Derived.WalkKit
import Derived.ProofKit
import Derived.LaidMore
import Derived.LaidHandle
import Derived.LaidSub
import Derived.Stop.Joined
import Derived.Deep.DeepHandedRow
/- Lists that functions hand back. -/
namespace Go.S
open Go Go.X
def rowsI (A : List (List Int)) : List (List Value) := A.map ints
@[simp] theorem length_rowsI (A : List (List Int)) : (rowsI A).length = A.length := by simp [rowsI]
/-- Rains, and what they leave, handed back. -/
structure RnR (l : List Int) (A : List (List Int)) (v : Value) (own : X.Own) : Prop where
  ex : ∃ r1 r2 : Sl, r1.Ok l.length 1 (ints l) ∧ r2.Ok A.length 20 (rowsI A).flatten ∧ v = .tuple ⟨[r1.val l.length, r2.val A.length]⟩ ∧ own = [r1.ent 3 (ints l), r2.ent 155 (rowsI A).flatten]
structure RnR3 (l : List Int) (A : List (List Int)) (e : Int) (v : Value) (own : X.Own) : Prop where
  ex : ∃ r1 r2 : Sl, r1.Ok l.length 1 (ints l) ∧ r2.Ok A.length 20 (rowsI A).flatten ∧ v = .tuple ⟨[r1.val l.length, r2.val A.length, .int .i64 e]⟩ ∧ own = [r1.ent 3 (ints l), r2.ent 155 (rowsI A).flatten]
structure IsR2 (l : List Int) (e : Int) (v : Value) (own : X.Own) : Prop where
  ex : ∃ r1 : Sl, r1.Ok l.length 1 (ints l) ∧ v = .tuple ⟨[r1.val l.length, .int .i64 e]⟩ ∧ own = [r1.ent 3 (ints l)]
theorem Ok.n {r : Sl} {n : Nat} {l : List Int} (h : r.Ok n 1 (ints l)) : n = l.length := by have := h.len; simp at this; omega
theorem Ok.rows {r : Sl} {n : Nat} {A : List (List Int)} (h : r.Ok n 20 (rowsI A).flatten) (hA : ∀ x ∈ A, x.length = 20) : n = A.length := by
  have h1 := h.len
  rw [length_flatten (k := 20) (by intro q hq; obtain ⟨x, hx, rfl⟩ := List.mem_map.1 hq; simp [hA x hx])] at h1
  simp at h1; omega
theorem _root_.Go.X.Mem.at {w0 : World} {own : X.Own} {b off o' j : Nat} {vs : List Value} {v : Value} (h : Mem w0 own b off vs) (hv : vs[j]? = some v) (ho : o' = off + j) : Mem w0 own b o' [v] := by
  subst ho
  exact h.sub (takeAt_one hv)
theorem rowI {w : World} {ao : Option Addr} {A : List (List Int)} (h : RowsAt w ao 20 (rowsI A)) {i : Nat} (hi : i < A.length) :
    ∃ b o, ao = some ⟨b, o, none⟩ ∧ ∀ own, Mem w own b (o + i * 20) (ints (A.getD i [])) := h.get (by simp [rowsI, hi])
theorem oneI {w : World} {ao : Option Addr} {l : List Int} (h : RowsAt w ao 1 (ones l)) {i : Nat} (hi : i < l.length) :
    ∃ b o, ao = some ⟨b, o, none⟩ ∧ ∀ own, Mem w own b (o + i * 1) [.int .i64 (l.getD i 0)] := h.get (by simp [ones, hi])
theorem len20 {A : List (List Int)} (hA : ∀ x ∈ A, x.length = 20) {i : Nat} (hi : i < A.length) : (A.getD i []).length = 20 := by
  rw [List.getD_eq_getElem?_getD, List.getElem?_eq_getElem hi]
  exact hA _ (List.getElem_mem hi)
theorem ones_flatten (l : List Int) : (ones l).flatten = ints l := by
  induction l with
  | nil => rfl
  | cons x l ih => simpa [ones, ints] using ih
theorem slOnes {w0 w : World} {own : X.Own} (hI : Inv w0 own w) {r : Sl} {E : TypeId} {i : Nat} {l : List Int} {n : Nat} (hok : r.Ok n 1 (ints l)) (hi : own[i]? = some (r.ent E (ints l))) : RowsAt w r.addr 1 (ones l) := by
  rw [← ones_flatten] at hok hi
  exact Sl.rows hI (by omega) hok hi (by intro q hq; obtain ⟨x, _, rfl⟩ := List.mem_map.1 hq; rfl)
theorem slRows {w0 w : World} {own : X.Own} (hI : Inv w0 own w) {r : Sl} {E : TypeId} {i : Nat} {A : List (List Int)} {n : Nat} (hA : ∀ x ∈ A, x.length = 20) (hok : r.Ok n 20 (rowsI A).flatten) (hi : own[i]? = some (r.ent E (rowsI A).flatten)) : RowsAt w r.addr 20 (rowsI A) :=
  Sl.rows hI (by omega) hok hi (by intro q hq; obtain ⟨x, hx, rfl⟩ := List.mem_map.1 hq; simp [hA x hx])
theorem RnR3.errs {s : Sp} {week e : Int} (h : toldE s week = e) (he : e ≠ 0) :
    RnR3 (toldL s week) (toldA s week) (toldE s week) (.tuple ⟨[.slice none 0 0, .slice none 0 0, .int .i64 e]⟩) [Sl.nil.ent 3 [], Sl.nil.ent 155 []] := by
  have hl := toldL_bad h he
  refine ⟨Sl.nil, Sl.nil, ?_, ?_, ?_, ?_⟩ <;> simp only [toldA, hl, lvsL, List.map_nil, List.length_nil, h]
  · exact .none _
  · exact .none _
  · rfl
  · rfl
/-! ### springs handed back -/
def Ln.ints (x : Ln) : List Int := [x.r0, x.r1, x.wk, x.g0, x.g1]
def Rd.ints (x : Rd) : List Int := [x.num, x.wk, x.bu, x.s0, x.s1]
theorem Ln.ints_inj {x y : Ln} : x.ints = y.ints ↔ x = y := by cases x; cases y; simp [Ln.ints]
theorem Rd.ints_inj {x y : Rd} : x.ints = y.ints ↔ x = y := by cases x; cases y; simp [Rd.ints]
def bookC (s : Sp) : List Value := (s.book.map Ln.cells).flatten
def readsC (s : Sp) : List Value := (s.reads.map Rd.cells).flatten
theorem bookC_len (s : Sp) : (bookC s).length = s.book.length * 5 := by
  rw [bookC, length_flatten (k := 5) (by intro q hq; obtain ⟨x, _, rfl⟩ := List.mem_map.1 hq; rfl), List.length_map]
theorem readsC_len (s : Sp) : (readsC s).length = s.reads.length * 5 := by
  rw [readsC, length_flatten (k := 5) (by intro q hq; obtain ⟨x, _, rfl⟩ := List.mem_map.1 hq; rfl), List.length_map]
theorem bookC_one (s : Sp) : (bookC s).all isOne = true := by
  rw [List.all_eq_true]; intro v hv
  obtain ⟨q, hq, hv⟩ := List.mem_flatten.1 hv
  obtain ⟨x, _, rfl⟩ := List.mem_map.1 hq
  simp [Ln.cells] at hv
  rcases hv with rfl | rfl | rfl | rfl | rfl <;> rfl
theorem readsC_one (s : Sp) : (readsC s).all isOne = true := by
  rw [List.all_eq_true]; intro v hv
  obtain ⟨q, hq, hv⟩ := List.mem_flatten.1 hv
  obtain ⟨x, _, rfl⟩ := List.mem_map.1 hq
  simp [Rd.cells] at hv
  rcases hv with rfl | rfl | rfl | rfl | rfl <;> rfl
variable {w : World} {s : Sp} {bo ro : Option Addr}
theorem SpAt.bookSrc (h : SpAt w s bo ro) (own : X.Own) : Src w own bo s.book.length (bookC s) := by
  have := h.book.src (by omega) (by intro q hq; obtain ⟨x, _, rfl⟩ := List.mem_map.1 hq; rfl) own
  rwa [List.length_map] at this
theorem SpAt.readsSrc (h : SpAt w s bo ro) (own : X.Own) : Src w own ro s.reads.length (readsC s) := by
  have := h.reads.src (by omega) (by intro q hq; obtain ⟨x, _, rfl⟩ := List.mem_map.1 hq; rfl) own
  rwa [List.length_map] at this
/-- A spring with lists of its own. -/
def spV (s : Sp) (r1 r2 : Sl) : Value := .agg ⟨[.int .i64 s.weeks, .int .i64 s.most, .int .i64 s.fall, .int .i64 s.a0, .int .i64 s.a1, .int .i64 s.w0, .int .i64 s.w1, r1.val s.book.length, r2.val s.reads.length]⟩
structure SpR (s : Sp) (v : Value) (own : X.Own) : Prop where
  ex : ∃ r1 r2 : Sl, r1.Ok s.book.length 5 (bookC s) ∧ r2.Ok s.reads.length 5 (readsC s) ∧ v = spV s r1 r2 ∧ own = [r1.ent 129 (bookC s), r2.ent 131 (readsC s)]
/-- .. lies in memory. -/
theorem spAtOwn {w0 : World} {own : X.Own} (hI : Inv w0 own w) {r1 r2 : Sl} {i j : Nat} (o1 : r1.Ok s.book.length 5 (bookC s)) (o2 : r2.Ok s.reads.length 5 (readsC s)) (h1 : own[i]? = some (r1.ent 129 (bookC s))) (h2 : own[j]? = some (r2.ent 131 (readsC s))) :
    SpAt w s r1.addr r2.addr :=
  ⟨Sl.rows hI (by omega) o1 h1 (by intro q hq; obtain ⟨x, _, rfl⟩ := List.mem_map.1 hq; rfl), Sl.rows hI (by omega) o2 h2 (by intro q hq; obtain ⟨x, _, rfl⟩ := List.mem_map.1 hq; rfl)⟩
theorem SpAt.lineD (h : SpAt w s bo ro) {i : Nat} (hi : i < s.book.length) :
    ∃ b o, bo = some ⟨b, o, none⟩ ∧ ∀ own, Mem w own b (o + i * 5) (s.book.getD i default).cells := by
  have := h.line hi
  rwa [show s.book[i] = s.book.getD i default from by simp [hi]] at this
theorem SpAt.readD (h : SpAt w s bo ro) {i : Nat} (hi : i < s.reads.length) :
    ∃ b o, ro = some ⟨b, o, none⟩ ∧ ∀ own, Mem w own b (o + i * 5) (s.reads.getD i default).cells := by
  have := h.read hi
  rwa [show s.reads[i] = s.reads.getD i default from by simp [hi]] at this
theorem list_extD {α : Type} [Inhabited α] {l m : List α} (hl : l.length = m.length) (h : ∀ i, i < l.length → l.getD i default = m.getD i default) : l = m :=
  List.ext_getElem hl fun i h1 h2 => by have := h i h1; simpa [h1, h2] using this
theorem sp_ext {x y : Sp} (h : ((((((x.weeks = y.weeks ∧ x.most = y.most) ∧ x.fall = y.fall) ∧ x.a0 = y.a0 ∧ x.a1 = y.a1) ∧ x.w0 = y.w0 ∧ x.w1 = y.w1) ∧ x.book.length = y.book.length) ∧ x.reads.length = y.reads.length))
    (h1 : ∀ i, i < x.book.length → x.book.getD i default = y.book.getD i default) (h2 : ∀ i, i < x.reads.length → x.reads.getD i default = y.reads.getD i default) : x = y := by
  obtain ⟨⟨⟨⟨⟨⟨e1, e2⟩, e3⟩, e4, e5⟩, e6, e7⟩, e8⟩, e9⟩ := h
  have e10 := list_extD e8 h1
  have e11 := list_extD e9 h2
  cases x; cases y; simp_all
end Go.S

/- The variables of the package spring; slices of the call's own as arguments. -/
namespace Go.S
open Go Go.X Go.RowKit
def chkId : Nat → Nat
  | 0 => 147
  | 1 => 148
  | 2 => 150
  | 3 => 151
  | _ => 154
def chkFn (k : Nat) : Value := .func (.func (chkId k)) ⟨[]⟩ ⟨[]⟩
def chkCells : List Value := [chkFn 0, chkFn 1, chkFn 2, chkFn 3, chkFn 4]
def noneCells : List Value := [.int .i64 1, .int .i64 0]
/-- What the package's variables hold. -/
structure Gl (w : World) : Prop where
  checks : ∀ j v, chkCells[j]? = some v → w.cell? ⟨1, 0 + j, none⟩ = some v
  none : ∀ j v, noneCells[j]? = some v → w.cell? ⟨2, 0 + j, none⟩ = some v
variable {w0 w w' : World} {own : X.Own}
theorem cell_keep {a : Addr} {v : Value} (h : w0.cell? a = some v) (hb : Below w0.heap.size w0 w) : w.cell? a = some v := by
  rw [hb.cell (cell_lt h)]; exact h
theorem Gl.inv (h : Gl w0) (hI : Inv w0 own w) : Gl w := ⟨fun j v hj => cell_keep (h.checks j v hj) hI.below, fun j v hj => cell_keep (h.none j v hj) hI.below⟩
theorem Gl.memC (h : Gl w) (own : X.Own) : Mem w own 1 0 chkCells := Mem.out h.checks
theorem Gl.memN (h : Gl w) (own : X.Own) : Mem w own 2 0 noneCells := Mem.out h.none
theorem belowT (hI : Inv w0 own w) (hb : Below w.heap.size w w') : Below w0.heap.size w0 w' := hI.below.trans (hb.mono hI.below.size)
theorem ownCell (hI : Inv w0 own w) {i b j : Nat} {l : List Value} {E : TypeId} {fz : Nat × Nat} {v : Value} (hi : own[i]? = some (b, .cells ⟨l⟩ E fz)) (hl : l[j]? = some v) : w.cell? ⟨b, j, none⟩ = some v := by
  simp [World.cell?, (hI.get hi (live_of_get hl)).2, hl]
theorem ownOnes (hI : Inv w0 own w) {i b : Nat} (l : List Int) {E : TypeId} {fz : Nat × Nat} (hi : own[i]? = some (b, .cells ⟨ints l⟩ E fz)) : RowsAt w (some ⟨b, 0, none⟩) 1 (ones l) :=
  RowsAt.ofOwn hI hi fun n r hn j u hj => by
    simp only [ones, List.getElem?_map, Option.map_eq_some_iff] at hn
    obtain ⟨x, hx, rfl⟩ := hn
    obtain ⟨hlt, he⟩ := List.getElem?_eq_some_iff.1 hj
    have : j = 0 := by simpa using hlt
    subst this
    simp at he
    subst he
    simp [ints, hx]
end Go.S

/- What the package spring asks of a spring: the plain words. Nothing of Go stands here. -/
namespace Go.S
def lastN (s : Sp) : Nat → Int
  | 0 => 0
  | k + 1 => (s.reads.getD k default).num
def ckP (s : Sp) : Nat → Prop
  | 0 => Wi s.weeks 1 10 ∧ (Wi s.most 0 100 ∧ Wi s.fall 0 100)
  | 1 => Spn s.a0 s.a1 1 600 ∧ Spn s.w0 s.w1 0 20
  | 2 => (s.book.length : Int) ≤ 8 ∧ (s.reads.length : Int) ≤ 12
  | 3 => BookP s
  | _ => ReadsP s
instance (s : Sp) : ∀ k, Decidable (ckP s k)
  | 0 => inferInstanceAs (Decidable (Wi s.weeks 1 10 ∧ (Wi s.most 0 100 ∧ Wi s.fall 0 100)))
  | 1 => inferInstanceAs (Decidable (Spn s.a0 s.a1 1 600 ∧ Spn s.w0 s.w1 0 20))
  | 2 => inferInstanceAs (Decidable ((s.book.length : Int) ≤ 8 ∧ (s.reads.length : Int) ≤ 12))
  | 3 => inferInstanceAs (Decidable (BookP s))
  | _ + 4 => inferInstanceAs (Decidable (ReadsP s))
theorem in_iff (l : List Int) (lo hi : Int) : (¬∃ k, k < l.length ∧ (l.getD k 0 < lo ∨ hi < l.getD k 0)) ↔ ∀ x ∈ l, Wi x lo hi := by
  constructor
  · intro h x hx
    obtain ⟨k, hk, rfl⟩ := List.getElem_of_mem hx
    refine Decidable.byContradiction fun hn => h ⟨k, hk, ?_⟩
    simp only [List.getD_eq_getElem?_getD, List.getElem?_eq_getElem hk, Option.getD_some]
    omega
  · rintro h ⟨k, hk, hc⟩
    have := h _ (List.getElem_mem hk)
    simp only [List.getD_eq_getElem?_getD, List.getElem?_eq_getElem hk, Option.getD_some] at hc
    omega
theorem book_iff (s : Sp) : (¬∃ k, k < s.book.length ∧ ¬LnP (s.book.getD k default) s.weeks) ↔ BookP s := by
  constructor
  · intro h i hi
    refine Decidable.byContradiction fun hn => h ⟨i, hi, ?_⟩
    simpa [hi] using hn
  · rintro h ⟨k, hk, hc⟩
    exact hc (by simpa [hk] using h k hk)
theorem reads_iff (s : Sp) : ReadsP s ↔ ∀ i, i < s.reads.length → RdP (s.reads.getD i default) s.weeks ∧ lastN s i < (s.reads.getD i default).num := by
  have hg : ∀ i (hi : i < s.reads.length), s.reads.getD i default = s.reads[i] := fun i hi => by simp [hi]
  constructor
  · intro h i hi
    have h1 := h i hi
    rw [hg i hi]
    refine ⟨h1.1, ?_⟩
    cases i with
    | zero => have := h1.1; simp only [lastN]; omega
    | succ i => have := h1.2 (by omega); simpa [lastN] using this
  · intro h i hi
    have h1 := h i hi
    rw [hg i hi] at h1
    refine ⟨h1.1, fun h0 => ?_⟩
    cases i with
    | zero => omega
    | succ i => simpa [lastN] using h1.2
theorem ck_iff (s : Sp) : SpP s ↔ ∀ k, k < 5 → ckP s k := by
  constructor
  · rintro ⟨h1, h2, h3⟩ k hk
    unfold HeadP at h1
    match k, hk with
    | 0, _ => simp only [ckP]; omega
    | 1, _ => simp only [ckP]; omega
    | 2, _ => simp only [ckP]; omega
    | 3, _ => exact h2
    | 4, _ => exact h3
  · intro h
    have h0 := h 0 (by omega); have h1 := h 1 (by omega); have h2 := h 2 (by omega)
    simp only [ckP] at h0 h1 h2
    refine ⟨?_, h 3 (by omega), h 4 (by omega)⟩
    unfold HeadP
    omega
end Go.S

/- What readings leave, as the package spring reckons it: the plain words. Nothing of Go stands here. -/
namespace Go.S
open Go.X (G)
def bothP (a b c d : Int) : Int × Int := if min b d < max a c then (1, 0) else (max a c, min b d)
def readsP (s : Sp) (x : Rd) : Int × Int :=
  bothP ((3600 * x.bu + x.s1 * s.a1 - 1) / (x.s1 * s.a1)) (if 0 < x.s0 * s.a0 then min s.most ((3600 * x.bu) / (x.s0 * s.a0)) else s.most) 0 s.most
def set2 (M : List Int) (i : Nat) (p : Int × Int) : List Int := (M.set (i * 2) p.1).set (i * 2 + 1) p.2
abbrev Lo (M : List Int) (i : Nat) : Int := G M (i * 2)
abbrev Hi (M : List Int) (i : Nat) : Int := G M (i * 2 + 1)
@[simp] theorem length_set2 (M : List Int) (i : Nat) (p : Int × Int) : (set2 M i p).length = M.length := by simp [set2]
def fl0 (s : Sp) : Nat → List Int
  | 0 => List.replicate 20 0
  | k + 1 => set2 (fl0 s k) k (0, s.most)
def flTo (s : Sp) : Nat → List Int
  | 0 => fl0 s s.weeks.toNat
  | k + 1 => let x := s.reads.getD k default
    set2 (flTo s k) x.wk.toNat (bothP (Lo (flTo s k) x.wk.toNat) (Hi (flTo s k) x.wk.toNat) (readsP s x).1 (readsP s x).2)
def flL (s : Sp) : List Int := flTo s s.reads.length
@[simp] theorem fl0_len (s : Sp) : ∀ k, (fl0 s k).length = 20
  | 0 => by simp [fl0]
  | k + 1 => by simp [fl0, fl0_len s k]
@[simp] theorem flTo_len (s : Sp) : ∀ k, (flTo s k).length = 20
  | 0 => by simp [flTo]
  | k + 1 => by simp [flTo, flTo_len s k]
/-- Spans as the package spring keeps them: empty ones are (1, 0), the others lie from 0 to 100. -/
def Sb (M : List Int) : Prop := ∀ i, i < 10 → (Lo M i = 1 ∧ Hi M i = 0) ∨ (0 ≤ Lo M i ∧ Lo M i ≤ Hi M i ∧ Hi M i ≤ 100)
theorem set2_at {M : List Int} (hM : M.length = 20) {i j : Nat} (hi : i < 10) (_hj : j < 10) (p : Int × Int) : Lo (set2 M i p) j = (if i = j then p.1 else Lo M j) ∧ Hi (set2 M i p) j = (if i = j then p.2 else Hi M j) := by
  unfold set2 Lo Hi
  constructor
  · rw [G_set (by simp; omega), if_neg (by omega), G_set (by omega)]
    by_cases h : i = j
    · rw [if_pos (by omega), if_pos h]
    · rw [if_neg (by omega), if_neg h]
  · rw [G_set (by simp; omega)]
    by_cases h : i = j
    · rw [if_pos (by omega), if_pos h]
    · rw [if_neg (by omega), if_neg h, G_set (by omega), if_neg (by omega)]
theorem Sb.set {M : List Int} (hM : M.length = 20) (h : Sb M) {i : Nat} (hi : i < 10) {p : Int × Int} (hp : (p.1 = 1 ∧ p.2 = 0) ∨ (0 ≤ p.1 ∧ p.1 ≤ p.2 ∧ p.2 ≤ 100)) : Sb (set2 M i p) := by
  intro j hj
  obtain ⟨h1, h2⟩ := set2_at hM hi hj p
  rw [h1, h2]
  by_cases e : i = j
  · rw [if_pos e, if_pos e]; exact hp
  · rw [if_neg e, if_neg e]; exact h j hj
theorem bothP_sb {a b c d : Int} (h : (a = 1 ∧ b = 0) ∨ (0 ≤ a ∧ a ≤ b ∧ b ≤ 100)) : ((bothP a b c d).1 = 1 ∧ (bothP a b c d).2 = 0) ∨ (0 ≤ (bothP a b c d).1 ∧ (bothP a b c d).1 ≤ (bothP a b c d).2 ∧ (bothP a b c d).2 ≤ 100) := by
  unfold bothP
  split
  · exact .inl ⟨rfl, rfl⟩
  · refine .inr ?_
    simp only
    omega
theorem fl0_sb {s : Sp} (hm : Wi s.most 0 100) : ∀ k, k ≤ 10 → Sb (fl0 s k)
  | 0, _ => by
    intro i hi
    have h : ∀ i, i < 10 → G (List.replicate 20 (0 : Int)) (i * 2) = 0 ∧ G (List.replicate 20 (0 : Int)) (i * 2 + 1) = 0 := by decide
    have := h i hi
    simp only [fl0, Lo, Hi, this.1, this.2]
    omega
  | k + 1, hk => (fl0_sb hm k (by omega)).set (fl0_len s k) (by omega) (.inr (by simp only; omega))
theorem flTo_sb {s : Sp} (hv : SpP s) : ∀ k, k ≤ s.reads.length → Sb (flTo s k)
  | 0, _ => by
    have h := hv.1; unfold HeadP at h
    exact fl0_sb h.2.1 _ (by omega)
  | k + 1, hk => by
    have ih := flTo_sb hv k (by omega)
    have h1 := hv.1; unfold HeadP at h1
    have h2 := (hv.2.2 k (by omega)).1
    have e : s.reads.getD k default = s.reads[k] := by simp [show k < s.reads.length by omega]
    simp only [flTo, e]
    exact ih.set (flTo_len s k) (by omega) (bothP_sb (ih _ (by omega)))
end Go.S

/- Springs at work in memory. -/
namespace Go.S
open Go Go.X Go.RowKit
def spanV (p : Int × Int) : Value := .agg ⟨[.int .i64 p.1, .int .i64 p.2]⟩
def sp9 (s : Sp) (bo ro : Option Addr) (bc rc : Nat) : List Value := [.int .i64 s.weeks, .int .i64 s.most, .int .i64 s.fall, .int .i64 s.a0, .int .i64 s.a1, .int .i64 s.w0, .int .i64 s.w1, .slice bo s.book.length bc, .slice ro s.reads.length rc]
/-- A spring at work: 29 cells. -/
def watC (s : Sp) (bo ro : Option Addr) (bc rc : Nat) (M : List Int) : List Value := sp9 s bo ro bc rc ++ ints M
theorem takeApp {A B vs : List Value} {off o' k : Nat} (a : Nat) (ha : A.length = a) (h : takeAt B off k = some vs) (ho : o' = a + off) : takeAt (A ++ B) o' k = some vs := by
  subst ho ha
  induction k generalizing off vs with
  | zero => simpa [takeAt] using h
  | succ k ih =>
    simp only [takeAt] at h ⊢
    split at h
    · rename_i v r hv hr
      rw [List.getElem?_append_right (by omega), Nat.add_sub_cancel_left, hv, Nat.add_assoc, ih hr]
      exact h
    · cases h
theorem putApp {vs B B' : List Value} {off o' : Nat} : ∀ {A : List Value} (a : Nat), A.length = a → putAt B off vs = some B' → o' = a + off → putAt (A ++ B) o' vs = some (A ++ B')
  | [], a, ha, h, ho => by
    simp at ha; subst ha ho
    simpa using h
  | x :: A, a, ha, h, ho => by
    subst ha ho
    have ih := putApp (A := A) (o' := A.length + off) A.length rfl h rfl
    rw [show (x :: A).length + off = (A.length + off) + 1 by simp; omega]
    cases vs with
    | nil => simp [putAt, ih]
    | cons v vs => simp [putAt, ih]
theorem ints_put2' {M : List Int} {off i : Nat} {p : Int × Int} (h : off = i * 2) (hi : i * 2 + 1 < M.length) : putAt (ints M) off [.int .i64 p.1, .int .i64 p.2] = some (ints (set2 M i p)) := ints_put2 h hi
theorem ints_take2' {M : List Int} {off i : Nat} (h : off = i * 2) (hi : i * 2 + 1 < M.length) : takeAt (ints M) off 2 = some [.int .i64 (Lo M i), .int .i64 (Hi M i)] := ints_take2 h hi
theorem watC_one (s : Sp) (bo ro : Option Addr) (bc rc : Nat) (M : List Int) : (watC s bo ro bc rc M).all isOne = true := by
  simp [watC, sp9, isOne, ints]
theorem watC_len {s : Sp} {bo ro : Option Addr} {bc rc : Nat} {M : List Int} (h : M.length = 20) : (watC s bo ro bc rc M).length = 29 := by simp [watC, sp9, h]
end Go.S
namespace Go.S
open Go Go.X
theorem chk_take (k : Nat) (hk : k < 5) : takeAt chkCells ((k : Int).toNat * 1) 1 = some [chkFn k] := by
  match k, hk with
  | 0, _ => rfl
  | 1, _ => rfl
  | 2, _ => rfl
  | 3, _ => rfl
  | 4, _ => rfl
theorem mul2 {a b A B : Int} (h0 : 0 ≤ a) (h1 : a ≤ A) (h2 : 0 ≤ b) (h3 : b ≤ B) : 0 ≤ a * b ∧ a * b ≤ A * B :=
  ⟨Int.mul_nonneg h0 h2, Int.mul_le_mul h1 h3 h2 (by omega)⟩
end Go.S
namespace Go.S
open Go Go.X
theorem at_lo {M : List Int} {off i : Nat} (h : off = i * 2) (hi : i * 2 < M.length) : (ints M)[off]? = some (.int .i64 (Lo M i)) := intsAtX h hi
theorem at_hi {M : List Int} {off i : Nat} (h : off = i * 2 + 1) (hi : i * 2 + 1 < M.length) : (ints M)[off]? = some (.int .i64 (Hi M i)) := intsAtX h hi
end Go.S

/- From week to week, and back: both ways of reckoning come to the same. Nothing of Go stands here. -/
namespace Go.S
open Go.X (G)
/-- What is given week by week, within bounds. -/
def Tr (n : Nat) (f : Int) (lo hi : Nat → Int) (t : Nat → Int) : Prop := ∀ w, w < n → lo w ≤ t w ∧ t w ≤ hi w ∧ (0 < w → t (w - 1) - f ≤ t w ∧ t w ≤ t (w - 1))
/-- All truths lie within. -/
def Wn (n : Nat) (f : Int) (lo hi lo' hi' : Nat → Int) : Prop := ∀ t, Tr n f lo hi t → ∀ w, w < n → lo' w ≤ t w ∧ t w ≤ hi' w
/-- The steps of the lower and the upper ends are right. -/
def Stp (n : Nat) (f : Int) (lo hi : Nat → Int) : Prop := ∀ w, w < n → 0 < w → (lo (w - 1) - f ≤ lo w ∧ lo w ≤ lo (w - 1)) ∧ (hi (w - 1) - f ≤ hi w ∧ hi w ≤ hi (w - 1))
theorem ends_true {n : Nat} {f : Int} {lo hi lo' hi' : Nat → Int} (hs : Stp n f lo' hi') (hsub : ∀ w, w < n → lo w ≤ lo' w ∧ hi' w ≤ hi w) (hne : ∀ w, w < n → lo' w ≤ hi' w) : Tr n f lo hi lo' ∧ Tr n f lo hi hi' := by
  constructor
  · intro w hw
    have h1 := hsub w hw; have h2 := hne w hw
    exact ⟨h1.1, by omega, fun h0 => (hs w hw h0).1⟩
  · intro w hw
    have h1 := hsub w hw; have h2 := hne w hw
    exact ⟨by omega, h1.2, fun h0 => (hs w hw h0).2⟩
/-- Two that hold all truths, and whose ends are truths, are the same. -/
theorem hull_unique {n : Nat} {f : Int} {lo hi l1 h1 l2 h2 : Nat → Int} (w1 : Wn n f lo hi l1 h1) (w2 : Wn n f lo hi l2 h2) (t1 : Tr n f lo hi l1 ∧ Tr n f lo hi h1) (t2 : Tr n f lo hi l2 ∧ Tr n f lo hi h2) : ∀ w, w < n → l1 w = l2 w ∧ h1 w = h2 w := by
  intro w hw
  have a := w1 _ t2.1 w hw; have b := w2 _ t1.1 w hw; have c := w1 _ t2.2 w hw; have d := w2 _ t1.2 w hw
  omega

/-! ### the reference: there and back -/
theorem setA_at {M : List Int} (hM : M.length = 20) {i j : Nat} (hi : i < 10) (hj : j < 10) (x y : Int) :
    G ((M.set i x).set (10 + i) y) j = (if i = j then x else G M j) ∧ G ((M.set i x).set (10 + i) y) (10 + j) = (if i = j then y else G M (10 + j)) := by
  constructor
  · rw [G_set (by simp; omega), if_neg (by omega), G_set (by omega)]
  · rw [G_set (by simp; omega)]
    by_cases h : i = j
    · rw [if_pos (by omega), if_pos h]
    · rw [if_neg (by omega), if_neg h, G_set (by omega), if_neg (by omega)]
structure FwdP (n : Nat) (f : Int) (L M : List Int) (j : Nat) : Prop where
  len : M.length = 20
  step : ∀ w, w ≤ j → 0 < w → G M (w - 1) - f ≤ G M w ∧ G M (10 + w) ≤ G M (10 + (w - 1))
  rest : ∀ w, w < 10 → j < w → G M w = G L w ∧ G M (10 + w) = G L (10 + w)
  sub : ∀ w, w < 10 → G L w ≤ G M w ∧ G M (10 + w) ≤ G L (10 + w)
  wn : Wn n f (fun w => G L w) (fun w => G L (10 + w)) (fun w => G M w) (fun w => G M (10 + w))
theorem fwd_ok {n : Nat} {f : Int} {L : List Int} (hL : L.length = 20) (hn : n ≤ 10) (hf : 0 ≤ f) : ∀ j, j + 1 ≤ n → FwdP n f L (fwdTo f L j) j
  | 0, _ => ⟨hL, fun w h h0 => by omega, fun w _ _ => ⟨rfl, rfl⟩, fun w _ => ⟨Int.le_refl _, Int.le_refl _⟩, fun t ht w hw => ⟨(ht w hw).1, (ht w hw).2.1⟩⟩
  | j + 1, hj => by
    have ih := fwd_ok hL hn hf j (by omega)
    have hs := fun (k : Nat) (hk : k < 10) => setA_at ih.len (i := j + 1) (j := k) (by omega) hk (max (G (fwdTo f L j) (j + 1)) (G (fwdTo f L j) j - f)) (min (G (fwdTo f L j) (10 + (j + 1))) (G (fwdTo f L j) (10 + j)))
    refine ⟨by simp [fwdTo, ih.len], fun w hw h0 => ?_, fun w h10 hw => ?_, fun w hw => ?_, fun t ht w hw => ?_⟩
    · simp only [fwdTo]
      have h1 := hs w (by omega); have h2 := hs (w - 1) (by omega)
      rw [h1.1, h1.2, h2.1, h2.2]
      by_cases e : j + 1 = w
      · subst e
        rw [if_pos rfl, if_pos rfl, if_neg (by omega), if_neg (by omega)]
        simp only [Nat.add_sub_cancel]
        omega
      · rw [if_neg e, if_neg e, if_neg (by omega), if_neg (by omega)]
        exact ih.step w (by omega) h0
    · simp only [fwdTo]
      have h1 := hs w h10
      rw [h1.1, h1.2, if_neg (by omega), if_neg (by omega)]
      exact ih.rest w h10 (by omega)
    · simp only [fwdTo]
      have h1 := hs w hw
      rw [h1.1, h1.2]
      have := ih.sub w hw
      by_cases e : j + 1 = w
      · subst e; rw [if_pos rfl, if_pos rfl]; omega
      · rw [if_neg e, if_neg e]; exact this
    · simp only [fwdTo]
      have h1 := hs w (by omega)
      rw [h1.1, h1.2]
      have := ih.wn t ht w hw
      by_cases e : j + 1 = w
      · subst e
        rw [if_pos rfl, if_pos rfl]
        have h2 := ih.wn t ht j (by omega)
        have h3 := (ht (j + 1) hw).2.2 (by omega)
        simp only [Nat.add_sub_cancel] at h3
        simp only at h2 this
        omega
      · rw [if_neg e, if_neg e]; exact this
/-- After j weeks back from n - 1. -/
structure BwdP (n : Nat) (f : Int) (L K M : List Int) (j : Nat) : Prop where
  len : M.length = 20
  done : ∀ w, w < n → 0 < w → n - 1 - j < w → (G M (w - 1) - f ≤ G M w ∧ G M w ≤ G M (w - 1)) ∧ (G M (10 + (w - 1)) - f ≤ G M (10 + w) ∧ G M (10 + w) ≤ G M (10 + (w - 1)))
  rest : ∀ w, w < 10 → (w + j + 1 < n ∨ n ≤ w ∨ w + 1 = n) → G M w = G K w ∧ G M (10 + w) = G K (10 + w)
  sub : ∀ w, w < 10 → G K w ≤ G M w ∧ G M (10 + w) ≤ G K (10 + w)
  wn : Wn n f (fun w => G L w) (fun w => G L (10 + w)) (fun w => G M w) (fun w => G M (10 + w))
theorem bwd_ok {n : Nat} {f : Int} {L K : List Int} (hn : n ≤ 10) (hn1 : 1 ≤ n) (hf : 0 ≤ f) (hK : FwdP n f L K (n - 1)) : ∀ j, j + 1 ≤ n → BwdP n f L K (bwdTo f (n - 1) K j) j
  | 0, _ => ⟨hK.len, fun w h h0 h1 => by omega, fun w _ _ => ⟨rfl, rfl⟩, fun w _ => ⟨Int.le_refl _, Int.le_refl _⟩, hK.wn⟩
  | j + 1, hj => by
    have ih := bwd_ok hn hn1 hf hK j (by omega)
    simp only [bwdTo, bwdAt]
    have he : n - 1 - 1 - j = n - 2 - j := by omega
    rw [he]
    have hs := fun (k : Nat) (hk : k < 10) => setA_at ih.len (i := n - 2 - j) (j := k) (by omega) hk (max (G (bwdTo f (n - 1) K j) (n - 2 - j)) (G (bwdTo f (n - 1) K j) (n - 2 - j + 1))) (min (G (bwdTo f (n - 1) K j) (10 + (n - 2 - j))) (G (bwdTo f (n - 1) K j) (10 + (n - 2 - j + 1)) + f))
    refine ⟨by simp [ih.len], fun w hw h0 h1 => ?_, fun w h10 hw => ?_, fun w hw => ?_, fun t ht w hw => ?_⟩
    · have a1 := hs w (by omega); have a2 := hs (w - 1) (by omega)
      rw [a1.1, a1.2, a2.1, a2.2]
      rw [if_neg (show ¬ n - 2 - j = w by omega), if_neg (show ¬ n - 2 - j = w by omega)]
      by_cases e : n - 2 - j = w - 1
      · rw [if_pos e, if_pos e]
        have e2 : n - 2 - j + 1 = w := by omega
        rw [e, show w - 1 + 1 = w by omega]
        have r1 := ih.rest (w - 1) (by omega) (by omega)
        have st := hK.step w (by omega) h0
        have sb := ih.sub w (by omega)
        rw [r1.1, r1.2]
        omega
      · rw [if_neg e, if_neg e]
        exact ih.done w hw h0 (by omega)
    · have a1 := hs w h10
      rw [a1.1, a1.2, if_neg (by omega), if_neg (by omega)]
      exact ih.rest w h10 (by omega)
    · have a1 := hs w hw
      rw [a1.1, a1.2]
      have := ih.sub w hw
      by_cases e : n - 2 - j = w
      · subst e; rw [if_pos rfl, if_pos rfl]; omega
      · rw [if_neg e, if_neg e]; exact this
    · have a1 := hs w (by omega)
      simp only
      rw [a1.1, a1.2]
      have := ih.wn t ht w hw
      by_cases e : n - 2 - j = w
      · subst e
        rw [if_pos rfl, if_pos rfl]
        have h2 := ih.wn t ht (n - 2 - j + 1) (by omega)
        have h3 := (ht (n - 2 - j + 1) (by omega)).2.2 (by omega)
        simp only [Nat.add_sub_cancel] at h3
        simp only at h2 this
        omega
      · rw [if_neg e, if_neg e]; exact this
/-- What the reference comes to, of what lines and readings leave (C). -/
structure RefP (n : Nat) (f : Int) (C X : List Int) : Prop where
  len : X.length = 20
  stp : Stp n f (fun w => G X w) (fun w => G X (10 + w))
  sub : ∀ w, w < 10 → G C w ≤ G X w ∧ G X (10 + w) ≤ G C (10 + w)
  rest : ∀ w, w < 10 → n ≤ w → G X w = G C w ∧ G X (10 + w) = G C (10 + w)
  wn : Wn n f (fun w => G C w) (fun w => G C (10 + w)) (fun w => G X w) (fun w => G X (10 + w))
theorem ref_ok {n : Nat} {f : Int} {C : List Int} (hC : C.length = 20) (hn : n ≤ 10) (hn1 : 1 ≤ n) (hf : 0 ≤ f) : RefP n f C (bwdTo f (n - 1) (fwdTo f C (n - 1)) (n - 1)) := by
  have h1 := fwd_ok hC hn hf (n - 1) (by omega)
  have h2 := bwd_ok hn hn1 hf h1 (n - 1) (by omega)
  refine ⟨h2.len, fun w hw h0 => h2.done w hw h0 (by omega), fun w hw => ?_, fun w hw hnw => ?_, h2.wn⟩
  · have a := h1.sub w hw; have b := h2.sub w hw; omega
  · have a := h1.rest w hw (by omega); have b := h2.rest w hw (by omega)
    rw [b.1, b.2]; exact a
end Go.S

/- The package spring: again and again until nothing turns. Nothing of Go stands here. -/
namespace Go.S
open Go.X (G)
/-- One step: week i by the week before, and back. -/
def step1 (f : Int) (M : List Int) (k : Nat) : List Int := set2 M (k + 1) (bothP (Lo M (k + 1)) (Hi M (k + 1)) (Lo M k - f) (Hi M k))
def step2 (f : Int) (M : List Int) (k : Nat) : List Int := set2 M k (bothP (Lo M k) (Hi M k) (Lo M (k + 1)) (Hi M (k + 1) + f))
def stepM (f : Int) (M : List Int) (k : Nat) : List Int := step2 f (step1 f M k) k
def NoneAt (M : List Int) (i : Nat) : Prop := Lo M i = 1 ∧ Hi M i = 0
instance (M : List Int) (i : Nat) : Decidable (NoneAt M i) := by unfold NoneAt; infer_instance
def psTo (f : Int) (M : List Int) : Nat → List Int
  | 0 => M
  | k + 1 => stepM f (psTo f M k) k
/-- No step has come to nothing. -/
def Alive (f : Int) (M : List Int) (k : Nat) : Prop := ∀ j, j < k → ¬NoneAt (psTo f M (j + 1)) j ∧ ¬NoneAt (psTo f M (j + 1)) (j + 1)
def sumW (M : List Int) : Nat → Int
  | 0 => 0
  | k + 1 => sumW M k + (Hi M k - Lo M k + 1)
@[simp] theorem step1_len (f : Int) (M : List Int) (k : Nat) : (step1 f M k).length = M.length := by simp [step1]
@[simp] theorem step2_len (f : Int) (M : List Int) (k : Nat) : (step2 f M k).length = M.length := by simp [step2]
@[simp] theorem stepM_len (f : Int) (M : List Int) (k : Nat) : (stepM f M k).length = M.length := by simp [stepM]
@[simp] theorem psTo_len (f : Int) (M : List Int) : ∀ k, (psTo f M k).length = M.length
  | 0 => rfl
  | k + 1 => by simp [psTo, psTo_len f M k]
theorem sumW_nonneg {M : List Int} (h : Sb M) : ∀ k, k ≤ 10 → 0 ≤ sumW M k
  | 0, _ => Int.le_refl _
  | k + 1, hk => by
    have := sumW_nonneg h k (by omega)
    have := h k (by omega)
    simp only [sumW]
    omega
theorem sumW_set {M : List Int} (hM : M.length = 20) {i : Nat} (hi : i < 10) (p : Int × Int) : ∀ k, k ≤ 10 → sumW (set2 M i p) k = sumW M k + (if i < k then (p.2 - p.1) - (Hi M i - Lo M i) else 0)
  | 0, _ => by simp [sumW]
  | k + 1, hk => by
    have ih := sumW_set hM hi p k (by omega)
    obtain ⟨h1, h2⟩ := set2_at hM hi (j := k) (by omega) p
    simp only [sumW, ih, h1, h2]
    by_cases e : i = k
    · subst e
      rw [if_pos rfl, if_pos rfl, if_neg (by omega), if_pos (by omega)]
      omega
    · rw [if_neg e, if_neg e]
      by_cases e2 : i < k
      · rw [if_pos e2, if_pos (by omega)]; omega
      · rw [if_neg e2, if_neg (by omega)]; omega
theorem list_ext20 {M K : List Int} (hM : M.length = 20) (hK : K.length = 20) (h : ∀ j, j < 10 → Lo M j = Lo K j ∧ Hi M j = Hi K j) : M = K := by
  refine List.ext_getElem (by omega) fun i h1 h2 => ?_
  have h3 := h (i / 2) (by omega)
  have hg : ∀ (L : List Int) (hi : i < L.length), G L i = L[i] := fun L hi => by simp [G, hi]
  rw [← hg M h1, ← hg K h2]
  by_cases e : i % 2 = 0
  · have : i = i / 2 * 2 := by omega
    rw [this]; exact h3.1
  · have : i = i / 2 * 2 + 1 := by omega
    rw [this]; exact h3.2
/-- A span set to a part of itself: the same, or less. -/
theorem set_less {M : List Int} (hM : M.length = 20) (hS : Sb M) {i : Nat} (hi : i < 10) (c d : Int) :
    set2 M i (bothP (Lo M i) (Hi M i) c d) = M ∨ sumW (set2 M i (bothP (Lo M i) (Hi M i) c d)) 10 < sumW M 10 := by
  have hs := sumW_set hM hi (bothP (Lo M i) (Hi M i) c d) 10 (Nat.le_refl _)
  rw [if_pos hi] at hs
  have hsi := hS i hi
  by_cases e : (bothP (Lo M i) (Hi M i) c d).1 = Lo M i ∧ (bothP (Lo M i) (Hi M i) c d).2 = Hi M i
  · left
    refine list_ext20 (by simp [hM]) hM fun j hj => ?_
    obtain ⟨h1, h2⟩ := set2_at hM hi hj (bothP (Lo M i) (Hi M i) c d)
    rw [h1, h2]
    by_cases hij : i = j
    · subst hij; rw [if_pos rfl, if_pos rfl]; exact e
    · rw [if_neg hij, if_neg hij]; exact ⟨rfl, rfl⟩
  · right
    rw [hs]
    revert e
    unfold bothP
    split
    · simp only; omega
    · simp only; omega
theorem step_less {f : Int} {M : List Int} (hM : M.length = 20) (hS : Sb M) {k : Nat} (hk : k + 1 < 10) :
    Sb (step1 f M k) ∧ Sb (stepM f M k) ∧ ((step1 f M k = M ∧ stepM f M k = M) ∨ sumW (stepM f M k) 10 < sumW M 10) := by
  have h1 : Sb (step1 f M k) := hS.set hM hk (bothP_sb (hS _ hk))
  have hl : (step1 f M k).length = 20 := by simp [hM]
  have h2 : Sb (stepM f M k) := h1.set hl (by omega) (bothP_sb (h1 _ (by omega)))
  refine ⟨h1, h2, ?_⟩
  have a := set_less hM hS hk (Lo M k - f) (Hi M k)
  have b := set_less hl h1 (i := k) (by omega) (Lo (step1 f M k) (k + 1)) (Hi (step1 f M k) (k + 1) + f)
  rcases b with b | b
  · rcases a with a | a
    · have a' : step1 f M k = M := a
      exact .inl ⟨a', (show stepM f M k = step1 f M k from b).trans a'⟩
    · right
      rw [show stepM f M k = step1 f M k from b]; exact a
  · rcases a with a | a
    · right
      have a' : step1 f M k = M := a
      have : sumW (stepM f M k) 10 < sumW (step1 f M k) 10 := b
      rwa [a'] at this
    · right
      have : sumW (stepM f M k) 10 < sumW (step1 f M k) 10 := b
      have a2 : sumW (step1 f M k) 10 < sumW M 10 := a
      omega
theorem ps_less {f : Int} {M : List Int} (hM : M.length = 20) (hS : Sb M) : ∀ k, k ≤ 9 → Sb (psTo f M k) ∧ ((∀ j, j < k → step1 f M j = M ∧ stepM f M j = M ∧ psTo f M (j + 1) = M) ∧ psTo f M k = M ∨ sumW (psTo f M k) 10 < sumW M 10)
  | 0, _ => ⟨hS, .inl ⟨fun j hj => absurd hj (Nat.not_lt_zero _), rfl⟩⟩
  | k + 1, hk => by
    obtain ⟨h1, h2⟩ := ps_less hM hS k (by omega)
    obtain ⟨_, g1, g2⟩ := step_less (f := f) (by simp [hM]) h1 (k := k) (by omega)
    refine ⟨g1, ?_⟩
    show (_ ∧ stepM f (psTo f M k) k = M) ∨ sumW (stepM f (psTo f M k) k) 10 < _
    rcases h2 with ⟨h2, h3⟩ | h2
    · rw [h3] at g2 ⊢
      rcases g2 with ⟨g2, g3⟩ | g2
      · refine .inl ⟨fun j hj => ?_, g3⟩
        by_cases e : j = k
        · subst e
          exact ⟨g2, g3, by show stepM f (psTo f M j) j = M; rw [h3]; exact g3⟩
        · exact h2 j (by omega)
      · exact .inr g2
    · right
      rcases g2 with ⟨_, g3⟩ | g2
      · rw [g3]; exact h2
      · omega
/-- All truths of C lie within M, and M in C. -/
structure KeepP (n : Nat) (f : Int) (C M : List Int) : Prop where
  len : M.length = 20
  sb : Sb M
  sub : ∀ w, w < n → Lo M w ≤ Hi M w → Lo C w ≤ Lo M w ∧ Hi M w ≤ Hi C w
  wn : Wn n f (Lo C) (Hi C) (Lo M) (Hi M)
  rest : ∀ w, w < 10 → n ≤ w → Lo M w = Lo C w ∧ Hi M w = Hi C w
theorem both_in {a b c d t : Int} (h1 : a ≤ t ∧ t ≤ b) (h2 : c ≤ t ∧ t ≤ d) : (bothP a b c d).1 ≤ t ∧ t ≤ (bothP a b c d).2 := by
  unfold bothP
  split
  · omega
  · simp only; omega
theorem both_sub {a b c d : Int} (h : (bothP a b c d).1 ≤ (bothP a b c d).2) : a ≤ (bothP a b c d).1 ∧ (bothP a b c d).2 ≤ b := by
  revert h
  unfold bothP
  split
  · simp
  · simp only; omega
theorem KeepP.step {n : Nat} {f : Int} {C M : List Int} (h : KeepP n f C M) (hn : n ≤ 10) {k : Nat} (hk : k + 1 < n) : KeepP n f C (stepM f M k) := by
  obtain ⟨s1, s2, _⟩ := step_less (f := f) h.len h.sb (k := k) (by omega)
  have hl : (step1 f M k).length = 20 := by simp [h.len]
  have a1 := fun (j : Nat) (hj : j < 10) => set2_at h.len (i := k + 1) (j := j) (by omega) hj (bothP (Lo M (k + 1)) (Hi M (k + 1)) (Lo M k - f) (Hi M k))
  have a2 := fun (j : Nat) (hj : j < 10) => set2_at hl (i := k) (j := j) (by omega) hj (bothP (Lo (step1 f M k) k) (Hi (step1 f M k) k) (Lo (step1 f M k) (k + 1)) (Hi (step1 f M k) (k + 1) + f))
  have b1 : ∀ j, j < 10 → Lo (step1 f M k) j = _ ∧ Hi (step1 f M k) j = _ := a1
  have b2 : ∀ j, j < 10 → Lo (stepM f M k) j = _ ∧ Hi (stepM f M k) j = _ := a2
  refine ⟨by simp [h.len], s2, fun w hw hne => ?_, fun t ht w hw => ?_, fun w h10 hw => ?_⟩
  · have c1 := b1 w (by omega); have c2 := b2 w (by omega)
    have hsub := h.sub w hw
    rw [c2.1, c2.2] at hne ⊢
    by_cases e : k = w
    · subst e
      rw [if_pos rfl, if_pos rfl] at hne ⊢
      have h3 := both_sub hne
      rw [c1.1, c1.2, if_neg (by omega), if_neg (by omega)] at h3 hne ⊢
      have := hsub (by omega)
      omega
    · rw [if_neg e, if_neg e] at hne ⊢
      rw [c1.1, c1.2] at hne ⊢
      by_cases e2 : k + 1 = w
      · subst e2
        rw [if_pos rfl, if_pos rfl] at hne ⊢
        have h3 := both_sub hne
        have := hsub (by omega)
        omega
      · rw [if_neg e2, if_neg e2] at hne ⊢
        exact hsub hne
  · have hstep := (ht (k + 1) hk).2.2 (by omega)
    simp only [Nat.add_sub_cancel] at hstep
    have t0 := h.wn t ht k (by omega)
    have t1 := h.wn t ht (k + 1) hk
    have u1 : Lo (step1 f M k) (k + 1) ≤ t (k + 1) ∧ t (k + 1) ≤ Hi (step1 f M k) (k + 1) := by
      have c1 := b1 (k + 1) (by omega)
      rw [c1.1, c1.2, if_pos rfl, if_pos rfl]
      exact both_in t1 (by omega)
    have u0 : Lo (step1 f M k) k ≤ t k ∧ t k ≤ Hi (step1 f M k) k := by
      have c1 := b1 k (by omega)
      rw [c1.1, c1.2, if_neg (by omega), if_neg (by omega)]
      exact t0
    have c2 := b2 w (by omega)
    rw [c2.1, c2.2]
    by_cases e : k = w
    · subst e
      rw [if_pos rfl, if_pos rfl]
      exact both_in u0 (by omega)
    · rw [if_neg e, if_neg e]
      by_cases e2 : k + 1 = w
      · subst e2; exact u1
      · have c1 := b1 w (by omega)
        rw [c1.1, c1.2, if_neg e2, if_neg e2]
        exact h.wn t ht w hw
  · have c1 := b1 w h10; have c2 := b2 w h10
    rw [c2.1, c2.2, if_neg (by omega), if_neg (by omega), c1.1, c1.2, if_neg (by omega), if_neg (by omega)]
    exact h.rest w h10 hw
theorem KeepP.ps {n : Nat} {f : Int} {C M : List Int} (h : KeepP n f C M) (hn : n ≤ 10) : ∀ k, k + 1 ≤ n → KeepP n f C (psTo f M k)
  | 0, _ => h
  | k + 1, hk => (h.ps hn k (by omega)).step hn (by omega)
theorem KeepP.none {n : Nat} {f : Int} {C M : List Int} (h : KeepP n f C M) {i : Nat} (hi : i < n) (hN : NoneAt M i) : ¬∃ t, Tr n f (Lo C) (Hi C) t := by
  rintro ⟨t, ht⟩
  have := h.wn t ht i hi
  obtain ⟨h1, h2⟩ := hN
  omega
/-- The end: nothing turns any more. -/
theorem stp_of_same {n : Nat} {f : Int} {M : List Int} (hM : M.length = 20) (_hS : Sb M) (hn : n ≤ 10) (hf : 0 ≤ f) (hsame : ∀ j, j + 1 < n → step1 f M j = M ∧ stepM f M j = M) (hne : ∀ w, w < n → Lo M w ≤ Hi M w) : Stp n f (Lo M) (Hi M) := by
  intro w hw h0
  obtain ⟨j, rfl⟩ : ∃ j, w = j + 1 := ⟨w - 1, by omega⟩
  obtain ⟨e1, e2⟩ := hsame j hw
  simp only [Nat.add_sub_cancel]
  have a1 := set2_at hM (i := j + 1) (j := j + 1) (by omega) (by omega) (bothP (Lo M (j + 1)) (Hi M (j + 1)) (Lo M j - f) (Hi M j))
  have b1 : Lo (step1 f M j) (j + 1) = _ ∧ Hi (step1 f M j) (j + 1) = _ := a1
  rw [e1, if_pos rfl, if_pos rfl] at b1
  have a2 := set2_at (M := step1 f M j) (by simp [hM]) (i := j) (j := j) (by omega) (by omega) (bothP (Lo (step1 f M j) j) (Hi (step1 f M j) j) (Lo (step1 f M j) (j + 1)) (Hi (step1 f M j) (j + 1) + f))
  have b2 : Lo (stepM f M j) j = _ ∧ Hi (stepM f M j) j = _ := a2
  rw [e2, if_pos rfl, if_pos rfl, e1] at b2
  have n1 := hne (j + 1) hw; have n0 := hne j (by omega)
  revert b1 b2
  unfold bothP
  split <;> split <;> simp only <;> intro b1 b2 <;> omega
theorem stp_zero {n : Nat} {f : Int} {M : List Int} (hf : 0 ≤ f) (hz : ∀ w, w < n → Lo M w = 0 ∧ Hi M w = 0) : Stp n f (Lo M) (Hi M) := by
  intro w hw h0
  have a := hz w hw; have b := hz (w - 1) (by omega)
  omega
end Go.S

/- Both ways of reckoning what readings, lines and a rain leave. Nothing of Go stands here. -/
namespace Go.S
open Go.X (G)
/-- The same spans, or none on both sides. -/
def RelC (n : Nat) (R L : List Int) : Prop := ∀ w, w < n → (Lo R w = G L w ∧ Hi R w = G L (10 + w)) ∨ (Hi R w < Lo R w ∧ G L (10 + w) < G L w)
theorem RelC.tr {n : Nat} {f : Int} {R L : List Int} (h : RelC n R L) (t : Nat → Int) : Tr n f (Lo R) (Hi R) t ↔ Tr n f (fun w => G L w) (fun w => G L (10 + w)) t := by
  constructor
  · intro ht w hw
    have h1 := ht w hw
    refine ⟨?_, ?_, h1.2.2⟩ <;> rcases h w hw with ⟨a, b⟩ | ⟨a, b⟩ <;> simp only <;> omega
  · intro ht w hw
    have h1 := ht w hw
    simp only at h1
    refine ⟨?_, ?_, h1.2.2⟩ <;> rcases h w hw with ⟨a, b⟩ | ⟨a, b⟩ <;> omega
/-- Lines, as the package spring reckons them. -/
def slTo (s : Sp) (R : List Int) (rain : Int) : Nat → List Int
  | 0 => R
  | k + 1 => let x := s.book.getD k default
    if Wi rain x.r0 x.r1 then set2 (slTo s R rain k) x.wk.toNat (bothP (Lo (slTo s R rain k) x.wk.toNat) (Hi (slTo s R rain k) x.wk.toNat) x.g0 x.g1) else slTo s R rain k
@[simp] theorem slTo_len (s : Sp) (R : List Int) (rain : Int) : ∀ k, (slTo s R rain k).length = R.length
  | 0 => rfl
  | k + 1 => by
    have ih := slTo_len s R rain k
    simp only [slTo]
    split <;> simp [ih]
theorem bookD {s : Sp} (hb : BookP s) {k : Nat} (hk : k < s.book.length) : LnP (s.book.getD k default) s.weeks := by
  simpa [hk] using hb k hk
theorem slTo_sb {s : Sp} (hv : SpP s) {R : List Int} (hR : R.length = 20) (hS : Sb R) (rain : Int) : ∀ k, k ≤ s.book.length → Sb (slTo s R rain k)
  | 0, _ => hS
  | k + 1, hk => by
    have ih := slTo_sb hv hR hS rain k (by omega)
    have h1 := hv.1; unfold HeadP at h1
    have hl := bookD hv.2.1 (k := k) (by omega)
    simp only [slTo]
    split
    · exact ih.set (by simp [hR]) (by omega) (bothP_sb (ih _ (by omega)))
    · exact ih
theorem linesTo_len {s : Sp} {L : List Int} (rain : Int) : ∀ k, (linesTo s L rain k).length = L.length
  | 0 => rfl
  | k + 1 => by
    have ih := linesTo_len (s := s) (L := L) rain k
    simp only [linesTo]
    split
    · simp only [lineStep]
      split <;> simp [ih]
    · exact ih
theorem lines_rel {s : Sp} (hv : SpP s) {R L : List Int} (hR : R.length = 20) (hL : L.length = 20) (hS : Sb R) (h : RelC s.weeks.toNat R L) (h0 : ∀ w, w < 10 → s.weeks.toNat ≤ w → Lo R w = G L w ∧ Hi R w = G L (10 + w)) (rain : Int) :
    ∀ k, k ≤ s.book.length → RelC s.weeks.toNat (slTo s R rain k) (linesTo s L rain k) ∧ (∀ w, w < 10 → s.weeks.toNat ≤ w → Lo (slTo s R rain k) w = G (linesTo s L rain k) w ∧ Hi (slTo s R rain k) w = G (linesTo s L rain k) (10 + w))
  | 0, _ => ⟨h, h0⟩
  | k + 1, hk => by
    obtain ⟨i1, i2⟩ := lines_rel hv hR hL hS h h0 rain k (by omega)
    have h1 := hv.1; unfold HeadP at h1
    have hl := bookD hv.2.1 (k := k) (by omega)
    have hsb := slTo_sb hv hR hS rain k (by omega)
    have he : s.book[k]? = some (s.book.getD k default) := by simp [show k < s.book.length by omega]
    simp only [slTo, linesTo, he, lineStep]
    by_cases hc : Wi rain (s.book.getD k default).r0 (s.book.getD k default).r1
    · rw [if_pos hc, if_pos hc]
      have a1 := fun (j : Nat) (hj : j < 10) => set2_at (M := slTo s R rain k) (by simp [hR]) (i := (s.book.getD k default).wk.toNat) (j := j) (by omega) hj (bothP (Lo (slTo s R rain k) (s.book.getD k default).wk.toNat) (Hi (slTo s R rain k) (s.book.getD k default).wk.toNat) (s.book.getD k default).g0 (s.book.getD k default).g1)
      have a2 := fun (j : Nat) (hj : j < 10) => setA_at (M := linesTo s L rain k) (by rw [linesTo_len]; exact hL) (i := (s.book.getD k default).wk.toNat) (j := j) (by omega) hj (max (G (linesTo s L rain k) (s.book.getD k default).wk.toNat) (s.book.getD k default).g0) (min (G (linesTo s L rain k) (10 + (s.book.getD k default).wk.toNat)) (s.book.getD k default).g1)
      refine ⟨fun w hw => ?_, fun w h10 hw => ?_⟩
      · have b1 := a1 w (by omega); have b2 := a2 w (by omega)
        rw [b1.1, b1.2, b2.1, b2.2]
        by_cases e : (s.book.getD k default).wk.toNat = w
        · rw [if_pos e, if_pos e, if_pos e, if_pos e, e]
          have hr := i1 w hw
          have hs := hsb w (by omega)
          unfold bothP
          split <;> simp only <;> omega
        · rw [if_neg e, if_neg e, if_neg e, if_neg e]
          exact i1 w hw
      · have b1 := a1 w h10; have b2 := a2 w h10
        rw [b1.1, b1.2, b2.1, b2.2, if_neg (by omega), if_neg (by omega), if_neg (by omega), if_neg (by omega)]
        exact i2 w h10 hw
    · rw [if_neg hc, if_neg hc]
      exact ⟨i1, i2⟩
/-- Ends beside each other. -/
def ilv (X : List Int) : List Int := (List.range 20).map fun i => if i % 2 = 0 then G X (i / 2) else G X (10 + i / 2)
@[simp] theorem ilv_len (X : List Int) : (ilv X).length = 20 := by simp [ilv]
theorem ilv_at (X : List Int) {w : Nat} (hw : w < 10) : Lo (ilv X) w = G X w ∧ Hi (ilv X) w = G X (10 + w) := by
  unfold Lo Hi ilv
  constructor
  · have : w * 2 < 20 := by omega
    simp [G, this]
  · have h1 : w * 2 + 1 < 20 := by omega
    have h2 : (w * 2 + 1) % 2 = 1 := by omega
    have h3 : (w * 2 + 1) / 2 = w := by omega
    simp [G, h1, h2, h3]
/-- **What the package spring comes to is what the reference comes to.** -/
theorem after_ok {s : Sp} (hv : SpP s) {R L : List Int} (hR : R.length = 20) (hL : L.length = 20) (hS : Sb R) (h : RelC s.weeks.toNat R L) (h0 : ∀ w, w < 10 → s.weeks.toNat ≤ w → Lo R w = G L w ∧ Hi R w = G L (10 + w)) (rain : Int) :
    (∀ M, KeepP s.weeks.toNat s.fall (slTo s R rain s.book.length) M → Stp s.weeks.toNat s.fall (Lo M) (Hi M) → (∀ w, w < s.weeks.toNat → Lo M w ≤ Hi M w) → lvB s L rain ∧ M = ilv (lvL s L rain)) ∧
    (∀ M, KeepP s.weeks.toNat s.fall (slTo s R rain s.book.length) M → ∀ w, w < s.weeks.toNat → NoneAt M w → ¬lvB s L rain) := by
  have h1 := hv.1; unfold HeadP at h1
  obtain ⟨r1, r2⟩ := lines_rel hv hR hL hS h h0 rain s.book.length (Nat.le_refl _)
  have hC : (linesTo s L rain s.book.length).length = 20 := by rw [linesTo_len]; exact hL
  have href : RefP s.weeks.toNat s.fall (linesTo s L rain s.book.length) (lvL s L rain) := ref_ok hC (by omega) (by omega) (by omega)
  have hlv : lvB s L rain → Tr s.weeks.toNat s.fall (fun w => G (linesTo s L rain s.book.length) w) (fun w => G (linesTo s L rain s.book.length) (10 + w)) (fun w => G (lvL s L rain) w) ∧ Tr s.weeks.toNat s.fall (fun w => G (linesTo s L rain s.book.length) w) (fun w => G (linesTo s L rain s.book.length) (10 + w)) (fun w => G (lvL s L rain) (10 + w)) :=
    fun hb => ends_true href.stp (fun w hw => href.sub w (by omega)) hb
  have hno : ∀ t, Tr s.weeks.toNat s.fall (fun w => G (linesTo s L rain s.book.length) w) (fun w => G (linesTo s L rain s.book.length) (10 + w)) t → lvB s L rain := fun t ht w hw => by
    have := href.wn t ht w hw
    simp only at this
    omega
  refine ⟨fun M hM hst hne => ?_, fun M hM w hw hN hb => hM.none hw hN ⟨_, (r1.tr _).2 (hlv hb).1⟩⟩
  have hMt := ends_true (lo := Lo (slTo s R rain s.book.length)) (hi := Hi (slTo s R rain s.book.length)) hst (fun w hw => hM.sub w hw (hne w hw)) hne
  have hMt' := And.intro ((r1.tr _).1 hMt.1) ((r1.tr _).1 hMt.2)
  have hb := hno _ hMt'.1
  refine ⟨hb, ?_⟩
  have hwn : Wn s.weeks.toNat s.fall (fun w => G (linesTo s L rain s.book.length) w) (fun w => G (linesTo s L rain s.book.length) (10 + w)) (Lo M) (Hi M) := fun t ht => hM.wn t ((r1.tr t).2 ht)
  have hu := hull_unique hwn href.wn hMt' (hlv hb)
  refine list_ext20 hM.len (by simp) fun w hw => ?_
  obtain ⟨e1, e2⟩ := ilv_at (lvL s L rain) hw
  rw [e1, e2]
  by_cases hwn2 : w < s.weeks.toNat
  · exact hu w hwn2
  · have a := hM.rest w hw (by omega); have b := r2 w hw (by omega); have c := href.rest w hw (by omega)
    rw [a.1, a.2, b.1, b.2]
    exact ⟨c.1.symm, c.2.symm⟩
theorem keep_start {n : Nat} {f : Int} {C : List Int} (hl : C.length = 20) (hS : Sb C) : KeepP n f C C := ⟨hl, hS, fun _w _ _ => ⟨Int.le_refl _, Int.le_refl _⟩, fun _t ht w hw => ⟨(ht w hw).1, (ht w hw).2.1⟩, fun _w _ _ => ⟨rfl, rfl⟩⟩
end Go.S

/- What readings leave: both ways of reckoning. Nothing of Go stands here. -/
namespace Go.S
open Go.X (G)
theorem both_mem' {a b c d n : Int} : ((bothP a b c d).1 ≤ n ∧ n ≤ (bothP a b c d).2) ↔ ((a ≤ n ∧ n ≤ b) ∧ c ≤ n ∧ n ≤ d) := by
  unfold bothP
  split <;> simp only <;> omega
/-- A reading's span is of the numbers with which it is true. -/
theorem reads_mem {s : Sp} {x : Rd} (h1 : Spn s.a0 s.a1 1 600) (h2 : Spn x.s0 x.s1 0 99) (h3 : Wi x.bu 1 40) (h4 : 0 < x.s1) {n : Int} (hn : 0 ≤ n ∧ n ≤ s.most) : ((readsP s x).1 ≤ n ∧ n ≤ (readsP s x).2) ↔ Right s x n := by
  have hs : 0 < x.s1 * s.a1 := Int.mul_pos h4 (by omega)
  have hq : 0 ≤ x.s0 * s.a0 := Int.mul_nonneg (by omega) (by omega)
  unfold readsP
  rw [both_mem']
  have e1 : (3600 * x.bu + x.s1 * s.a1 - 1) / (x.s1 * s.a1) ≤ n ↔ 3600 * x.bu ≤ x.s1 * s.a1 * n := by
    rw [← Int.lt_add_one_iff, Int.ediv_lt_iff_lt_mul hs, Int.add_mul, Int.one_mul, Int.mul_comm n]
    generalize x.s1 * s.a1 * n = p
    generalize x.s1 * s.a1 = q
    omega
  have e2 : n ≤ (if 0 < x.s0 * s.a0 then min s.most (3600 * x.bu / (x.s0 * s.a0)) else s.most) ↔ x.s0 * s.a0 * n ≤ 3600 * x.bu := by
    split
    · rename_i hp
      have e3 : n ≤ 3600 * x.bu / (x.s0 * s.a0) ↔ x.s0 * s.a0 * n ≤ 3600 * x.bu := by
        rw [Int.le_ediv_iff_mul_le hp, Int.mul_comm n]
      rw [← e3]
      omega
    · have : x.s0 * s.a0 = 0 := by omega
      rw [this, Int.zero_mul]
      omega
  have e4 : 3600 * x.bu ≤ x.s1 * s.a1 * n → 0 < n := by
    intro h
    refine Decidable.byContradiction fun hn0 => ?_
    have : n = 0 := by omega
    rw [this, Int.mul_zero] at h
    omega
  constructor
  · rintro ⟨⟨a, b⟩, _⟩
    exact ⟨⟨e4 (e1.1 a), e2.1 b⟩, e1.1 a⟩
  · rintro ⟨⟨_, a⟩, b⟩
    exact ⟨⟨e1.2 b, e2.2 a⟩, hn.1, hn.2⟩
theorem okTo_succ' {s : Sp} {w : Nat} {n : Int} {i : Nat} (hlt : i < s.reads.length) : OkTo s w n (i + 1) ↔ (OkTo s w n i ∧ ((s.reads.getD i default).wk ≠ w ∨ Right s (s.reads.getD i default) n)) := by
  have he : s.reads.getD i default = s.reads[i] := by simp [hlt]
  rw [he]
  constructor
  · intro h
    exact ⟨fun k hk h' => h k (by omega) h', h i (by omega) hlt⟩
  · rintro ⟨h1, h2⟩ k hk h
    by_cases e : k = i
    · subst e; exact h2
    · exact h1 k (by omega) h
theorem fl0_at {s : Sp} : ∀ k, k ≤ 10 → ∀ w, w < 10 → Lo (fl0 s k) w = 0 ∧ Hi (fl0 s k) w = (if w < k then s.most else 0)
  | 0, _, w, hw => by
    have h : ∀ i, i < 10 → G (List.replicate 20 (0 : Int)) (i * 2) = 0 ∧ G (List.replicate 20 (0 : Int)) (i * 2 + 1) = 0 := by decide
    have := h w hw
    simp only [fl0, Lo, Hi, this.1, this.2]
    simp
  | k + 1, hk, w, hw => by
    have ih := fl0_at (s := s) k (by omega) w hw
    obtain ⟨h1, h2⟩ := set2_at (fl0_len s k) (i := k) (j := w) (by omega) hw (0, s.most)
    simp only [fl0, h1, h2]
    by_cases e : k = w
    · subst e; rw [if_pos rfl, if_pos rfl, if_pos (by omega)]; exact ⟨rfl, rfl⟩
    · rw [if_neg e, if_neg e, ih.1, ih.2]
      refine ⟨rfl, ?_⟩
      by_cases e2 : w < k
      · rw [if_pos e2, if_pos (by omega)]
      · rw [if_neg e2, if_neg (by omega)]
theorem flTo_mem {s : Sp} (hv : SpP s) : ∀ k, k ≤ s.reads.length → ∀ w, w < s.weeks.toNat → (∀ n : Int, 0 ≤ n → n ≤ s.most → (OkTo s w n k ↔ (Lo (flTo s k) w ≤ n ∧ n ≤ Hi (flTo s k) w))) ∧ (Lo (flTo s k) w ≤ Hi (flTo s k) w → 0 ≤ Lo (flTo s k) w ∧ Hi (flTo s k) w ≤ s.most)
  | 0, _, w, hw => by
    have h1 := hv.1; unfold HeadP at h1
    obtain ⟨a, b⟩ := fl0_at (s := s) s.weeks.toNat (by omega) w (by omega)
    rw [if_pos hw] at b
    simp only [flTo, a, b]
    refine ⟨fun n h0 h1 => ⟨fun _ => ⟨h0, h1⟩, fun _ i hi => absurd hi (Nat.not_lt_zero _)⟩, fun _ => ⟨Int.le_refl _, Int.le_refl _⟩⟩
  | k + 1, hk, w, hw => by
    have h1 := hv.1; unfold HeadP at h1
    obtain ⟨i1, i2⟩ := flTo_mem hv k (by omega) w hw
    have hr := ((reads_iff s).1 hv.2.2 k (by omega)).1
    obtain ⟨a, b⟩ := set2_at (flTo_len s k) (i := (s.reads.getD k default).wk.toNat) (j := w) (by omega) (by omega) (bothP (Lo (flTo s k) (s.reads.getD k default).wk.toNat) (Hi (flTo s k) (s.reads.getD k default).wk.toNat) (readsP s (s.reads.getD k default)).1 (readsP s (s.reads.getD k default)).2)
    simp only [flTo, a, b]
    by_cases e : (s.reads.getD k default).wk.toNat = w
    · rw [if_pos e, if_pos e, e]
      refine ⟨fun n h0 hm => ?_, fun hne => ?_⟩
      · rw [okTo_succ' (by omega), both_mem', i1 n h0 hm, reads_mem h1.2.2.2.1 (by omega) (by omega) (by omega) ⟨h0, hm⟩]
        have : (s.reads.getD k default).wk = (w : Int) := by omega
        constructor
        · rintro ⟨p, q⟩
          exact ⟨p, q.resolve_left (fun hh => hh this)⟩
        · rintro ⟨p, q⟩
          exact ⟨p, .inr q⟩
      · have := both_sub hne
        have := i2 (by omega)
        omega
    · rw [if_neg e, if_neg e]
      refine ⟨fun n h0 hm => ?_, i2⟩
      rw [okTo_succ' (by omega), i1 n h0 hm]
      have : (s.reads.getD k default).wk ≠ (w : Int) := by omega
      constructor
      · rintro ⟨p, _⟩; exact p
      · intro p; exact ⟨p, .inl this⟩
theorem okP_iff {s : Sp} {w : Nat} {n : Int} : OkP s w n ↔ OkTo s w n s.reads.length := ⟨fun h i _ h' => h i h', fun h i h' => h i h' h'⟩
/-- What week w comes to, number by number: the least and the greatest that are right. -/
theorem weekTo_mem {s : Sp} (hm : Wi s.most 0 100) {L : List Int} (hL : L.length = 20) {w : Nat} (hw : w < 10) {lo hi : Int} (hok : ∀ n : Int, 0 ≤ n → n ≤ s.most → (OkP s w n ↔ (lo ≤ n ∧ n ≤ hi))) (hb : lo ≤ hi → 0 ≤ lo ∧ hi ≤ s.most) :
    ∀ j, j ≤ s.most.toNat + 1 → (weekTo s L w j).length = 20 ∧ (∀ v, v < 10 → v ≠ w → G (weekTo s L w j) v = G L v ∧ G (weekTo s L w j) (10 + v) = G L (10 + v)) ∧
      ((lo ≤ hi ∧ lo < j ∧ G (weekTo s L w j) w = lo ∧ G (weekTo s L w j) (10 + w) = min hi (j - 1)) ∨ ((¬lo ≤ hi ∨ (j : Int) ≤ lo) ∧ G (weekTo s L w j) w = s.most + 1 ∧ G (weekTo s L w j) (10 + w) = -1))
  | 0, _ => by
    have a := fun (v : Nat) (hv : v < 10) => setA_at hL hw hv (s.most + 1) (-1)
    refine ⟨by simp [weekTo, hL], fun v hv hne => ?_, .inr ⟨?_, ?_, ?_⟩⟩
    · have := a v hv
      simp only [weekTo]
      rw [this.1, this.2, if_neg (Ne.symm hne), if_neg (Ne.symm hne)]; exact ⟨rfl, rfl⟩
    · by_cases e : lo ≤ hi
      · right; have := hb e; omega
      · exact .inl e
    · simp only [weekTo]; rw [(a w hw).1, if_pos rfl]
    · simp only [weekTo]; rw [(a w hw).2, if_pos rfl]
  | j + 1, hj => by
    obtain ⟨i1, i2, i3⟩ := weekTo_mem hm hL hw hok hb j (by omega)
    have hokj := hok j (by omega) (by omega)
    simp only [weekTo, bstep]
    by_cases hc : OkP s w j
    · rw [if_pos hc]
      have a := fun (v : Nat) (hv : v < 10) => setA_at i1 hw hv (min (G (weekTo s L w j) w) (j : Int)) (j : Int)
      have hin := hokj.1 hc
      refine ⟨by simp [i1], fun v hv hne => ?_, ?_⟩
      · have := a v hv
        rw [this.1, this.2, if_neg (Ne.symm hne), if_neg (Ne.symm hne)]; exact i2 v hv hne
      · rw [(a w hw).1, (a w hw).2, if_pos rfl, if_pos rfl]
        left
        rcases i3 with ⟨p1, p2, p3, p4⟩ | ⟨p1, p2, p3⟩
        · rw [p3]; omega
        · rw [p2]; omega
    · rw [if_neg hc]
      refine ⟨i1, i2, ?_⟩
      have hin : ¬(lo ≤ (j : Int) ∧ (j : Int) ≤ hi) := fun h => hc (hokj.2 h)
      rcases i3 with ⟨p1, p2, p3, p4⟩ | ⟨p1, p2, p3⟩
      · left; rw [p3, p4]; omega
      · by_cases e : lo ≤ hi
        · right
          refine ⟨.inr ?_, p2, p3⟩
          omega
        · exact .inr ⟨.inl e, p2, p3⟩
theorem base_rel {s : Sp} (hv : SpP s) : ∀ k, k ≤ s.weeks.toNat → (baseTo s k).length = 20 ∧ (∀ w, w < k → ((Lo (flL s) w = G (baseTo s k) w ∧ Hi (flL s) w = G (baseTo s k) (10 + w)) ∨ (Hi (flL s) w < Lo (flL s) w ∧ G (baseTo s k) (10 + w) < G (baseTo s k) w))) ∧ (∀ w, w < 10 → k ≤ w → G (baseTo s k) w = 0 ∧ G (baseTo s k) (10 + w) = 0)
  | 0, _ => by
    refine ⟨by simp [baseTo], fun w hw => absurd hw (Nat.not_lt_zero _), fun w hw _ => ?_⟩
    have h : ∀ i, i < 10 → G (List.replicate 20 (0 : Int)) i = 0 ∧ G (List.replicate 20 (0 : Int)) (10 + i) = 0 := by decide
    exact h w hw
  | k + 1, hk => by
    have h1 := hv.1; unfold HeadP at h1
    obtain ⟨i1, i2, i3⟩ := base_rel hv k (by omega)
    obtain ⟨m1, m2⟩ := flTo_mem hv s.reads.length (Nat.le_refl _) k (by omega)
    obtain ⟨w1, w2, w3⟩ := weekTo_mem h1.2.1 i1 (w := k) (by omega) (lo := Lo (flL s) k) (hi := Hi (flL s) k) (fun n h0 hm => by rw [okP_iff]; exact m1 n h0 hm) m2 (s.most.toNat + 1) (Nat.le_refl _)
    refine ⟨w1, fun w hw => ?_, fun w h10 hw => ?_⟩
    · simp only [baseTo]
      by_cases e : w = k
      · subst e
        rcases w3 with ⟨p1, p2, p3, p4⟩ | ⟨p1, p2, p3⟩
        · left
          rw [p3, p4]
          have := m2 p1
          have : Hi (flL s) w ≤ s.most := this.2
          omega
        · right
          rw [p2, p3]
          refine ⟨?_, by omega⟩
          rcases p1 with p1 | p1
          · omega
          · refine Decidable.byContradiction fun hne => ?_
            have h5 : Lo (flL s) w ≤ Hi (flL s) w := by omega
            have h6 := m2 h5
            have h7 : 0 ≤ Lo (flL s) w ∧ Hi (flL s) w ≤ s.most := h6
            omega
      · have := w2 w (by omega) e
        rw [this.1, this.2]
        exact i2 w (by omega)
    · simp only [baseTo]
      have := w2 w h10 (by omega)
      rw [this.1, this.2]
      exact i3 w h10 (by omega)
theorem flTo_rest {s : Sp} (hv : SpP s) : ∀ k, k ≤ s.reads.length → ∀ w, w < 10 → s.weeks.toNat ≤ w → Lo (flTo s k) w = 0 ∧ Hi (flTo s k) w = 0
  | 0, _, w, h10, hw => by
    have h1 := hv.1; unfold HeadP at h1
    obtain ⟨a, b⟩ := fl0_at (s := s) s.weeks.toNat (by omega) w h10
    rw [if_neg (by omega)] at b
    exact ⟨a, b⟩
  | k + 1, hk, w, h10, hw => by
    have h1 := hv.1; unfold HeadP at h1
    have ih := flTo_rest hv k (by omega) w h10 hw
    have hr := ((reads_iff s).1 hv.2.2 k (by omega)).1
    obtain ⟨a, b⟩ := set2_at (flTo_len s k) (i := (s.reads.getD k default).wk.toNat) (j := w) (by omega) h10 (bothP (Lo (flTo s k) (s.reads.getD k default).wk.toNat) (Hi (flTo s k) (s.reads.getD k default).wk.toNat) (readsP s (s.reads.getD k default)).1 (readsP s (s.reads.getD k default)).2)
    simp only [flTo, a, b]
    rw [if_neg (by omega), if_neg (by omega)]
    exact ih
/-- R and L say the same of a valid spring's weeks. -/
structure RelW (s : Sp) (R L : List Int) : Prop where
  lr : R.length = 20
  ll : Bd L
  sb : Sb R
  rel : RelC s.weeks.toNat R L
  rest : ∀ w, w < 10 → s.weeks.toNat ≤ w → Lo R w = G L w ∧ Hi R w = G L (10 + w)
theorem relW {s : Sp} (hv : SpP s) : RelW s (flL s) (baseL s) := by
  obtain ⟨a, b, c⟩ := base_rel hv s.weeks.toNat (Nat.le_refl _)
  refine ⟨flTo_len s _, baseL_Bd hv, flTo_sb hv _ (Nat.le_refl _), b, fun w h10 hw => ?_⟩
  have d := c w h10 hw
  have e := flTo_rest hv s.reads.length (Nat.le_refl _) w h10 hw
  unfold baseL
  rw [d.1, d.2]
  exact e
end Go.S

/- The end of the package spring's reckoning. Nothing of Go stands here. -/
namespace Go.S
open Go.X (G)
theorem mu_less {f : Int} {M W : List Int} (hM : M.length = 20) (hS : Sb M) (hne : W ≠ M) (k : Nat) (hk : k ≤ 9) :
    2 * (sumW (psTo f M k) 10).toNat + (if M = psTo f M k then 0 else 1) < 2 * (sumW M 10).toNat + (if W = M then 0 else 1) := by
  rw [if_neg hne]
  obtain ⟨h1, h2⟩ := ps_less (f := f) hM hS k hk
  have p1 := sumW_nonneg h1 10 (Nat.le_refl _)
  have p2 := sumW_nonneg hS 10 (Nat.le_refl _)
  rcases h2 with ⟨_, h2⟩ | h2
  · rw [h2, if_pos rfl]; omega
  · split <;> omega
theorem after_end {s : Sp} (hv : SpP s) {R L : List Int} (hW : RelW s R L) {rain : Int} {W : List Int} (hM : KeepP s.weeks.toNat s.fall (slTo s R rain s.book.length) W)
    (hWM : (∀ j, j < 10 → Lo W j = 0 ∧ Hi W j = 0) ∨ (Sb W ∧ W = psTo s.fall W (s.weeks.toNat - 1) ∧ Alive s.fall W (s.weeks.toNat - 1))) :
    ((∀ w, w < s.weeks.toNat → ¬NoneAt W w) ↔ lvB s L rain) ∧ (lvB s L rain → W = ilv (lvL s L rain)) := by
  have h1 := hv.1; unfold HeadP at h1
  obtain ⟨a1, a2⟩ := after_ok hv hW.lr hW.ll.len hW.sb hW.rel hW.rest rain
  have hnn : (∀ w, w < s.weeks.toNat → ¬NoneAt W w) → lvB s L rain ∧ W = ilv (lvL s L rain) := by
    intro hnn
    have hne : ∀ w, w < s.weeks.toNat → Lo W w ≤ Hi W w := fun w hw => by
      have := hM.sb w (by omega)
      have h3 := hnn w hw
      unfold NoneAt at h3
      omega
    refine a1 W hM ?_ hne
    rcases hWM with hz | ⟨hS, he, _⟩
    · exact stp_zero (by omega) fun w hw => hz w (by omega)
    · obtain ⟨_, h2⟩ := ps_less (f := s.fall) hM.len hS (s.weeks.toNat - 1) (by omega)
      rcases h2 with ⟨h2, _⟩ | h2
      · exact stp_of_same hM.len hS (by omega) (by omega) (fun j hj => ⟨(h2 j (by omega)).1, (h2 j (by omega)).2.1⟩) hne
      · rw [← he] at h2; omega
  have hall : lvB s L rain → ∀ w, w < s.weeks.toNat → ¬NoneAt W w := fun hb w hw hN => a2 W hM w hw hN hb
  exact ⟨⟨fun h => (hnn h).1, hall⟩, fun h => (hnn (hall h)).2⟩
end Go.S

/- Spans in rows; what a rain leaves, handed back. -/
namespace Go.S
open Go Go.X Go.RowKit
def pairs (M : List Int) (n : Nat) : List (List Value) := (List.range n).map fun i => [.int .i64 (Lo M i), .int .i64 (Hi M i)]
@[simp] theorem length_pairs (M : List Int) (n : Nat) : (pairs M n).length = n := by simp [pairs]
variable {w0 w : World} {own : X.Own}
theorem pairAt {ao : Option Addr} {M : List Int} {n : Nat} (h : RowsAt w ao 2 (pairs M n)) {i : Nat} (hi : i < n) :
    ∃ b o, ao = some ⟨b, o, none⟩ ∧ ∀ own, Mem w own b (o + i * 2) [.int .i64 (Lo M i), .int .i64 (Hi M i)] := h.get (by simp [pairs, hi])
theorem ownPairs (hI : Inv w0 own w) {i b : Nat} {M : List Int} {E : TypeId} {fz : Nat × Nat} (hi : own[i]? = some (b, .cells ⟨ints M⟩ E fz)) {n : Nat} (hM : n * 2 ≤ M.length) : RowsAt w (some ⟨b, 0, none⟩) 2 (pairs M n) :=
  RowsAt.ofOwn hI hi fun k r hk j u hj => by
    simp only [pairs, List.getElem?_map, Option.map_eq_some_iff] at hk
    obtain ⟨i', hi', rfl⟩ := hk
    obtain ⟨hlt, he⟩ := List.getElem?_eq_some_iff.1 hi'
    simp at he hlt
    subst he
    match j, hj with
    | 0, hj => simp at hj; subst hj; exact intsAtX rfl (by omega)
    | 1, hj => simp at hj; subst hj; exact intsAtX rfl (by omega)
    | j + 2, hj => simp at hj
/-- What a rain leaves, handed back: all that is told if there is no truth is that there is none. -/
structure AfterR (s : Sp) (L : List Int) (rain : Int) (v : Value) : Prop where
  ex : ∃ M : List Int, M.length = 20 ∧ (lvB s L rain → M = ilv (lvL s L rain)) ∧ v = .tuple ⟨[.agg ⟨ints M⟩, .bool (decide (lvB s L rain))]⟩
end Go.S
namespace Go.S
open Go Go.X
theorem span_none {M : List Int} {k : Nat} : ([1, 0] = [Lo M k, Hi M k]) ↔ NoneAt M k := by
  unfold NoneAt
  constructor
  · intro h
    obtain ⟨h1, h2⟩ := List.cons.inj h
    exact ⟨h1.symm, (List.cons.inj h2).1.symm⟩
  · rintro ⟨h1, h2⟩; rw [h1, h2]
theorem after_bool {M : List Int} {n : Nat} {p : Prop} [Decidable p] (h : (∀ w, w < n → ¬NoneAt M w) ↔ p) : decide (¬0 ≤ idxF (fun k => [1, 0] = [Lo M k, Hi M k]) n) = decide p := by
  refine decide_eq_decide.2 ?_
  rw [← h, idxF_nonneg]
  constructor
  · intro hn w hw hN; exact hn ⟨w, hw, span_none.2 hN⟩
  · rintro hn ⟨w, hw, hN⟩; exact hn w hw (span_none.1 hN)
end Go.S

/- What all rains leave of each week. Nothing of Go stands here. -/
namespace Go.S
open Go.X (G)
def mk20 (lo hi : Nat → Int) : List Int := (List.range 20).map fun i => if i % 2 = 0 then lo (i / 2) else hi (i / 2)
@[simp] theorem mk20_len (lo hi : Nat → Int) : (mk20 lo hi).length = 20 := by simp [mk20]
theorem mk20_at (lo hi : Nat → Int) {w : Nat} (hw : w < 10) : Lo (mk20 lo hi) w = lo w ∧ Hi (mk20 lo hi) w = hi w := by
  unfold Lo Hi mk20
  constructor
  · have : w * 2 < 20 := by omega
    simp [G, this]
  · have h1 : w * 2 + 1 < 20 := by omega
    have h2 : (w * 2 + 1) % 2 = 1 := by omega
    have h3 : (w * 2 + 1) / 2 = w := by omega
    simp [G, h1, h2, h3]
def oLo (n : Nat) (A : List (List Int)) (i : Nat) : Int := if A = [] ∨ n ≤ i then 0 else hLo A i
def oHi (n : Nat) (A : List (List Int)) (i : Nat) : Int := if A = [] ∨ n ≤ i then 0 else hHi A i
def outL (n : Nat) (A : List (List Int)) : List Int := mk20 (oLo n A) (oHi n A)
theorem hTo_snoc {A : List (List Int)} (X : List Int) (w : Nat) (hA : A ≠ []) : ∀ k, k ≤ A.length → hLoTo (A ++ [X]) w k = hLoTo A w k ∧ hHiTo (A ++ [X]) w k = hHiTo A w k
  | 0, _ => by
    have h0 : 0 < A.length := List.length_pos_iff.2 hA
    have e : (A ++ [X]).getD 0 [] = A.getD 0 [] := by rw [List.getD_eq_getElem?_getD, List.getD_eq_getElem?_getD, List.getElem?_append_left h0]
    simp only [hLoTo, hHiTo, e]; exact ⟨trivial, trivial⟩
  | k + 1, hk => by
    have ih := hTo_snoc X w hA k (by omega)
    have h0 : k < A.length := by omega
    have e : (A ++ [X]).getD k [] = A.getD k [] := by rw [List.getD_eq_getElem?_getD, List.getD_eq_getElem?_getD, List.getElem?_append_left h0]
    simp only [hLoTo, hHiTo, ih.1, ih.2, e]; exact ⟨trivial, trivial⟩
theorem h_snoc {A : List (List Int)} (X : List Int) (w : Nat) : hLo (A ++ [X]) w = (if A = [] then G X w else min (hLo A w) (G X w)) ∧ hHi (A ++ [X]) w = (if A = [] then G X (10 + w) else max (hHi A w) (G X (10 + w))) := by
  by_cases hA : A = []
  · subst hA
    rw [if_pos rfl, if_pos rfl]
    simp [hLo, hHi, hLoTo, hHiTo]
  · rw [if_neg hA, if_neg hA]
    have h := hTo_snoc X w hA A.length (Nat.le_refl _)
    unfold hLo hHi
    rw [show (A ++ [X]).length = A.length + 1 by simp]
    simp only [hLoTo, hHiTo, h.1, h.2]
    simp
/-- One rain more: week j. -/
theorem o_snoc {n : Nat} {A : List (List Int)} (X : List Int) {i : Nat} (hi : i < n) : oLo n (A ++ [X]) i = (if A = [] then G X i else min (oLo n A i) (G X i)) ∧ oHi n (A ++ [X]) i = (if A = [] then G X (10 + i) else max (oHi n A i) (G X (10 + i))) := by
  obtain ⟨h1, h2⟩ := h_snoc (A := A) X i
  unfold oLo oHi
  have hne : ¬((A ++ [X]) = [] ∨ n ≤ i) := by
    rintro (h | h)
    · simp at h
    · omega
  simp only [if_neg hne, h1, h2]
  by_cases hA : A = []
  · simp only [if_pos hA]; exact ⟨trivial, trivial⟩
  · have hne2 : ¬(A = [] ∨ n ≤ i) := by
      rintro (h | h)
      · exact hA h
      · omega
    simp only [if_neg hA, if_neg hne2]; exact ⟨trivial, trivial⟩
theorem o_rest {n : Nat} {A : List (List Int)} {i : Nat} (hi : n ≤ i) : oLo n A i = 0 ∧ oHi n A i = 0 := by
  unfold oLo oHi
  rw [if_pos (.inr hi), if_pos (.inr hi)]; exact ⟨rfl, rfl⟩
/-- M holds what the rains of A leave. -/
structure IsO (n : Nat) (A : List (List Int)) (M : List Int) : Prop where
  len : M.length = 20
  at_ : ∀ i, i < 10 → Lo M i = oLo n A i ∧ Hi M i = oHi n A i
theorem IsO.eq {n : Nat} {A : List (List Int)} {M : List Int} (h : IsO n A M) : M = outL n A :=
  list_ext20 h.len (by simp [outL]) fun j hj => by
    obtain ⟨h1, h2⟩ := mk20_at (oLo n A) (oHi n A) hj
    have := h.at_ j hj
    rw [this.1, this.2]; exact ⟨h1.symm, h2.symm⟩
theorem IsO.zero (n : Nat) : IsO n [] (List.replicate 20 0) := ⟨by simp, fun i hi => by
  have h : ∀ i, i < 10 → G (List.replicate 20 (0 : Int)) (i * 2) = 0 ∧ G (List.replicate 20 (0 : Int)) (i * 2 + 1) = 0 := by decide
  have := h i hi
  simp only [Lo, Hi, this.1, this.2, oLo, oHi, true_or, if_true, and_self]⟩
/-- Weeks below j have the new rain. -/
structure MidO (n : Nat) (A : List (List Int)) (X : List Int) (j : Nat) (M : List Int) : Prop where
  len : M.length = 20
  new_ : ∀ i, i < j → i < 10 → Lo M i = oLo n (A ++ [X]) i ∧ Hi M i = oHi n (A ++ [X]) i
  old_ : ∀ i, j ≤ i → i < 10 → Lo M i = oLo n A i ∧ Hi M i = oHi n A i
theorem IsO.mid {n : Nat} {A : List (List Int)} {M : List Int} (h : IsO n A M) (X : List Int) : MidO n A X 0 M := ⟨h.len, fun _i hi => absurd hi (Nat.not_lt_zero _), fun i _ hi => h.at_ i hi⟩
theorem MidO.done {n : Nat} {A : List (List Int)} {X M : List Int} (h : MidO n A X n M) : IsO n (A ++ [X]) M := ⟨h.len, fun i hi => by
  by_cases e : i < n
  · exact h.new_ i e hi
  · have a := h.old_ i (by omega) hi
    have b := o_rest (A := A) (show n ≤ i by omega); have c := o_rest (A := A ++ [X]) (show n ≤ i by omega)
    omega⟩
theorem MidO.next {n : Nat} {A : List (List Int)} {X M M3 : List Int} {j : Nat} (h : MidO n A X j M) (hj : j < n) (hn : n ≤ 10) (h3 : M3 = if A = [] then set2 M j (G X j, G X (10 + j)) else M) :
    MidO n A X (j + 1) (set2 M3 j (min (Lo M3 j) (G X j), max (Hi M3 j) (G X (10 + j)))) := by
  have hl : M3.length = 20 := by rw [h3]; split <;> simp [h.len]
  have hs := o_snoc (A := A) X hj
  have hold := h.old_ j (Nat.le_refl _) (by omega)
  have e3 : Lo M3 j = (if A = [] then G X j else oLo n A j) ∧ Hi M3 j = (if A = [] then G X (10 + j) else oHi n A j) := by
    rw [h3]
    by_cases hA : A = []
    · rw [if_pos hA, if_pos hA, if_pos hA]
      obtain ⟨a, b⟩ := set2_at h.len (i := j) (j := j) (by omega) (by omega) (G X j, G X (10 + j))
      rw [a, b, if_pos rfl, if_pos rfl]; exact ⟨rfl, rfl⟩
    · rw [if_neg hA, if_neg hA, if_neg hA]; exact hold
  have e4 : ∀ i, i < 10 → i ≠ j → Lo M3 i = Lo M i ∧ Hi M3 i = Hi M i := fun i hi hne => by
    rw [h3]
    by_cases hA : A = []
    · rw [if_pos hA]
      obtain ⟨a, b⟩ := set2_at h.len (i := j) (j := i) (by omega) hi (G X j, G X (10 + j))
      rw [a, b, if_neg (Ne.symm hne), if_neg (Ne.symm hne)]; exact ⟨rfl, rfl⟩
    · rw [if_neg hA]; exact ⟨rfl, rfl⟩
  refine ⟨by simp [hl], fun i hi h10 => ?_, fun i hi h10 => ?_⟩
  · obtain ⟨a, b⟩ := set2_at hl (i := j) (j := i) (by omega) h10 (min (Lo M3 j) (G X j), max (Hi M3 j) (G X (10 + j)))
    rw [a, b]
    by_cases e : j = i
    · subst e
      rw [if_pos rfl, if_pos rfl, hs.1, hs.2, e3.1, e3.2]
      by_cases hA : A = []
      · simp only [if_pos hA]; omega
      · simp only [if_neg hA]; exact ⟨trivial, trivial⟩
    · rw [if_neg e, if_neg e, (e4 i h10 (Ne.symm e)).1, (e4 i h10 (Ne.symm e)).2]
      exact h.new_ i (by omega) h10
  · obtain ⟨a, b⟩ := set2_at hl (i := j) (j := i) (by omega) h10 (min (Lo M3 j) (G X j), max (Hi M3 j) (G X (10 + j)))
    rw [a, b, if_neg (by omega), if_neg (by omega), (e4 i h10 (by omega)).1, (e4 i h10 (by omega)).2]
    exact h.old_ i (by omega) h10
end Go.S

/- What the package spring is asked, handed back. -/
namespace Go.S
open Go Go.X
def askE (s : Sp) (p : Prop) [Decidable p] (e : Int) : Int := if ¬SpP s then 10 else if ¬p then e else if TrueP s then 0 else 8
def outA (s : Sp) : List Int := outL s.weeks.toNat (lvsL s (baseL s) (rnsL s (baseL s)))
structure AskR (s : Sp) (bo ro : Option Addr) (bc rc : Nat) (p : Prop) [Decidable p] (e : Int) (v : Value) : Prop where
  ex : ∃ W O, W.length = 29 ∧ W.all isOne = true ∧ O.length = 20 ∧ v = .tuple ⟨[.agg ⟨W⟩, .agg ⟨ints O⟩, .int .i64 (askE s p e)]⟩ ∧ (SpP s → p → TrueP s → W = watC s bo ro bc rc (flL s) ∧ O = outA s)
end Go.S
namespace Go.S
open Go Go.X
theorem askE_told {s : Sp} {week : Int} {p : Prop} [Decidable p] (hp : SpP s → (p ↔ Wi week 0 (s.weeks - 1))) : askE s p 11 = toldE s week := by
  unfold askE toldE TrueP
  by_cases hv : SpP s
  · have hq := hp hv
    by_cases h : p
    · have hw := hq.1 h
      by_cases ht : rnsL s (baseL s) = []
      · rw [if_neg (c := ¬SpP s) (fun hn => hn hv), if_neg (c := ¬SpP s) (fun hn => hn hv), if_neg (c := ¬p) (fun hn => hn h), if_neg (c := ¬Wi week 0 (s.weeks - 1)) (fun hn => hn hw), if_pos ht, if_neg (fun hn => hn ht)]
      · rw [if_neg (c := ¬SpP s) (fun hn => hn hv), if_neg (c := ¬SpP s) (fun hn => hn hv), if_neg (c := ¬p) (fun hn => hn h), if_neg (c := ¬Wi week 0 (s.weeks - 1)) (fun hn => hn hw), if_neg ht, if_pos ht]
    · have hw : ¬Wi week 0 (s.weeks - 1) := fun hn => h (hq.2 hn)
      rw [if_neg (c := ¬SpP s) (fun hn => hn hv), if_neg (c := ¬SpP s) (fun hn => hn hv), if_pos h, if_pos hw]
  · rw [if_pos hv, if_pos hv]
theorem outA_at {s : Sp} {week : Int} (h : toldE s week = 0) : Lo (outA s) week.toNat = givesLo s week ∧ Hi (outA s) week.toNat = givesHi s week := by
  obtain ⟨hv, hw, ht⟩ := toldE_valid h
  have h1 := hv.1; unfold HeadP at h1
  obtain ⟨a, b⟩ := mk20_at (oLo s.weeks.toNat (lvsL s (baseL s) (rnsL s (baseL s)))) (oHi s.weeks.toNat (lvsL s (baseL s) (rnsL s (baseL s)))) (w := week.toNat) (by omega)
  have hA : ¬(lvsL s (baseL s) (rnsL s (baseL s)) = [] ∨ s.weeks.toNat ≤ week.toNat) := by
    rintro (h | h)
    · exact ht (by simpa [lvsL] using h)
    · omega
  unfold outA outL
  rw [a, b, givesLo, givesHi, if_pos h, if_pos h, toldA, toldL_ok h, oLo, oHi, if_neg hA, if_neg hA]
  exact ⟨rfl, rfl⟩
end Go.S

/- Supplies, sets of streets, what can be: the plain words. Nothing of Go stands here. -/
namespace Go.T
open Go.S
structure Fo where
  id : Int
  sp : Sp
  deriving DecidableEq, Inhabited
structure Sr where
  (id n0 n1 least : Int)
  draws : List Int
  deriving DecidableEq, Inhabited
structure Su where
  founts : List Fo
  streets : List Sr
  deriving DecidableEq, Inhabited
/-- There is a fountain of this id. -/
def HasF (u : Su) (id : Int) : Prop := ∃ x ∈ u.founts, x.id = id
instance (u : Su) (id : Int) : Decidable (HasF u id) := by unfold HasF; infer_instance
def lastF (u : Su) : Nat → Int
  | 0 => 0
  | k + 1 => (u.founts.getD k default).id
def lastR (u : Su) : Nat → Int
  | 0 => 0
  | k + 1 => (u.streets.getD k default).id
def lastD (l : List Int) : Nat → Int
  | 0 => 0
  | k + 1 => l.getD k 0
abbrev FoP (last : Int) (x : Fo) : Prop := Wi x.id (last + 1) 9999 ∧ SpP x.sp
/-- What a street draws from: there, and each once. -/
def DrP (u : Su) (l : List Int) : Prop := ∀ i, i < l.length → lastD l i < l.getD i 0 ∧ HasF u (l.getD i 0)
instance (u : Su) (l : List Int) : Decidable (DrP u l) := by unfold DrP; infer_instance
abbrev SrP (u : Su) (last : Int) (x : Sr) : Prop := Wi x.id (last + 1) 9999 ∧ Spn x.n0 x.n1 0 100 ∧ Wi x.least 0 x.n0 ∧ DrP u x.draws
def SizeP (u : Su) : Prop := (1 ≤ u.founts.length ∧ u.founts.length ≤ 4) ∧ u.streets.length ≤ 5
def FountsP (u : Su) : Prop := ∀ i, i < u.founts.length → FoP (lastF u i) (u.founts.getD i default)
def StreetsP (u : Su) : Prop := ∀ i, i < u.streets.length → SrP u (lastR u i) (u.streets.getD i default)
instance (u : Su) : Decidable (SizeP u) := by unfold SizeP; infer_instance
instance (u : Su) : Decidable (FountsP u) := by unfold FountsP; infer_instance
instance (u : Su) : Decidable (StreetsP u) := by unfold StreetsP; infer_instance
/-- A valid supply. -/
def SuP (u : Su) : Prop := SizeP u ∧ FountsP u ∧ StreetsP u
instance (u : Su) : Decidable (SuP u) := by unfold SuP; infer_instance
theorem lastF_pos {u : Su} (h : FountsP u) : ∀ k, k ≤ u.founts.length → 0 ≤ lastF u k
  | 0, _ => Int.le_refl _
  | k + 1, hk => by
    have ih := lastF_pos h k (by omega)
    have h1 := (h k (by omega)).1.1
    simp only [lastF]; omega
/-- How many weeks there are: the fewest of all springs. -/
def longTo (u : Su) : Nat → Int
  | 0 => 10
  | k + 1 => min (longTo u k) (u.founts.getD k default).sp.weeks
def long (u : Su) : Int := longTo u u.founts.length
/-! ### sets of streets, by bits -/
/-- A set of streets, by bits, has street i. -/
abbrev hasI (b i : Nat) : Prop := b / 2 ^ i % 2 = 1
/-- Some street of a set, of the first k, draws from a fountain. -/
def opnB (u : Su) (b : Nat) (id : Int) : Nat → Prop
  | 0 => False
  | k + 1 => opnB u b id k ∨ (hasI b k ∧ id ∈ (u.streets.getD k default).draws)
instance opensD (u : Su) (b : Nat) (id : Int) : (k : Nat) → Decidable (opnB u b id k)
  | 0 => .isFalse fun h => h
  | k + 1 => by unfold opnB; have := opensD u b id k; infer_instance
/-- What all fountains of the first k give from which some of a set can draw. -/
def thrTo (u : Su) (b : Nat) (water : List Int) : Nat → Int
  | 0 => 0
  | k + 1 => if opnB u b (u.founts.getD k default).id u.streets.length then thrTo u b water k + water.getD k 0 else thrTo u b water k
def thr (u : Su) (b : Nat) (water : List Int) : Int := thrTo u b water u.founts.length
def sumTo (b : Nat) (l : List Int) : Nat → Int
  | 0 => 0
  | k + 1 => if hasI b k then sumTo b l k + l.getD k 0 else sumTo b l k
/-- The sum of the numbers of a set. -/
def sumB (b : Nat) (l : List Int) : Int := sumTo b l l.length
/-- A sharing can be: no streets get more than there is for them. -/
def CanP (u : Su) (water l : List Int) : Prop := ∀ b, b < 2 ^ l.length → sumB b l ≤ thr u b water
instance (u : Su) (water l : List Int) : Decidable (CanP u water l) := by unfold CanP; infer_instance
theorem sumTo_mono {b : Nat} {l m : List Int} : ∀ k, (∀ i, i < k → l.getD i 0 ≤ m.getD i 0) → sumTo b l k ≤ sumTo b m k
  | 0, _ => Int.le_refl _
  | k + 1, h => by
    have ih := sumTo_mono (b := b) k (fun i hi => h i (by omega))
    have h1 := h k (by omega)
    simp only [sumTo]; split <;> omega
/-- Who gets less can have it too. -/
theorem CanP.mono {u : Su} {water l m : List Int} (h : CanP u water m) (hl : l.length = m.length) (hm : ∀ i, i < m.length → l.getD i 0 ≤ m.getD i 0) : CanP u water l := by
  intro b hb
  have h1 := h b (by rw [← hl]; exact hb)
  have h2 : sumTo b l m.length ≤ sumTo b m m.length := sumTo_mono _ hm
  unfold sumB at *
  rw [hl]; omega
/-- What streets need, at best the least of it. -/
def needs (u : Su) (best : Bool) : List Int := u.streets.map fun x => if best then x.n0 else x.n1
def leasts (u : Su) : List Int := u.streets.map Sr.least
end Go.T

/- Sets of streets together: more than one set. Nothing of Go stands here. -/
namespace Go.T
open Go.S
/-- A number between all that it must reach and all that it must not pass. -/
theorem between (f g : Nat → Int) (p q : Nat → Prop) [DecidablePred p] (h0 : ∀ b, q b → 0 ≤ g b) (h : ∀ b c, p b → q c → f b ≤ g c) : ∀ N : Nat, ∃ n : Int, 0 ≤ n ∧ (∀ b, b < N → p b → f b ≤ n) ∧ (∀ c, q c → n ≤ g c) ∧ (n = 0 ∨ ∃ b, b < N ∧ p b ∧ n = f b)
  | 0 => ⟨0, Int.le_refl _, fun b hb => by omega, fun c hc => h0 c hc, .inl rfl⟩
  | N + 1 => by
    obtain ⟨n, hn, h1, h2, h3⟩ := between f g p q h0 h N
    by_cases hp : p N ∧ n < f N
    · refine ⟨f N, by omega, fun b hb hpb => ?_, fun c hc => h N c hp.1 hc, .inr ⟨N, by omega, hp.1, rfl⟩⟩
      by_cases e : b = N
      · rw [e]; omega
      · have := h1 b (by omega) hpb; omega
    · refine ⟨n, hn, fun b hb hpb => ?_, h2, h3.imp id fun ⟨b, hb, x⟩ => ⟨b, by omega, x⟩⟩
      by_cases e : b = N
      · subst e
        by_cases hlt : n < f b
        · exact absurd ⟨hpb, hlt⟩ hp
        · omega
      · exact h1 b (by omega) hpb
end Go.T

/- A street draws from one fountain less: what can be pulled. Nothing of Go stands here. -/
namespace Go.T
open Go.S
/-- A supply of which street i draws from others. -/
def withD (u : Su) (i : Nat) (ds : List Int) : Su := { u with streets := u.streets.set i { u.streets.getD i default with draws := ds } }
theorem getD_set_self {l : List Int} {k : Nat} (a : Int) (h : k < l.length) : (l.set k a).getD k 0 = a := by
  simp [List.getD_eq_getElem?_getD, h]
theorem getD_set_ne {l : List Int} {k j : Nat} (a : Int) (h : j ≠ k) : (l.set k a).getD j 0 = l.getD j 0 := by
  simp only [List.getD_eq_getElem?_getD]; rw [List.getElem?_set_ne (fun e => h e.symm)]
/-- What there is for a set, if one fountain gives n less. -/
theorem thrTo_less {u : Su} {b a : Nat} {w : List Int} (n : Int) (ha : a < w.length) : ∀ k, thrTo u b (w.set a (w.getD a 0 - n)) k = thrTo u b w k - if a < k ∧ opnB u b (u.founts.getD a default).id u.streets.length then n else 0
  | 0 => by simp [thrTo]
  | k + 1 => by
    have ih := thrTo_less (u := u) (b := b) n ha k
    simp only [thrTo]; rw [ih]
    by_cases e : k = a
    · subst e; rw [getD_set_self _ ha]
      by_cases hb : opnB u b (u.founts.getD k default).id u.streets.length
      · rw [if_pos hb, if_pos hb, if_neg (by omega), if_pos ⟨by omega, hb⟩]; omega
      · rw [if_neg hb, if_neg hb, if_neg (by omega), if_neg (fun h => hb h.2)]
    · rw [getD_set_ne _ e]
      by_cases hb : a < k ∧ opnB u b (u.founts.getD a default).id u.streets.length
      · rw [if_pos hb, if_pos (show a < k + 1 ∧ _ from ⟨by omega, hb.2⟩)]; split <;> omega
      · rw [if_neg hb, if_neg (show ¬(a < k + 1 ∧ _) from fun h => hb ⟨by omega, h.2⟩)]; split <;> omega
end Go.T

/- A pull that lets the rest be: there always is one. Nothing of Go stands here. -/
namespace Go.T
open Go.S
end Go.T

/- A street that has got all its share may draw from anywhere. Nothing of Go stands here. -/
namespace Go.T
open Go.S
end Go.T

/- How many pints more are enough. Nothing of Go stands here. -/
namespace Go.T
open Go.S
/-- What a set lacks. -/
def lack (u : Su) (w l : List Int) (b : Nat) : Int := sumB b l - thr u b w
def maxL (u : Su) (w l : List Int) : Nat → Int
  | 0 => 0
  | k + 1 => max (maxL u w l k) (lack u w l k)
theorem maxL_le (u : Su) (w l : List Int) (n : Int) : ∀ N, maxL u w l N ≤ n ↔ 0 ≤ n ∧ ∀ b, b < N → lack u w l b ≤ n
  | 0 => by simp [maxL]
  | N + 1 => by
    have ih := maxL_le u w l n N
    simp only [maxL]
    constructor
    · intro h
      have h1 := ih.1 (by omega)
      refine ⟨h1.1, fun b hb => ?_⟩
      by_cases e : b = N
      · subst e; omega
      · exact h1.2 b (by omega)
    · rintro ⟨h1, h2⟩
      have h3 := ih.2 ⟨h1, fun b hb => h2 b (by omega)⟩
      have h4 := h2 N (by omega)
      omega
theorem thr_more {u : Su} {a : Nat} {w : List Int} (n : Int) (ha : a < u.founts.length) (haw : a < w.length) (b : Nat) :
    thr u b (w.set a (w.getD a 0 + n)) = thr u b w + if opnB u b (u.founts.getD a default).id u.streets.length then n else 0 := by
  have h := thrTo_less (u := u) (b := b) (-n) haw u.founts.length
  rw [show w.getD a 0 - -n = w.getD a 0 + n by omega] at h
  unfold thr
  rw [h]
  by_cases hb : opnB u b (u.founts.getD a default).id u.streets.length
  · rw [if_pos ⟨ha, hb⟩, if_pos hb]; omega
  · rw [if_neg (fun x => hb x.2), if_neg hb]; omega
/-- So many pints more are enough just if no set lacks more. -/
theorem more_iff {u : Su} {a : Nat} {w l : List Int} {n : Int} (ha : a < u.founts.length) (haw : a < w.length) (hn : 0 ≤ n)
    (hok : ∀ b, b < 2 ^ l.length → lack u w l b ≤ 0 ∨ opnB u b (u.founts.getD a default).id u.streets.length) :
    CanP u (w.set a (w.getD a 0 + n)) l ↔ maxL u w l (2 ^ l.length) ≤ n := by
  rw [maxL_le]
  constructor
  · intro h
    refine ⟨hn, fun b hb => ?_⟩
    have h1 := h b hb
    rw [thr_more n ha haw] at h1
    unfold lack
    split at h1 <;> omega
  · rintro ⟨_, h⟩ b hb
    have h1 := h b hb
    rw [thr_more n ha haw]
    unfold lack at h1
    rcases hok b hb with h2 | h2
    · unfold lack at h2; split <;> omega
    · rw [if_pos h2]; omega
/-- No pints more are enough for a set that cannot draw from there. -/
theorem more_none {u : Su} {a b : Nat} {w l : List Int} (n : Int) (ha : a < u.founts.length) (haw : a < w.length) (hb : b < 2 ^ l.length)
    (h1 : 0 < lack u w l b) (h2 : ¬ opnB u b (u.founts.getD a default).id u.streets.length) : ¬ CanP u (w.set a (w.getD a 0 + n)) l := by
  intro h
  have h3 := h b hb
  rw [thr_more n ha haw, if_neg h2] at h3
  unfold lack at h1
  omega
/-! ### the fair sharing: one for which it cannot be once can get no more later -/
/-- Street i can have a pint more. -/
def UpP (u : Su) (w l : List Int) (i : Nat) : Prop := l.getD i 0 + 1 ≤ (u.streets.getD i default).n1 ∧ CanP u w (l.set i (l.getD i 0 + 1))
instance (u : Su) (w l : List Int) (i : Nat) : Decidable (UpP u w l i) := by unfold UpP; infer_instance
theorem UpP.mono {u : Su} {w l m : List Int} {i : Nat} (h : UpP u w m i) (hi : i < l.length) (hl : l.length = m.length) (hm : ∀ j, j < m.length → l.getD j 0 ≤ m.getD j 0) : UpP u w l i := by
  have h1 := hm i (by omega)
  refine ⟨by have := h.1; omega, ?_⟩
  refine h.2.mono (by simp only [List.length_set]; exact hl) fun j hj => ?_
  rw [List.length_set] at hj
  by_cases e : j = i
  · subst e; rw [getD_set_self _ hi, getD_set_self _ (by omega)]; omega
  · rw [getD_set_ne _ e, getD_set_ne _ e]; exact hm j hj
/-- The least of those that are open, of the first k: its index. -/
def poorTo (p : Nat → Prop) [DecidablePred p] (l : List Int) : Nat → Option Nat
  | 0 => none
  | k + 1 => match poorTo p l k with
    | none => if p k then some k else none
    | some a => if p k ∧ l.getD k 0 < l.getD a 0 then some k else some a
end Go.T

/- Supplies in memory; the variables of the package town. -/
namespace Go.T
open Go Go.X Go.S Go.RowKit
/-- Where a spring's book and readings lie. -/
structure FA where
  (bo ro : Option Addr)
  (bc rc : Nat)
instance : Inhabited FA := ⟨⟨none, none, 0, 0⟩⟩
abbrev DA := Option Addr × Nat
def foC (x : Fo) (a : FA) : List Value := [.int .i64 x.id, .int .i64 x.sp.weeks, .int .i64 x.sp.most, .int .i64 x.sp.fall, .int .i64 x.sp.a0, .int .i64 x.sp.a1, .int .i64 x.sp.w0, .int .i64 x.sp.w1, .slice a.bo x.sp.book.length a.bc, .slice a.ro x.sp.reads.length a.rc]
def srC (x : Sr) (a : DA) : List Value := [.int .i64 x.id, .int .i64 x.n0, .int .i64 x.n1, .int .i64 x.least, .slice a.1 x.draws.length a.2]
def foRows (u : Su) (fa : Nat → FA) : List (List Value) := (List.range u.founts.length).map fun i => foC (u.founts.getD i default) (fa i)
def srRows (u : Su) (sa : Nat → DA) : List (List Value) := (List.range u.streets.length).map fun i => srC (u.streets.getD i default) (sa i)
/-- A supply in memory. -/
structure SuAt (w : World) (u : Su) (fo so : Option Addr) (fa : Nat → FA) (sa : Nat → DA) : Prop where
  founts : RowsAt w fo 10 (foRows u fa)
  springs : ∀ i, i < u.founts.length → SpAt w (u.founts.getD i default).sp (fa i).bo (fa i).ro
  streets : RowsAt w so 5 (srRows u sa)
  draws : ∀ i, i < u.streets.length → RowsAt w (sa i).1 1 (ones (u.streets.getD i default).draws)
section
variable {w0 w w' : World} {own : X.Own} {u : Su} {fo so : Option Addr} {fa : Nat → FA} {sa : Nat → DA}
theorem SuAt.inv (h : SuAt w0 u fo so fa sa) (hI : Inv w0 own w) : SuAt w u fo so fa sa :=
  ⟨h.founts.inv hI, fun i hi => (h.springs i hi).inv hI, h.streets.inv hI, fun i hi => (h.draws i hi).inv hI⟩
theorem SuAt.below (h : SuAt w0 u fo so fa sa) (hb : Below w0.heap.size w0 w) : SuAt w u fo so fa sa := h.inv (own := []) ⟨hb, fun _ h => (by cases h), List.nodup_nil⟩
theorem foRows_get {i : Nat} (hi : i < u.founts.length) : (foRows u fa)[i]? = some (foC (u.founts.getD i default) (fa i)) := by simp [foRows, hi]
theorem srRows_get {i : Nat} (hi : i < u.streets.length) : (srRows u sa)[i]? = some (srC (u.streets.getD i default) (sa i)) := by simp [srRows, hi]
theorem SuAt.fount (h : SuAt w u fo so fa sa) {i : Nat} (hi : i < u.founts.length) : ∃ b o, fo = some ⟨b, o, none⟩ ∧ ∀ own, Mem w own b (o + i * 10) (foC (u.founts.getD i default) (fa i)) :=
  h.founts.get (foRows_get hi)
theorem SuAt.street (h : SuAt w u fo so fa sa) {i : Nat} (hi : i < u.streets.length) : ∃ b o, so = some ⟨b, o, none⟩ ∧ ∀ own, Mem w own b (o + i * 5) (srC (u.streets.getD i default) (sa i)) :=
  h.streets.get (srRows_get hi)
end
/-- A supply that is not great. -/
def LitP (u : Su) : Prop := (u.founts.length ≤ 8 ∧ u.streets.length ≤ 10) ∧ (∀ i, i < u.founts.length → (u.founts.getD i default).sp.book.length ≤ 30 ∧ (u.founts.getD i default).sp.reads.length ≤ 30) ∧ ∀ i, i < u.streets.length → (u.streets.getD i default).draws.length ≤ 20
instance (u : Su) : Decidable (LitP u) := by unfold LitP; infer_instance
def tckId : Nat → Nat
  | 0 => 143
  | 1 => 144
  | _ => 145
def tckFn (k : Nat) : Value := .func (.func (tckId k)) ⟨[]⟩ ⟨[]⟩
def tckCells : List Value := [tckFn 0, tckFn 1, tckFn 2]
/-- What the packages' variables hold. -/
structure Gt (w : World) : Prop where
  gl : Gl w
  checks : ∀ j v, tckCells[j]? = some v → w.cell? ⟨0, 0 + j, none⟩ = some v
theorem Gt.inv {w0 w : World} {own : X.Own} (h : Gt w0) (hI : Inv w0 own w) : Gt w := ⟨h.gl.inv hI, fun j v hj => cell_keep (h.checks j v hj) hI.below⟩
theorem Gt.memC {w : World} (h : Gt w) (own : X.Own) : Mem w own 0 0 tckCells := Mem.out h.checks
theorem tck_take (k : Nat) (hk : k < 3) : takeAt tckCells ((k : Int).toNat * 1) 1 = some [tckFn k] := by
  match k, hk with
  | 0, _ => rfl
  | 1, _ => rfl
  | 2, _ => rfl
def tckP (u : Su) : Nat → Prop
  | 0 => (1 ≤ (u.founts.length : Int) ∧ (u.founts.length : Int) ≤ 4) ∧ (u.streets.length : Int) ≤ 5
  | 1 => FountsP u
  | _ => StreetsP u
instance (u : Su) : ∀ k, Decidable (tckP u k)
  | 0 => inferInstanceAs (Decidable ((1 ≤ (u.founts.length : Int) ∧ (u.founts.length : Int) ≤ 4) ∧ (u.streets.length : Int) ≤ 5))
  | 1 => inferInstanceAs (Decidable (FountsP u))
  | _ + 2 => inferInstanceAs (Decidable (StreetsP u))
theorem tck_iff (u : Su) : SuP u ↔ ∀ k, k < 3 → tckP u k := by
  constructor
  · intro h k hk
    match k, hk with
    | 0, _ => have := h.1; unfold SizeP at this; simp only [tckP]; omega
    | 1, _ => exact h.2.1
    | 2, _ => exact h.2.2
  · intro h
    refine ⟨?_, h 1 (by omega), h 2 (by omega)⟩
    have := h 0 (by omega)
    simp only [tckP] at this
    unfold SizeP; omega
/-- The index of a fountain, -1 if there is none. -/
def fountI (u : Su) (id : Int) : Int := idxF (fun k => (u.founts.getD k default).id = id) u.founts.length
theorem fountI_has {u : Su} {id : Int} : 0 ≤ fountI u id ↔ HasF u id := by
  unfold fountI; rw [idxF_nonneg]
  constructor
  · rintro ⟨k, hk, h⟩
    exact ⟨u.founts.getD k default, by rw [List.getD_eq_getElem?_getD, List.getElem?_eq_getElem hk]; exact List.getElem_mem hk, h⟩
  · rintro ⟨x, hx, h⟩
    obtain ⟨k, hk, rfl⟩ := List.getElem_of_mem hx
    exact ⟨k, hk, by rw [List.getD_eq_getElem?_getD, List.getElem?_eq_getElem hk]; exact h⟩
theorem idxF_lt {p : Nat → Prop} [DecidablePred p] {n : Nat} (h : 0 ≤ idxF p n) : (idxF p n).toNat < n ∧ p (idxF p n).toNat := by
  unfold idxF at *
  cases hf : (List.range n).find? (fun k => decide (p k)) with
  | none => rw [hf] at h; simp at h
  | some k =>
    have h1 := List.find?_some hf
    have h2 := List.mem_of_find?_eq_some hf
    simp at h1 h2
    simpa using ⟨h2, h1⟩
/-- A valid supply's ids rise. -/
theorem FountsP.rise {u : Su} (h : FountsP u) {i j : Nat} (hij : i < j) (hj : j < u.founts.length) : (u.founts.getD i default).id < (u.founts.getD j default).id := by
  induction j with
  | zero => omega
  | succ j ih =>
    have h1 := (h (j + 1) hj).1.1
    simp only [lastF] at h1
    by_cases e : i = j
    · subst e; omega
    · have := ih (by omega) (by omega); omega
theorem FountsP.inj {u : Su} (h : FountsP u) {i j : Nat} (hi : i < u.founts.length) (hj : j < u.founts.length) (e : (u.founts.getD i default).id = (u.founts.getD j default).id) : i = j := by
  rcases Nat.lt_trichotomy i j with h1 | h1 | h1
  · have := h.rise h1 hj; omega
  · exact h1
  · have := h.rise h1 hi; omega
theorem lastF_in {u : Su} : ∀ {k : Nat}, (∀ i, i < k → FoP (lastF u i) (u.founts.getD i default)) → 0 ≤ lastF u k ∧ lastF u k ≤ 9999
  | 0, _ => by simp [lastF]
  | k + 1, h => by
    have h1 := lastF_in (k := k) (fun i hi => h i (by omega))
    have h2 := (h k (by omega)).1
    simp only [lastF]; omega
theorem lastR_in {u : Su} : ∀ {k : Nat}, (∀ i, i < k → SrP u (lastR u i) (u.streets.getD i default)) → 0 ≤ lastR u k ∧ lastR u k ≤ 9999
  | 0, _ => by simp [lastR]
  | k + 1, h => by
    have h1 := lastR_in (k := k) (fun i hi => h i (by omega))
    have h2 := (h k (by omega)).1
    simp only [lastR]; omega
end Go.T

/- The closed facts on the program's types and functions that the walks use. Made by a program. -/
namespace Go.Proofs.YtolcicaclflagaaDoor
open Go Go.X
theorem fp_25_0 : fieldP Tryd.prog 25 0 = some 0 := by kernel_rfl
theorem fp_25_1 : fieldP Tryd.prog 25 1 = some 1 := by kernel_rfl
theorem fp_55_0 : fieldP Tryd.prog 55 0 = some 0 := by kernel_rfl
theorem fp_55_1 : fieldP Tryd.prog 55 1 = some 1 := by kernel_rfl
theorem fp_68_0 : fieldP Tryd.prog 68 0 = some 0 := by kernel_rfl
theorem fp_68_1 : fieldP Tryd.prog 68 1 = some 1 := by kernel_rfl
theorem fp_68_2 : fieldP Tryd.prog 68 2 = some 2 := by kernel_rfl
theorem fp_68_3 : fieldP Tryd.prog 68 3 = some 3 := by kernel_rfl
theorem fp_68_4 : fieldP Tryd.prog 68 4 = some 5 := by kernel_rfl
theorem fp_68_5 : fieldP Tryd.prog 68 5 = some 7 := by kernel_rfl
theorem fp_68_6 : fieldP Tryd.prog 68 6 = some 8 := by kernel_rfl
theorem fp_70_0 : fieldP Tryd.prog 70 0 = some 0 := by kernel_rfl
theorem fp_70_1 : fieldP Tryd.prog 70 1 = some 1 := by kernel_rfl
theorem fp_73_0 : fieldP Tryd.prog 73 0 = some 0 := by kernel_rfl
theorem fp_73_1 : fieldP Tryd.prog 73 1 = some 1 := by kernel_rfl
theorem fp_73_2 : fieldP Tryd.prog 73 2 = some 3 := by kernel_rfl
theorem fp_73_3 : fieldP Tryd.prog 73 3 = some 4 := by kernel_rfl
theorem fp_78_0 : fieldP Tryd.prog 78 0 = some 0 := by kernel_rfl
theorem fp_78_1 : fieldP Tryd.prog 78 1 = some 2 := by kernel_rfl
theorem fp_78_2 : fieldP Tryd.prog 78 2 = some 6 := by kernel_rfl
theorem fp_90_0 : fieldP Tryd.prog 90 0 = some 0 := by kernel_rfl
theorem fp_109_0 : fieldP Tryd.prog 109 0 = some 0 := by kernel_rfl
theorem fp_109_1 : fieldP Tryd.prog 109 1 = some 1 := by kernel_rfl
theorem fp_129_0 : fieldP Tryd.prog 129 0 = some 0 := by kernel_rfl
theorem fp_129_1 : fieldP Tryd.prog 129 1 = some 2 := by kernel_rfl
theorem fp_129_2 : fieldP Tryd.prog 129 2 = some 3 := by kernel_rfl
theorem fp_131_0 : fieldP Tryd.prog 131 0 = some 0 := by kernel_rfl
theorem fp_131_1 : fieldP Tryd.prog 131 1 = some 1 := by kernel_rfl
theorem fp_131_2 : fieldP Tryd.prog 131 2 = some 2 := by kernel_rfl
theorem fp_131_3 : fieldP Tryd.prog 131 3 = some 3 := by kernel_rfl
theorem fp_150_0 : fieldP Tryd.prog 150 0 = some 0 := by kernel_rfl
theorem fp_150_1 : fieldP Tryd.prog 150 1 = some 9 := by kernel_rfl
theorem fp_155_0 : fieldP Tryd.prog 155 0 = some 0 := by kernel_rfl
theorem fp_155_1 : fieldP Tryd.prog 155 1 = some 10 := by kernel_rfl
theorem fp_165_0 : fieldP Tryd.prog 165 0 = some 0 := by kernel_rfl
theorem ae_91 : arrE Tryd.prog 91 = some (90, 3, 1) := by kernel_rfl
theorem ae_166 : arrE Tryd.prog 166 = some (165, 5, 1) := by kernel_rfl
theorem eq_55 : eqP Tryd.prog 5 55 = some 2 := by kernel_rfl
theorem eg_55 : Tryd.prog.eqGuardType Tryd.prog.depth 55 = false := by kernel_rfl
theorem eq_129 : eqP Tryd.prog 5 129 = some 5 := by kernel_rfl
theorem eg_129 : Tryd.prog.eqGuardType Tryd.prog.depth 129 = false := by kernel_rfl
theorem eq_131 : eqP Tryd.prog 5 131 = some 5 := by kernel_rfl
theorem eg_131 : Tryd.prog.eqGuardType Tryd.prog.depth 131 = false := by kernel_rfl
theorem eq_148 : eqP Tryd.prog 5 148 = some 20 := by kernel_rfl
theorem eg_148 : Tryd.prog.eqGuardType Tryd.prog.depth 148 = false := by kernel_rfl
theorem sh_3 : shapeT Tryd.prog 3 = some none := by kernel_rfl
theorem sh_4 : shapeT Tryd.prog 4 = some none := by kernel_rfl
theorem sh_22 : shapeT Tryd.prog 22 = some none := by kernel_rfl
theorem sh_23 : shapeT Tryd.prog 23 = some none := by kernel_rfl
theorem sh_25 : shapeT Tryd.prog 25 = some (some 2) := by kernel_rfl
theorem sh_26 : shapeT Tryd.prog 26 = some none := by kernel_rfl
theorem sh_28 : shapeT Tryd.prog 28 = some none := by kernel_rfl
theorem sh_33 : shapeT Tryd.prog 33 = some none := by kernel_rfl
theorem sh_55 : shapeT Tryd.prog 55 = some (some 2) := by kernel_rfl
theorem sh_65 : shapeT Tryd.prog 65 = some none := by kernel_rfl
theorem sh_66 : shapeT Tryd.prog 66 = some none := by kernel_rfl
theorem sh_68 : shapeT Tryd.prog 68 = some (some 9) := by kernel_rfl
theorem sh_70 : shapeT Tryd.prog 70 = some (some 10) := by kernel_rfl
theorem sh_71 : shapeT Tryd.prog 71 = some none := by kernel_rfl
theorem sh_73 : shapeT Tryd.prog 73 = some (some 5) := by kernel_rfl
theorem sh_78 : shapeT Tryd.prog 78 = some (some 7) := by kernel_rfl
theorem sh_90 : shapeT Tryd.prog 90 = some (some 1) := by kernel_rfl
theorem sh_91 : shapeT Tryd.prog 91 = some (some 3) := by kernel_rfl
theorem sh_104 : shapeT Tryd.prog 104 = some none := by kernel_rfl
theorem sh_109 : shapeT Tryd.prog 109 = some (some 2) := by kernel_rfl
theorem sh_127 : shapeT Tryd.prog 127 = some (some 2) := by kernel_rfl
theorem sh_129 : shapeT Tryd.prog 129 = some (some 5) := by kernel_rfl
theorem sh_131 : shapeT Tryd.prog 131 = some (some 5) := by kernel_rfl
theorem sh_148 : shapeT Tryd.prog 148 = some (some 20) := by kernel_rfl
theorem sh_150 : shapeT Tryd.prog 150 = some (some 29) := by kernel_rfl
theorem sh_155 : shapeT Tryd.prog 155 = some (some 20) := by kernel_rfl
theorem sh_165 : shapeT Tryd.prog 165 = some (some 1) := by kernel_rfl
theorem sh_166 : shapeT Tryd.prog 166 = some (some 5) := by kernel_rfl
theorem sz_3 : sizeP Tryd.prog 3 = some 1 := by kernel_rfl
theorem sz_4 : sizeP Tryd.prog 4 = some 1 := by kernel_rfl
theorem sz_22 : sizeP Tryd.prog 22 = some 1 := by kernel_rfl
theorem sz_23 : sizeP Tryd.prog 23 = some 1 := by kernel_rfl
theorem sz_25 : sizeP Tryd.prog 25 = some 2 := by kernel_rfl
theorem sz_28 : sizeP Tryd.prog 28 = some 1 := by kernel_rfl
theorem sz_33 : sizeP Tryd.prog 33 = some 1 := by kernel_rfl
theorem sz_55 : sizeP Tryd.prog 55 = some 2 := by kernel_rfl
theorem sz_65 : sizeP Tryd.prog 65 = some 1 := by kernel_rfl
theorem sz_66 : sizeP Tryd.prog 66 = some 1 := by kernel_rfl
theorem sz_68 : sizeP Tryd.prog 68 = some 9 := by kernel_rfl
theorem sz_70 : sizeP Tryd.prog 70 = some 10 := by kernel_rfl
theorem sz_73 : sizeP Tryd.prog 73 = some 5 := by kernel_rfl
theorem sz_78 : sizeP Tryd.prog 78 = some 7 := by kernel_rfl
theorem sz_90 : sizeP Tryd.prog 90 = some 1 := by kernel_rfl
theorem sz_104 : sizeP Tryd.prog 104 = some 1 := by kernel_rfl
theorem sz_109 : sizeP Tryd.prog 109 = some 2 := by kernel_rfl
theorem sz_129 : sizeP Tryd.prog 129 = some 5 := by kernel_rfl
theorem sz_131 : sizeP Tryd.prog 131 = some 5 := by kernel_rfl
theorem sz_148 : sizeP Tryd.prog 148 = some 20 := by kernel_rfl
theorem sz_150 : sizeP Tryd.prog 150 = some 29 := by kernel_rfl
theorem sz_155 : sizeP Tryd.prog 155 = some 20 := by kernel_rfl
theorem sz_165 : sizeP Tryd.prog 165 = some 1 := by kernel_rfl
theorem zp_3 : zeroP Tryd.prog 3 = some [.int .i64 0] := by kernel_rfl
theorem zp_4 : zeroP Tryd.prog 4 = some [.bool false] := by kernel_rfl
theorem zp_25 : zeroP Tryd.prog 25 = some [.slice none 0 0, .slice none 0 0] := by kernel_rfl
theorem zp_28 : zeroP Tryd.prog 28 = some [.int .i64 0] := by kernel_rfl
theorem zp_33 : zeroP Tryd.prog 33 = some [.slice none 0 0] := by kernel_rfl
theorem zp_55 : zeroP Tryd.prog 55 = some [.int .i64 0, .int .i64 0] := by kernel_rfl
theorem zp_68 : zeroP Tryd.prog 68 = some [.int .i64 0, .int .i64 0, .int .i64 0, .int .i64 0, .int .i64 0, .int .i64 0, .int .i64 0, .slice none 0 0, .slice none 0 0] := by kernel_rfl
theorem zp_70 : zeroP Tryd.prog 70 = some [.int .i64 0, .int .i64 0, .int .i64 0, .int .i64 0, .int .i64 0, .int .i64 0, .int .i64 0, .int .i64 0, .slice none 0 0, .slice none 0 0] := by kernel_rfl
theorem zp_73 : zeroP Tryd.prog 73 = some [.int .i64 0, .int .i64 0, .int .i64 0, .int .i64 0, .slice none 0 0] := by kernel_rfl
theorem zp_78 : zeroP Tryd.prog 78 = some [.slice none 0 0, .slice none 0 0, .int .i64 0, .int .i64 0, .int .i64 0, .int .i64 0, .slice none 0 0] := by kernel_rfl
theorem zp_90 : zeroP Tryd.prog 90 = some [.nilFunc] := by kernel_rfl
theorem zp_104 : zeroP Tryd.prog 104 = some [.slice none 0 0] := by kernel_rfl
theorem zp_109 : zeroP Tryd.prog 109 = some [.slice none 0 0, .int .i64 0] := by kernel_rfl
theorem zp_127 : zeroP Tryd.prog 127 = some [.bool false, .bool false] := by kernel_rfl
theorem zp_129 : zeroP Tryd.prog 129 = some [.int .i64 0, .int .i64 0, .int .i64 0, .int .i64 0, .int .i64 0] := by kernel_rfl
theorem zp_131 : zeroP Tryd.prog 131 = some [.int .i64 0, .int .i64 0, .int .i64 0, .int .i64 0, .int .i64 0] := by kernel_rfl
theorem zp_148 : zeroP Tryd.prog 148 = some [.int .i64 0, .int .i64 0, .int .i64 0, .int .i64 0, .int .i64 0, .int .i64 0, .int .i64 0, .int .i64 0, .int .i64 0, .int .i64 0, .int .i64 0, .int .i64 0, .int .i64 0, .int .i64 0, .int .i64 0, .int .i64 0, .int .i64 0, .int .i64 0, .int .i64 0, .int .i64 0] := by kernel_rfl
theorem zp_150 : zeroP Tryd.prog 150 = some [.int .i64 0, .int .i64 0, .int .i64 0, .int .i64 0, .int .i64 0, .int .i64 0, .int .i64 0, .slice none 0 0, .slice none 0 0, .int .i64 0, .int .i64 0, .int .i64 0, .int .i64 0, .int .i64 0, .int .i64 0, .int .i64 0, .int .i64 0, .int .i64 0, .int .i64 0, .int .i64 0, .int .i64 0, .int .i64 0, .int .i64 0, .int .i64 0, .int .i64 0, .int .i64 0, .int .i64 0, .int .i64 0, .int .i64 0] := by kernel_rfl
theorem zp_155 : zeroP Tryd.prog 155 = some [.int .i64 0, .int .i64 0, .int .i64 0, .int .i64 0, .int .i64 0, .int .i64 0, .int .i64 0, .int .i64 0, .int .i64 0, .int .i64 0, .int .i64 0, .int .i64 0, .int .i64 0, .int .i64 0, .int .i64 0, .int .i64 0, .int .i64 0, .int .i64 0, .int .i64 0, .int .i64 0] := by kernel_rfl
theorem zp_165 : zeroP Tryd.prog 165 = some [.nilFunc] := by kernel_rfl
theorem el_22 : elemP Tryd.prog 22 = some (none, 10) := by kernel_rfl
theorem el_23 : elemP Tryd.prog 23 = some (none, 5) := by kernel_rfl
theorem el_33 : elemP Tryd.prog 33 = some (none, 1) := by kernel_rfl
theorem el_65 : elemP Tryd.prog 65 = some (none, 5) := by kernel_rfl
theorem el_66 : elemP Tryd.prog 66 = some (none, 5) := by kernel_rfl
theorem el_76 : elemP Tryd.prog 76 = some (some 4, 1) := by kernel_rfl
theorem el_104 : elemP Tryd.prog 104 = some (none, 1) := by kernel_rfl
theorem el_127 : elemP Tryd.prog 127 = some (some 2, 1) := by kernel_rfl
theorem el_141 : elemP Tryd.prog 141 = some (none, 20) := by kernel_rfl
theorem el_148 : elemP Tryd.prog 148 = some (some 10, 2) := by kernel_rfl
theorem el_153 : elemP Tryd.prog 153 = some (some 10, 1) := by kernel_rfl
theorem el_176 : elemP Tryd.prog 176 = some (none, 2) := by kernel_rfl
theorem et_22 : elemT Tryd.prog 22 = some (70, 10) := by kernel_rfl
theorem et_23 : elemT Tryd.prog 23 = some (73, 5) := by kernel_rfl
theorem et_33 : elemT Tryd.prog 33 = some (3, 1) := by kernel_rfl
theorem et_65 : elemT Tryd.prog 65 = some (129, 5) := by kernel_rfl
theorem et_66 : elemT Tryd.prog 66 = some (131, 5) := by kernel_rfl
theorem et_104 : elemT Tryd.prog 104 = some (33, 1) := by kernel_rfl
theorem et_141 : elemT Tryd.prog 141 = some (155, 20) := by kernel_rfl
theorem ap_22 : apP Tryd.prog 22 = some (70, 10, 112) := by kernel_rfl
theorem ap_23 : apP Tryd.prog 23 = some (73, 5, 56) := by kernel_rfl
theorem ap_33 : apP Tryd.prog 33 = some (3, 1, 8) := by kernel_rfl
theorem ap_65 : apP Tryd.prog 65 = some (129, 5, 40) := by kernel_rfl
theorem ap_66 : apP Tryd.prog 66 = some (131, 5, 40) := by kernel_rfl
theorem ap_104 : apP Tryd.prog 104 = some (33, 1, 24) := by kernel_rfl
theorem ap_141 : apP Tryd.prog 141 = some (155, 20, 160) := by kernel_rfl
theorem is_22 : isSliceP Tryd.prog 22 = true := by kernel_rfl
theorem is_23 : isSliceP Tryd.prog 23 = true := by kernel_rfl
theorem is_33 : isSliceP Tryd.prog 33 = true := by kernel_rfl
theorem is_65 : isSliceP Tryd.prog 65 = true := by kernel_rfl
theorem is_66 : isSliceP Tryd.prog 66 = true := by kernel_rfl
theorem is_104 : isSliceP Tryd.prog 104 = true := by kernel_rfl
theorem is_141 : isSliceP Tryd.prog 141 = true := by kernel_rfl
theorem is_176 : isSliceP Tryd.prog 176 = true := by kernel_rfl
theorem pl_55 : placesP Tryd.prog 55 = some [(0, 1), (1, 1)] := by kernel_rfl
theorem pl_70 : placesP Tryd.prog 70 = some [(0, 1), (1, 9)] := by kernel_rfl
theorem pl_78 : placesP Tryd.prog 78 = some [(0, 2), (2, 4), (6, 1)] := by kernel_rfl
theorem ae_127 : arrE Tryd.prog 127 = some (4, 2, 1) := by kernel_rfl
theorem ae_148 : arrE Tryd.prog 148 = some (55, 10, 2) := by kernel_rfl
theorem pl_150 : placesP Tryd.prog 150 = some [(0, 9), (9, 20)] := by kernel_rfl
theorem fn_6 : fnOk Tryd.prog 6 = true := by kernel_rfl
theorem fn_7 : fnOk Tryd.prog 7 = true := by kernel_rfl
theorem fn_18 : fnOk Tryd.prog 18 = true := by kernel_rfl
theorem fn_20 : fnOk Tryd.prog 20 = true := by kernel_rfl
theorem fn_21 : fnOk Tryd.prog 21 = true := by kernel_rfl
theorem fn_27 : fnOk Tryd.prog 27 = true := by kernel_rfl
theorem fn_28 : fnOk Tryd.prog 28 = true := by kernel_rfl
theorem fn_29 : fnOk Tryd.prog 29 = true := by kernel_rfl
theorem fn_30 : fnOk Tryd.prog 30 = true := by kernel_rfl
theorem fn_31 : fnOk Tryd.prog 31 = true := by kernel_rfl
theorem fn_32 : fnOk Tryd.prog 32 = true := by kernel_rfl
theorem fn_33 : fnOk Tryd.prog 33 = true := by kernel_rfl
theorem fn_34 : fnOk Tryd.prog 34 = true := by kernel_rfl
theorem fn_35 : fnOk Tryd.prog 35 = true := by kernel_rfl
theorem fn_36 : fnOk Tryd.prog 36 = true := by kernel_rfl
theorem fn_37 : fnOk Tryd.prog 37 = true := by kernel_rfl
theorem fn_38 : fnOk Tryd.prog 38 = true := by kernel_rfl
theorem fn_39 : fnOk Tryd.prog 39 = true := by kernel_rfl
theorem fn_40 : fnOk Tryd.prog 40 = true := by kernel_rfl
theorem fn_41 : fnOk Tryd.prog 41 = true := by kernel_rfl
theorem fn_42 : fnOk Tryd.prog 42 = true := by kernel_rfl
theorem fn_44 : fnOk Tryd.prog 44 = true := by kernel_rfl
theorem fn_45 : fnOk Tryd.prog 45 = true := by kernel_rfl
theorem fn_46 : fnOk Tryd.prog 46 = true := by kernel_rfl
theorem fn_48 : fnOk Tryd.prog 48 = true := by kernel_rfl
theorem fn_49 : fnOk Tryd.prog 49 = true := by kernel_rfl
theorem fn_53 : fnOk Tryd.prog 53 = true := by kernel_rfl
theorem fn_54 : fnOk Tryd.prog 54 = true := by kernel_rfl
theorem fn_55 : fnOk Tryd.prog 55 = true := by kernel_rfl
theorem fn_57 : fnOk Tryd.prog 57 = true := by kernel_rfl
theorem fn_58 : fnOk Tryd.prog 58 = true := by kernel_rfl
theorem fn_59 : fnOk Tryd.prog 59 = true := by kernel_rfl
theorem fn_61 : fnOk Tryd.prog 61 = true := by kernel_rfl
theorem fn_62 : fnOk Tryd.prog 62 = true := by kernel_rfl
theorem fn_64 : fnOk Tryd.prog 64 = true := by kernel_rfl
theorem fn_65 : fnOk Tryd.prog 65 = true := by kernel_rfl
theorem fn_67 : fnOk Tryd.prog 67 = true := by kernel_rfl
theorem fn_68 : fnOk Tryd.prog 68 = true := by kernel_rfl
theorem fn_69 : fnOk Tryd.prog 69 = true := by kernel_rfl
theorem fn_70 : fnOk Tryd.prog 70 = true := by kernel_rfl
theorem fn_71 : fnOk Tryd.prog 71 = true := by kernel_rfl
theorem fn_72 : fnOk Tryd.prog 72 = true := by kernel_rfl
theorem fn_73 : fnOk Tryd.prog 73 = true := by kernel_rfl
theorem fn_74 : fnOk Tryd.prog 74 = true := by kernel_rfl
theorem fn_75 : fnOk Tryd.prog 75 = true := by kernel_rfl
theorem fn_76 : fnOk Tryd.prog 76 = true := by kernel_rfl
theorem fn_77 : fnOk Tryd.prog 77 = true := by kernel_rfl
theorem fn_78 : fnOk Tryd.prog 78 = true := by kernel_rfl
theorem fn_79 : fnOk Tryd.prog 79 = true := by kernel_rfl
theorem fn_80 : fnOk Tryd.prog 80 = true := by kernel_rfl
theorem fn_81 : fnOk Tryd.prog 81 = true := by kernel_rfl
theorem fn_82 : fnOk Tryd.prog 82 = true := by kernel_rfl
theorem fn_83 : fnOk Tryd.prog 83 = true := by kernel_rfl
theorem fn_84 : fnOk Tryd.prog 84 = true := by kernel_rfl
theorem fn_85 : fnOk Tryd.prog 85 = true := by kernel_rfl
theorem fn_86 : fnOk Tryd.prog 86 = true := by kernel_rfl
theorem fn_87 : fnOk Tryd.prog 87 = true := by kernel_rfl
theorem fn_88 : fnOk Tryd.prog 88 = true := by kernel_rfl
theorem fn_89 : fnOk Tryd.prog 89 = true := by kernel_rfl
theorem fn_90 : fnOk Tryd.prog 90 = true := by kernel_rfl
theorem fn_91 : fnOk Tryd.prog 91 = true := by kernel_rfl
theorem fn_92 : fnOk Tryd.prog 92 = true := by kernel_rfl
theorem fn_93 : fnOk Tryd.prog 93 = true := by kernel_rfl
theorem fn_94 : fnOk Tryd.prog 94 = true := by kernel_rfl
theorem fn_95 : fnOk Tryd.prog 95 = true := by kernel_rfl
theorem fn_96 : fnOk Tryd.prog 96 = true := by kernel_rfl
theorem fn_97 : fnOk Tryd.prog 97 = true := by kernel_rfl
theorem fn_98 : fnOk Tryd.prog 98 = true := by kernel_rfl
theorem fn_99 : fnOk Tryd.prog 99 = true := by kernel_rfl
theorem fn_100 : fnOk Tryd.prog 100 = true := by kernel_rfl
theorem fn_101 : fnOk Tryd.prog 101 = true := by kernel_rfl
theorem fn_102 : fnOk Tryd.prog 102 = true := by kernel_rfl
theorem fn_103 : fnOk Tryd.prog 103 = true := by kernel_rfl
theorem fn_104 : fnOk Tryd.prog 104 = true := by kernel_rfl
theorem fn_105 : fnOk Tryd.prog 105 = true := by kernel_rfl
theorem fn_106 : fnOk Tryd.prog 106 = true := by kernel_rfl
theorem fn_107 : fnOk Tryd.prog 107 = true := by kernel_rfl
theorem fn_108 : fnOk Tryd.prog 108 = true := by kernel_rfl
theorem fn_109 : fnOk Tryd.prog 109 = true := by kernel_rfl
theorem fn_110 : fnOk Tryd.prog 110 = true := by kernel_rfl
theorem fn_111 : fnOk Tryd.prog 111 = true := by kernel_rfl
theorem fn_112 : fnOk Tryd.prog 112 = true := by kernel_rfl
theorem fn_113 : fnOk Tryd.prog 113 = true := by kernel_rfl
theorem fn_114 : fnOk Tryd.prog 114 = true := by kernel_rfl
theorem fn_115 : fnOk Tryd.prog 115 = true := by kernel_rfl
theorem fn_116 : fnOk Tryd.prog 116 = true := by kernel_rfl
theorem fn_117 : fnOk Tryd.prog 117 = true := by kernel_rfl
theorem fn_118 : fnOk Tryd.prog 118 = true := by kernel_rfl
theorem fn_119 : fnOk Tryd.prog 119 = true := by kernel_rfl
theorem fn_120 : fnOk Tryd.prog 120 = true := by kernel_rfl
theorem fn_121 : fnOk Tryd.prog 121 = true := by kernel_rfl
theorem fn_122 : fnOk Tryd.prog 122 = true := by kernel_rfl
theorem fn_123 : fnOk Tryd.prog 123 = true := by kernel_rfl
theorem fn_124 : fnOk Tryd.prog 124 = true := by kernel_rfl
theorem fn_143 : fnOk Tryd.prog 143 = true := by kernel_rfl
theorem fn_144 : fnOk Tryd.prog 144 = true := by kernel_rfl
theorem fn_145 : fnOk Tryd.prog 145 = true := by kernel_rfl
theorem fn_146 : fnOk Tryd.prog 146 = true := by kernel_rfl
theorem fn_147 : fnOk Tryd.prog 147 = true := by kernel_rfl
theorem fn_148 : fnOk Tryd.prog 148 = true := by kernel_rfl
theorem fn_149 : fnOk Tryd.prog 149 = true := by kernel_rfl
theorem fn_150 : fnOk Tryd.prog 150 = true := by kernel_rfl
theorem fn_151 : fnOk Tryd.prog 151 = true := by kernel_rfl
theorem fn_152 : fnOk Tryd.prog 152 = true := by kernel_rfl
theorem fn_153 : fnOk Tryd.prog 153 = true := by kernel_rfl
theorem fn_154 : fnOk Tryd.prog 154 = true := by kernel_rfl
theorem fn_155 : fnOk Tryd.prog 155 = true := by kernel_rfl
theorem fn_156 : fnOk Tryd.prog 156 = true := by kernel_rfl
end Go.Proofs.YtolcicaclflagaaDoor

/- What the rows' lists and arguments give: the packages' variables, supplies, numbers. -/
namespace Go.Proofs.YtolcicaclflagaaDoor
open Go Go.X Go.S Go.T Go.RowKit Go.ChangeShapes Go.WideShapes Go.ChangeAt
theorem ownGd : ownKnob Tryd.prog.godebug = none := by kernel_rfl
theorem laidOut : laidOutB Tryd.prog = true := by kernel_rfl
theorem gChecks : Tryd.prog.globalNamed "aguador/spring.checks" = some 1 := by kernel_rfl
theorem tChecks : (Tryd.prog.globals[1]?).map (·.type) = some 166 := by kernel_rfl
theorem gNone : Tryd.prog.globalNamed "aguador/spring.none" = some 2 := by kernel_rfl
theorem tNone : (Tryd.prog.globals[2]?).map (·.type) = some 55 := by kernel_rfl
theorem cells165 : Tryd.prog.cellsOf 165 = 1 := by kernel_rfl
theorem cells166 : Tryd.prog.cellsOf 166 = 5 := by kernel_rfl
theorem cells71 : Tryd.prog.cellsOf 71 = 1 := by kernel_rfl
theorem cells3 : Tryd.prog.cellsOf 3 = 1 := by kernel_rfl
theorem cells55 : Tryd.prog.cellsOf 55 = 2 := by kernel_rfl
theorem int_val {H : Type} {enc : TypeId × Value → H} {P : Program} {w : World} {base : Nat} {sp : Nat → Bool} {held : Bool} {fuel : Nat} {t : TypeId} {cs : List Value} {k : IntKind} {n : Int} {p : List MemPlace}
    (hu : P.underlying t = some (.int k)) (h : DataW.trod enc P w base sp held fuel t cs = some (.lit (.int k n), p)) : cs = [.int k n] := by
  cases fuel with
  | zero => simp [DataW.trod] at h
  | succ m =>
    unfold DataW.trod at h
    rw [hu] at h
    split at h <;> simp_all
/-- The span 'none'. -/
theorem none_of_laid {l : List (String × DataW Unit)} {W : World} (h : laidMetH Tryd.prog l W) (hl : (l.filter fun x => x.2.handleName?.isNone) = [("aguador/spring.none", Rows.laid_aguador_spring_none)]) :
    ∀ j v, noneCells[j]? = some v → W.cell? ⟨2, 0 + j, none⟩ = some v := by
  have h1 := (laidMetH_iff.1 h).1
  rw [hl] at h1
  obtain ⟨ps, ⟨g, t, cs, fuel, p, q, hg, ht, hv, hd, _, _⟩, _⟩ := h1
  obtain rfl := Option.some.inj (gNone.symm.trans hg)
  obtain rfl := Option.some.inj (tNone.symm.trans ht)
  obtain ⟨y0, y1, n, hx, hlen, e0, e1⟩ := trod_struct2 Tryd.underlying55 hd
  obtain ⟨d0, p0⟩ := y0
  obtain ⟨d1, p1⟩ := y1
  simp only [Rows.laid_aguador_spring_none, Prod.mk.injEq, DataW.agg.injEq, List.cons.injEq, and_true] at hx
  obtain ⟨⟨rfl, rfl⟩, _⟩ := hx
  have c0 := int_val Tryd.underlying3 e0
  have c1 := int_val Tryd.underlying3 e1
  rw [cells3] at c0 c1
  rw [cells55] at hlen
  intro j v hj
  have hc := World.var?_cell hg hv j
  rw [Nat.zero_add]
  rw [hc]
  match j, hj with
  | 0, hj =>
    simp [noneCells] at hj
    subst hj
    have := congrArg (·[0]?) c0
    simpa using this
  | 1, hj =>
    simp [noneCells] at hj
    subst hj
    have := congrArg (·[0]?) c1
    simpa using this
  | j + 2, hj => simp [noneCells] at hj
/-- The table of checks. -/
theorem checks_of_laid {l : List (String × DataW Unit)} {W : World} (h : laidMetH Tryd.prog l W) (hl : ("aguador/spring.checks", Rows.laid_aguador_spring_checks) ∈ l) :
    ∀ j v, chkCells[j]? = some v → W.cell? ⟨1, 0 + j, none⟩ = some v := by
  obtain ⟨g, t, cs, fuel, p, hg, ht, hv, hd⟩ := h.funcs hl
  obtain rfl := Option.some.inj (gChecks.symm.trans hg)
  obtain rfl := Option.some.inj (tChecks.symm.trans ht)
  obtain ⟨xs, m, _, hx, hlen, hxl, hel⟩ := DataW.trod_array Tryd.underlying166 hd
  rw [cells165] at hel
  rw [cells166] at hlen
  have hds : xs.map (·.1) = (List.range 5).map fun k => DataW.agg [DataW.held ([97, 103, 117, 97, 100, 111, 114, 47, 115, 112, 114, 105, 110, 103, 46, 99, 104, 101, 99, 107, 115, 36] ++ [(49 + k : Nat).toUInt8])] := by
    have := congrArg (·.1) hx
    exact DataW.agg.inj (show DataW.agg (xs.map (·.1)) = DataW.agg _ from this.symm)
  intro j v hj
  have hc := World.var?_cell hg hv j
  rw [Nat.zero_add, hc]
  have hj5 : j < 5 := (List.getElem?_eq_some_iff.1 hj).1
  have he := hel j hj5
  rw [List.getElem?_eq_getElem (by omega)] at he
  have hd1 : (xs[j]'(by omega)).1 = DataW.agg [DataW.held ([97, 103, 117, 97, 100, 111, 114, 47, 115, 112, 114, 105, 110, 103, 46, 99, 104, 101, 99, 107, 115, 36] ++ [(49 + j : Nat).toUInt8])] := by
    have := congrArg (·[j]?) hds
    simp only [List.getElem?_map, List.getElem?_eq_getElem (show j < xs.length by omega), List.getElem?_range hj5, Option.map_some, Option.some.injEq] at this
    exact this
  obtain ⟨y0, n, hy, hyl, hf⟩ := trod_struct1 Tryd.underlying165 he
  rw [hy] at hd1
  obtain ⟨d0, p0⟩ := y0
  simp only [DataW.agg.injEq, List.cons.injEq, and_true] at hd1
  subst hd1
  rw [cells165] at hyl
  rw [cells71] at hf
  have hcell : ∃ u, cs.toList[j]? = some u := ⟨cs.toList[j]'(by omega), List.getElem?_eq_getElem (by omega)⟩
  obtain ⟨u, hu⟩ := hcell
  have ecs : ((((cs.toList.drop (j * 1)).take 1).drop 0).take 1) = [u] := by
    rw [Nat.mul_one, List.drop_zero]
    obtain ⟨h1, h2⟩ := List.getElem?_eq_some_iff.1 hu
    rw [List.drop_eq_getElem_cons h1, h2]
    rfl
  rw [ecs] at hf
  have key : ∀ (j : Nat) (u : Value) (q : List MemPlace), j < 5 → DataW.trod (funcToken Tryd.prog) Tryd.prog W 0 (fun _ => true) true n 71 [u] = some (.held ([97, 103, 117, 97, 100, 111, 114, 47, 115, 112, 114, 105, 110, 103, 46, 99, 104, 101, 99, 107, 115, 36] ++ [(49 + j : Nat).toUInt8]), q) → chkCells[j]? = some u := by
    intro j u q hj h
    match j, hj with
    | 0, _ => obtain rfl := func_of_trod (f0 := 147) Tryd.underlying71 (by kernel_rfl) h; rfl
    | 1, _ => obtain rfl := func_of_trod (f0 := 148) Tryd.underlying71 (by kernel_rfl) h; rfl
    | 2, _ => obtain rfl := func_of_trod (f0 := 150) Tryd.underlying71 (by kernel_rfl) h; rfl
    | 3, _ => obtain rfl := func_of_trod (f0 := 151) Tryd.underlying71 (by kernel_rfl) h; rfl
    | 4, _ => obtain rfl := func_of_trod (f0 := 154) Tryd.underlying71 (by kernel_rfl) h; rfl
  have hk := key j u _ hj5 hf
  rw [hj] at hk
  obtain rfl := Option.some.inj hk
  simpa using hu
theorem gTown : Tryd.prog.globalNamed "aguador/town.checks" = some 0 := by kernel_rfl
theorem tTown : (Tryd.prog.globals[0]?).map (·.type) = some 91 := by kernel_rfl
theorem cells90 : Tryd.prog.cellsOf 90 = 1 := by kernel_rfl
theorem cells91 : Tryd.prog.cellsOf 91 = 3 := by kernel_rfl
theorem cells26 : Tryd.prog.cellsOf 26 = 1 := by kernel_rfl
/-- The town's table of checks. -/
theorem tchecks_of_laid {l : List (String × DataW Unit)} {W : World} (h : laidMetH Tryd.prog l W) (hl : ("aguador/town.checks", Rows.laid_aguador_town_checks) ∈ l) :
    ∀ j v, tckCells[j]? = some v → W.cell? ⟨0, 0 + j, none⟩ = some v := by
  obtain ⟨g, t, cs, fuel, p, hg, ht, hv, hd⟩ := h.funcs hl
  obtain rfl := Option.some.inj (gTown.symm.trans hg)
  obtain rfl := Option.some.inj (tTown.symm.trans ht)
  obtain ⟨xs, m, _, hx, hlen, hxl, hel⟩ := DataW.trod_array Tryd.underlying91 hd
  rw [cells90] at hel
  rw [cells91] at hlen
  have hds : xs.map (·.1) = (List.range 3).map fun k => DataW.agg [DataW.held ([97, 103, 117, 97, 100, 111, 114, 47, 116, 111, 119, 110, 46, 99, 104, 101, 99, 107, 115, 36] ++ [(49 + k : Nat).toUInt8])] := by
    have := congrArg (·.1) hx
    exact DataW.agg.inj (show DataW.agg (xs.map (·.1)) = DataW.agg _ from this.symm)
  intro j v hj
  have hc := World.var?_cell hg hv j
  rw [Nat.zero_add, hc]
  have hj5 : j < 3 := (List.getElem?_eq_some_iff.1 hj).1
  have he := hel j hj5
  rw [List.getElem?_eq_getElem (by omega)] at he
  have hd1 : (xs[j]'(by omega)).1 = DataW.agg [DataW.held ([97, 103, 117, 97, 100, 111, 114, 47, 116, 111, 119, 110, 46, 99, 104, 101, 99, 107, 115, 36] ++ [(49 + j : Nat).toUInt8])] := by
    have := congrArg (·[j]?) hds
    simp only [List.getElem?_map, List.getElem?_eq_getElem (show j < xs.length by omega), List.getElem?_range hj5, Option.map_some, Option.some.injEq] at this
    exact this
  obtain ⟨y0, n, hy, hyl, hf⟩ := trod_struct1 Tryd.underlying90 he
  rw [hy] at hd1
  obtain ⟨d0, p0⟩ := y0
  simp only [DataW.agg.injEq, List.cons.injEq, and_true] at hd1
  subst hd1
  rw [cells90] at hyl
  rw [cells26] at hf
  have hcell : ∃ u, cs.toList[j]? = some u := ⟨cs.toList[j]'(by omega), List.getElem?_eq_getElem (by omega)⟩
  obtain ⟨u, hu⟩ := hcell
  have ecs : ((((cs.toList.drop (j * 1)).take 1).drop 0).take 1) = [u] := by
    rw [Nat.mul_one, List.drop_zero]
    obtain ⟨h1, h2⟩ := List.getElem?_eq_some_iff.1 hu
    rw [List.drop_eq_getElem_cons h1, h2]
    rfl
  rw [ecs] at hf
  have key : ∀ (j : Nat) (u : Value) (q : List MemPlace), j < 3 → DataW.trod (funcToken Tryd.prog) Tryd.prog W 0 (fun _ => true) true n 26 [u] = some (.held ([97, 103, 117, 97, 100, 111, 114, 47, 116, 111, 119, 110, 46, 99, 104, 101, 99, 107, 115, 36] ++ [(49 + j : Nat).toUInt8]), q) → tckCells[j]? = some u := by
    intro j u q hj h
    match j, hj with
    | 0, _ => obtain rfl := func_of_trod (f0 := 143) Tryd.underlying26 (by kernel_rfl) h; rfl
    | 1, _ => obtain rfl := func_of_trod (f0 := 144) Tryd.underlying26 (by kernel_rfl) h; rfl
    | 2, _ => obtain rfl := func_of_trod (f0 := 145) Tryd.underlying26 (by kernel_rfl) h; rfl
  have hk := key j u _ hj5 hf
  rw [hj] at hk
  obtain rfl := Option.some.inj hk
  simpa using hu
def i5 : List Ly := [.i .i64, .i .i64, .i .i64, .i .i64, .i .i64]
def spLay : List Ly := [.i .i64, .i .i64, .i .i64, .i .i64, .i .i64, .i .i64, .i .i64, .s i5, .s i5]
theorem lay3 : layP Tryd.prog 9 3 = some [.i .i64] := by kernel_rfl
theorem _root_.Go.X.FitL.un {one : Ly → Value → Prop} {y : Ly} {ys : List Ly} {vs : List Value} (h : FitL one (y :: ys) vs) : ∃ v r, vs = v :: r ∧ one y v ∧ FitL one ys r := by
  cases vs with
  | nil => exact h.elim
  | cons v r => exact ⟨v, r, rfl, h.1, h.2⟩
theorem _root_.Go.X.FitL.end_ {one : Ly → Value → Prop} {vs : List Value} (h : FitL one [] vs) : vs = [] := by
  cases vs with
  | nil => rfl
  | cons v r => exact h.elim
theorem fits5 {w : World} {n : Nat} {cs : List Value} (h : Fits w (n + 1) i5 cs) : ∃ a b c d e : Int, cs = [.int .i64 a, .int .i64 b, .int .i64 c, .int .i64 d, .int .i64 e] := by
  obtain ⟨_, r, rfl, h1, h⟩ := FitL.un h
  obtain ⟨_, r, rfl, h2, h⟩ := FitL.un h
  obtain ⟨_, r, rfl, h3, h⟩ := FitL.un h
  obtain ⟨_, r, rfl, h4, h⟩ := FitL.un h
  obtain ⟨_, r, rfl, h5, h⟩ := FitL.un h
  obtain rfl := FitL.end_ h
  obtain ⟨a, rfl, _⟩ := fit_i64 h1
  obtain ⟨b, rfl, _⟩ := fit_i64 h2
  obtain ⟨c, rfl, _⟩ := fit_i64 h3
  obtain ⟨d, rfl, _⟩ := fit_i64 h4
  obtain ⟨e, rfl, _⟩ := fit_i64 h5
  exact ⟨a, b, c, d, e, rfl⟩
/-- A slice of lines, of readings. -/
theorem rowsLn {w : World} {n : Nat} {rows : List (List Value)} (h : ∀ r ∈ rows, Fits w (n + 1) i5 r) : ∃ l : List Ln, rows = l.map Ln.cells :=
  exists_map fun r hr => by obtain ⟨a, b, c, d, e, rfl⟩ := fits5 (h r hr); exact ⟨⟨a, b, c, d, e⟩, rfl⟩
theorem rowsRd {w : World} {n : Nat} {rows : List (List Value)} (h : ∀ r ∈ rows, Fits w (n + 1) i5 r) : ∃ l : List Rd, rows = l.map Rd.cells :=
  exists_map fun r hr => by obtain ⟨a, b, c, d, e, rfl⟩ := fits5 (h r hr); exact ⟨⟨a, b, c, d, e⟩, rfl⟩
/-- A supply's slots. -/
def foLay : List Ly := [.i .i64, .i .i64, .i .i64, .i .i64, .i .i64, .i .i64, .i .i64, .i .i64, .s i5, .s i5]
def srLay : List Ly := [.i .i64, .i .i64, .i .i64, .i .i64, .s [.i .i64]]
def suLay : List Ly := [.s foLay, .s srLay]
theorem lay25 : layP Tryd.prog 9 25 = some suLay := by kernel_rfl
theorem lay4 : layP Tryd.prog 9 4 = some [.b] := by kernel_rfl
theorem fit_bool {w : World} {f : List Ly → List Value → Prop} {v : Value} (h : FitY w f .b v) : ∃ b : Bool, v = .bool b := h
theorem exists_mapP {α : Type} {f : α → List Value} {p : α → Prop} : ∀ {rows : List (List Value)}, (∀ r ∈ rows, ∃ x, r = f x ∧ p x) → ∃ l : List α, rows = l.map f ∧ ∀ x ∈ l, p x
  | [], _ => ⟨[], rfl, fun _ h => by cases h⟩
  | r :: rows, h => by
    obtain ⟨x, rfl, hx⟩ := h r (by simp)
    obtain ⟨l, rfl, hl⟩ := exists_mapP (rows := rows) fun r hr => h r (by simp [hr])
    exact ⟨x :: l, rfl, fun y hy => by rcases List.mem_cons.1 hy with rfl | hy; exact hx; exact hl y hy⟩
theorem ints_of_fits {w : World} {n : Nat} {rows : List (List Value)} (h : ∀ r ∈ rows, Fits w (n + 1) [.i .i64] r) : ∃ l : List Int, rows = ones l :=
  exists_map fun r hr => by
    obtain ⟨_, r, rfl, h1, h⟩ := FitL.un (h r hr)
    obtain rfl := FitL.end_ h
    obtain ⟨a, rfl, _⟩ := fit_i64 h1
    exact ⟨a, rfl⟩
theorem ints_of_fit {w : World} {n : Nat} {v : Value} (h : FitY w (Fits w (n + 1)) (.s [.i .i64]) v) : ∃ ao c l, v = .slice ao (l : List Int).length c ∧ RowsAt w ao 1 (ones l) := by
  obtain ⟨ao, len, cap, rows, rfl, _, _, e, m, f⟩ := h
  obtain ⟨l, rfl⟩ := ints_of_fits f
  have : l.length = len := by simpa [ones] using e
  subst this
  exact ⟨ao, cap, l, rfl, m⟩
/-- A fountain that came in. -/
theorem fo_of_fits {w : World} {cs : List Value} (h : Fits w 9 foLay cs) : ∃ x : Fo × FA, cs = foC x.1 x.2 ∧ SpAt w x.1.sp x.2.bo x.2.ro := by
  obtain ⟨_, r, rfl, h0, h⟩ := FitL.un h
  obtain ⟨_, r, rfl, h1, h⟩ := FitL.un h
  obtain ⟨_, r, rfl, h2, h⟩ := FitL.un h
  obtain ⟨_, r, rfl, h3, h⟩ := FitL.un h
  obtain ⟨_, r, rfl, h4, h⟩ := FitL.un h
  obtain ⟨_, r, rfl, h5, h⟩ := FitL.un h
  obtain ⟨_, r, rfl, h6, h⟩ := FitL.un h
  obtain ⟨_, r, rfl, h7, h⟩ := FitL.un h
  obtain ⟨_, r, rfl, h8, h⟩ := FitL.un h
  obtain ⟨_, r, rfl, h9, h⟩ := FitL.un h
  obtain rfl := FitL.end_ h
  obtain ⟨a0, rfl, _⟩ := fit_i64 h0
  obtain ⟨a1, rfl, _⟩ := fit_i64 h1
  obtain ⟨a2, rfl, _⟩ := fit_i64 h2
  obtain ⟨a3, rfl, _⟩ := fit_i64 h3
  obtain ⟨a4, rfl, _⟩ := fit_i64 h4
  obtain ⟨a5, rfl, _⟩ := fit_i64 h5
  obtain ⟨a6, rfl, _⟩ := fit_i64 h6
  obtain ⟨a7, rfl, _⟩ := fit_i64 h7
  obtain ⟨bo, n1, c1, rows1, rfl, _, _, e1, m1, f1⟩ := h8
  obtain ⟨ro, n2, c2, rows2, rfl, _, _, e2, m2, f2⟩ := h9
  obtain ⟨l1, rfl⟩ := rowsLn f1
  obtain ⟨l2, rfl⟩ := rowsRd f2
  rw [List.length_map] at e1 e2
  subst e1 e2
  exact ⟨(⟨a0, ⟨a1, a2, a3, a4, a5, a6, a7, l1, l2⟩⟩, ⟨bo, ro, c1, c2⟩), rfl, m1, m2⟩
/-- A street that came in. -/
theorem sr_of_fits {w : World} {cs : List Value} (h : Fits w 9 srLay cs) : ∃ x : Sr × DA, cs = srC x.1 x.2 ∧ RowsAt w x.2.1 1 (ones x.1.draws) := by
  obtain ⟨_, r, rfl, h0, h⟩ := FitL.un h
  obtain ⟨_, r, rfl, h1, h⟩ := FitL.un h
  obtain ⟨_, r, rfl, h2, h⟩ := FitL.un h
  obtain ⟨_, r, rfl, h3, h⟩ := FitL.un h
  obtain ⟨_, r, rfl, h4, h⟩ := FitL.un h
  obtain rfl := FitL.end_ h
  obtain ⟨a0, rfl, _⟩ := fit_i64 h0
  obtain ⟨a1, rfl, _⟩ := fit_i64 h1
  obtain ⟨a2, rfl, _⟩ := fit_i64 h2
  obtain ⟨a3, rfl, _⟩ := fit_i64 h3
  obtain ⟨ao, c, l, rfl, m⟩ := ints_of_fit h4
  exact ⟨(⟨a0, a1, a2, a3, l⟩, (ao, c)), rfl, m⟩
/-- A supply that came in. -/
theorem su_of_fits {w : World} {cs : List Value} (h : Fits w 10 suLay cs) : ∃ u fo so fc sc fa sa, cs = [.slice fo (u : Su).founts.length fc, .slice so u.streets.length sc] ∧ SuAt w u fo so fa sa := by
  obtain ⟨_, r, rfl, h0, h⟩ := FitL.un h
  obtain ⟨_, r, rfl, h1, h⟩ := FitL.un h
  obtain rfl := FitL.end_ h
  obtain ⟨fo, n1, c1, rows1, rfl, _, _, e1, m1, f1⟩ := h0
  obtain ⟨so, n2, c2, rows2, rfl, _, _, e2, m2, f2⟩ := h1
  obtain ⟨l1, rfl, p1⟩ := exists_mapP fun r hr => fo_of_fits (f1 r hr)
  obtain ⟨l2, rfl, p2⟩ := exists_mapP fun r hr => sr_of_fits (f2 r hr)
  rw [List.length_map] at e1 e2
  subst e1 e2
  refine ⟨⟨l1.map (·.1), l2.map (·.1)⟩, fo, so, c1, c2, fun i => (l1.getD i default).2, fun i => (l2.getD i default).2, by simp, ?_, ?_, ?_, ?_⟩
  · have e : l1.map (fun x => foC x.1 x.2) = foRows ⟨l1.map (·.1), l2.map (·.1)⟩ (fun i => (l1.getD i default).2) := by
      refine List.ext_getElem (by simp [foRows]) fun i hi hi2 => ?_
      simp only [List.length_map] at hi
      simp [foRows, List.getD_eq_getElem?_getD, hi]
    rw [← e]; exact m1
  · intro i hi
    simp only [List.length_map] at hi
    have := p1 l1[i] (List.getElem_mem hi)
    simpa [List.getD_eq_getElem?_getD, hi] using this
  · have e : l2.map (fun x => srC x.1 x.2) = srRows ⟨l1.map (·.1), l2.map (·.1)⟩ (fun i => (l2.getD i default).2) := by
      refine List.ext_getElem (by simp [srRows]) fun i hi hi2 => ?_
      simp only [List.length_map] at hi
      simp [srRows, List.getD_eq_getElem?_getD, hi]
    rw [← e]; exact m2
  · intro i hi
    simp only [List.length_map] at hi
    have := p2 l2[i] (List.getElem_mem hi)
    simpa [List.getD_eq_getElem?_getD, hi] using this
end Go.Proofs.YtolcicaclflagaaDoor

/- The walks of functions. -/
namespace Go.Proofs.YtolcicaclflagaaDoor
open Go.X Go.S Go.RowKit
theorem indexFuncInts (l : List Int) (ao : Option Addr) (c : Nat) (F : Nat) (first capt : List Value) (p : Nat → Prop) [DecidablePred p] (hF : fnOk Tryd.prog F = true) (hmx : l.length ≤ 1000000) (w : World) (h : RowsAt w ao 1 (ones l)) (hc : ∀ k, k < l.length → ∀ w', Below w.heap.size w w' → CallsR Tryd.prog F (first ++ [.int .i64 (l.getD k 0)] ++ capt) w' (fun v _ => v = .bool (decide (p k)))) :
    CallsR Tryd.prog 98 [.slice ao l.length c, .func (.func F) ⟨first⟩ ⟨capt⟩] w (fun v _ => v = .int .i64 (idxF p l.length)) := by
  refine CallsR.of_SX (n := 19) (rs := [.tmp 4]) Tryd.func98 rfl rfl rfl rfl ?_
  show SX _ _ _ ⟨[(0, .slice ao l.length c), (1, .func (.func F) ⟨first⟩ ⟨capt⟩)], [], []⟩
  refine SX.seq ?_
  refine SX.region ?_
  refine SXL.assign rfl ?_
  refine SXL.nil ?_
  refine thenQ.normal ?_
  refine SX.seq ?_
  refine SX.seq ?_
  refine SX.region ?_
  refine SXL.move rfl ?_
  refine SXL.len is_33 rfl ?_
  refine SXL.move rfl ?_
  refine SXL.nil ?_
  refine thenQ.normal ?_
  refine SX.block ?_
  refine SX.loopG (α := Nat) [0, 1, 4, 7] rfl (fun k => [(8, .int .i64 ((k : Int)))]) (fun k => []) (fun k => k ≤ l.length ∧ ∀ i, i < k → ¬p i) (fun k => l.length - k) 0 ⟨Nat.zero_le _, fun _ h => absurd h (Nat.not_lt_zero _)⟩ ⟨rfl, trivial⟩ rfl ?_
  rintro k ⟨hk, hall⟩
  refine SX.seq ?_
  refine SX.region ?_
  refine SXL.lss rfl rfl ?_
  refine SXL.nil ?_
  refine thenQ.normal ?_
  refine SX.seq ?_
  refine SX.condP rfl (fun c9 => ?_) (fun c9 => ?_)
  · refine SX.skip ?_
    refine thenQ.normal ?_
    refine SX.seq ?_
    refine SX.block ?_
    refine SX.seq ?_
    refine SX.region ?_
    refine SXL.move rfl ?_
    refine SXL.assign rfl ?_
    refine SXL.nil ?_
    refine thenQ.normal ?_
    refine SX.seq ?_
    obtain ⟨b, o, ha, hm⟩ := oneI h (i := k) (by omega)
    refine SX.region ?_
    refine SXL.move rfl ?_
    refine SXL.move rfl ?_
    refine SXL.move rfl ?_
    refine SXL.indexR el_33 rfl rfl ha (by omega) ?_
    refine SXL.load1 sh_3 rfl (hm _) ?_
    refine SXL.call1V (.bool (decide (p k))) hF rfl rfl (fun w hI => hc k (by omega) _ hI.below) ?_
    refine SXL.nil ?_
    refine thenQ.normal ?_
    refine SX.condP rfl (fun c16 => ?_) (fun c16 => ?_)
    · refine SX.seq ?_
      refine SX.region ?_
      refine SXL.move rfl ?_
      refine SXL.assign rfl ?_
      refine SXL.nil ?_
      refine thenQ.normal ?_
      refine SX.ret ?_
      refine blockQ.ret ?_
      refine thenQ.ret ?_
      refine thenQ.ret ?_
      refine blockQ.ret ?_
      refine thenQ.ret ?_
      refine retQ.one (ResAt.tmp rfl) ?_
      exact congrArg (Value.int .i64) (idxF_some (by omega) c16 hall).symm
    · refine SX.skip ?_
      refine blockQ.normal ?_
      refine thenQ.normal ?_
      refine SX.region ?_
      refine SXL.add rfl rfl (by omega) ?_
      refine SXL.move rfl ?_
      refine SXL.nil ?_
      refine thenQ.normal ?_
      refine ⟨k + 1, Meets.mk _ ⟨rfl, trivial⟩ ⟨rfl, rfl, rfl, rfl, trivial⟩ rfl, ?_, (by omega)⟩
      refine ⟨by omega, fun i hi => ?_⟩
      by_cases e : i = k
      · subst e; exact c16
      · exact hall i (by omega)
  · refine SX.exit ?_
    refine thenQ.exit ?_
    refine thenQ.exit ?_
    refine blockQ.exit ?_
    refine thenQ.normal ?_
    refine SX.seq ?_
    refine SX.region ?_
    refine SXL.assign rfl ?_
    refine SXL.nil ?_
    refine thenQ.normal ?_
    refine SX.ret ?_
    refine retQ.one (ResAt.tmp rfl) ?_
    exact congrArg (Value.int .i64) (idxF_none fun i hi => hall i (by omega)).symm
theorem containsFuncInts (l : List Int) (ao : Option Addr) (c : Nat) (F : Nat) (first capt : List Value) (p : Nat → Prop) [DecidablePred p] (hF : fnOk Tryd.prog F = true) (hmx : l.length ≤ 1000000) (w : World) (h : RowsAt w ao 1 (ones l)) (hc : ∀ k, k < l.length → ∀ w', Below w.heap.size w w' → CallsR Tryd.prog F (first ++ [.int .i64 (l.getD k 0)] ++ capt) w' (fun v _ => v = .bool (decide (p k)))) :
    CallsR Tryd.prog 82 [.slice ao l.length c, .func (.func F) ⟨first⟩ ⟨capt⟩] w (fun v _ => v = .bool (decide (0 ≤ idxF p l.length))) := by
  refine CallsR.of_SX (n := 9) (rs := [.tmp 4]) Tryd.func82 rfl rfl rfl rfl ?_
  show SX _ _ _ ⟨[(0, .slice ao l.length c), (1, .func (.func F) ⟨first⟩ ⟨capt⟩)], [], []⟩
  refine SX.seq ?_
  refine SX.region ?_
  refine SXL.assign rfl ?_
  refine SXL.nil ?_
  refine thenQ.normal ?_
  refine SX.seq ?_
  refine SX.region ?_
  refine SXL.move rfl ?_
  refine SXL.move rfl ?_
  refine SXL.call1 (.int .i64 (idxF p l.length)) fn_98 rfl (fun w hI => indexFuncInts l ao c F first capt p hF hmx w (h.inv hI) (fun k hk w' hb => hc k hk w' (belowT hI hb))) ?_
  refine SXL.geq rfl rfl ?_
  refine SXL.assign rfl ?_
  refine SXL.nil ?_
  refine thenQ.normal ?_
  refine SX.ret ?_
  refine retQ.one (ResAt.tmp rfl) ?_
  first | rfl | assumption
theorem indexFuncLines (s : Sp) (ao : Option Addr) (c : Nat) (F : Nat) (first capt : List Value) (p : Nat → Prop) [DecidablePred p] (hF : fnOk Tryd.prog F = true) (hmx : s.book.length ≤ 1000000) (w : World) (h : RowsAt w ao 5 (s.book.map Ln.cells)) (hc : ∀ k, k < s.book.length → ∀ w', Below w.heap.size w w' → CallsR Tryd.prog F (first ++ [.agg ⟨(s.book.getD k default).cells⟩] ++ capt) w' (fun v _ => v = .bool (decide (p k)))) :
    CallsR Tryd.prog 156 [.slice ao s.book.length c, .func (.func F) ⟨first⟩ ⟨capt⟩] w (fun v _ => v = .int .i64 (idxF p s.book.length)) := by
  refine CallsR.of_SX (n := 19) (rs := [.tmp 4]) Tryd.func156 rfl rfl rfl rfl ?_
  show SX _ _ _ ⟨[(0, .slice ao s.book.length c), (1, .func (.func F) ⟨first⟩ ⟨capt⟩)], [], []⟩
  refine SX.seq ?_
  refine SX.region ?_
  refine SXL.assign rfl ?_
  refine SXL.nil ?_
  refine thenQ.normal ?_
  refine SX.seq ?_
  refine SX.seq ?_
  refine SX.region ?_
  refine SXL.move rfl ?_
  refine SXL.len is_65 rfl ?_
  refine SXL.move rfl ?_
  refine SXL.nil ?_
  refine thenQ.normal ?_
  refine SX.block ?_
  refine SX.loopG (α := Nat) [0, 1, 4, 7] rfl (fun k => [(8, .int .i64 ((k : Int)))]) (fun k => []) (fun k => k ≤ s.book.length ∧ ∀ i, i < k → ¬p i) (fun k => s.book.length - k) 0 ⟨Nat.zero_le _, fun _ h => absurd h (Nat.not_lt_zero _)⟩ ⟨rfl, trivial⟩ rfl ?_
  rintro k ⟨hk, hall⟩
  refine SX.seq ?_
  refine SX.region ?_
  refine SXL.lss rfl rfl ?_
  refine SXL.nil ?_
  refine thenQ.normal ?_
  refine SX.seq ?_
  refine SX.condP rfl (fun c9 => ?_) (fun c9 => ?_)
  · refine SX.skip ?_
    refine thenQ.normal ?_
    refine SX.seq ?_
    refine SX.block ?_
    refine SX.seq ?_
    refine SX.region ?_
    refine SXL.move rfl ?_
    refine SXL.assign rfl ?_
    refine SXL.nil ?_
    refine thenQ.normal ?_
    refine SX.seq ?_
    obtain ⟨b, o, ha, hm⟩ := h.get (i := k) (r := (s.book.getD k default).cells) (by have hk2 : k < s.book.length := (by omega); simp [hk2])
    refine SX.region ?_
    refine SXL.move rfl ?_
    refine SXL.move rfl ?_
    refine SXL.move rfl ?_
    refine SXL.indexR el_65 rfl rfl ha (by omega) ?_
    refine SXL.loadN sh_129 rfl (hm _) rfl ?_
    refine SXL.call1V (.bool (decide (p k))) hF rfl rfl (fun w hI => hc k (by omega) _ hI.below) ?_
    refine SXL.nil ?_
    refine thenQ.normal ?_
    refine SX.condP rfl (fun c16 => ?_) (fun c16 => ?_)
    · refine SX.seq ?_
      refine SX.region ?_
      refine SXL.move rfl ?_
      refine SXL.assign rfl ?_
      refine SXL.nil ?_
      refine thenQ.normal ?_
      refine SX.ret ?_
      refine blockQ.ret ?_
      refine thenQ.ret ?_
      refine thenQ.ret ?_
      refine blockQ.ret ?_
      refine thenQ.ret ?_
      refine retQ.one (ResAt.tmp rfl) ?_
      exact congrArg (Value.int .i64) (idxF_some (by omega) c16 hall).symm
    · refine SX.skip ?_
      refine blockQ.normal ?_
      refine thenQ.normal ?_
      refine SX.region ?_
      refine SXL.add rfl rfl (by omega) ?_
      refine SXL.move rfl ?_
      refine SXL.nil ?_
      refine thenQ.normal ?_
      refine ⟨k + 1, Meets.mk _ ⟨rfl, trivial⟩ ⟨rfl, rfl, rfl, rfl, trivial⟩ rfl, ?_, (by omega)⟩
      refine ⟨by omega, fun i hi => ?_⟩
      by_cases e : i = k
      · subst e; exact c16
      · exact hall i (by omega)
  · refine SX.exit ?_
    refine thenQ.exit ?_
    refine thenQ.exit ?_
    refine blockQ.exit ?_
    refine thenQ.normal ?_
    refine SX.seq ?_
    refine SX.region ?_
    refine SXL.assign rfl ?_
    refine SXL.nil ?_
    refine thenQ.normal ?_
    refine SX.ret ?_
    refine retQ.one (ResAt.tmp rfl) ?_
    exact congrArg (Value.int .i64) (idxF_none fun i hi => hall i (by omega)).symm
theorem containsFuncLines (s : Sp) (ao : Option Addr) (c : Nat) (F : Nat) (first capt : List Value) (p : Nat → Prop) [DecidablePred p] (hF : fnOk Tryd.prog F = true) (hmx : s.book.length ≤ 1000000) (w : World) (h : RowsAt w ao 5 (s.book.map Ln.cells)) (hc : ∀ k, k < s.book.length → ∀ w', Below w.heap.size w w' → CallsR Tryd.prog F (first ++ [.agg ⟨(s.book.getD k default).cells⟩] ++ capt) w' (fun v _ => v = .bool (decide (p k)))) :
    CallsR Tryd.prog 152 [.slice ao s.book.length c, .func (.func F) ⟨first⟩ ⟨capt⟩] w (fun v _ => v = .bool (decide (0 ≤ idxF p s.book.length))) := by
  refine CallsR.of_SX (n := 9) (rs := [.tmp 4]) Tryd.func152 rfl rfl rfl rfl ?_
  show SX _ _ _ ⟨[(0, .slice ao s.book.length c), (1, .func (.func F) ⟨first⟩ ⟨capt⟩)], [], []⟩
  refine SX.seq ?_
  refine SX.region ?_
  refine SXL.assign rfl ?_
  refine SXL.nil ?_
  refine thenQ.normal ?_
  refine SX.seq ?_
  refine SX.region ?_
  refine SXL.move rfl ?_
  refine SXL.move rfl ?_
  refine SXL.call1 (.int .i64 (idxF p s.book.length)) fn_156 rfl (fun w hI => indexFuncLines s ao c F first capt p hF hmx w (h.inv hI) (fun k hk w' hb => hc k hk w' (belowT hI hb))) ?_
  refine SXL.geq rfl rfl ?_
  refine SXL.assign rfl ?_
  refine SXL.nil ?_
  refine thenQ.normal ?_
  refine SX.ret ?_
  refine retQ.one (ResAt.tmp rfl) ?_
  first | rfl | assumption
theorem in1c_any (n lo hi : Int) (b3 b4 : Nat) (w : World) (h3 : w.cell? ⟨b3, 0, none⟩ = some (.int .i64 lo)) (h4 : w.cell? ⟨b4, 0, none⟩ = some (.int .i64 hi)) :
    CallsR Tryd.prog 115 [.int .i64 n, .pointer (some ⟨b3, 0, none⟩), .pointer (some ⟨b4, 0, none⟩)] w (fun v _ => v = .bool (decide (n < lo ∨ hi < n))) := by
  refine CallsR.of_SX (n := 13) (rs := [.tmp 4]) Tryd.func115 rfl rfl rfl rfl ?_
  show SX _ _ _ ⟨[(0, .int .i64 n), (1, .pointer (some ⟨b3, 0, none⟩)), (2, .pointer (some ⟨b4, 0, none⟩))], [], []⟩
  refine SX.seq ?_
  refine SX.region ?_
  refine SXL.assign rfl ?_
  refine SXL.nil ?_
  refine thenQ.normal ?_
  refine SX.seq ?_
  refine SX.region ?_
  refine SXL.move rfl ?_
  refine SXL.load1 sh_3 rfl (Mem.out1 h3) ?_
  refine SXL.lss rfl rfl ?_
  refine SXL.move rfl ?_
  apply SXL.orG 3
  case hl => exact rfl
  case hd => exact rfl
  case hg => exact rfl
  case ht =>
    intro g1
    refine SXL.pass rfl rfl rfl ?_
    refine SXL.pass rfl rfl rfl ?_
    refine SXL.pass rfl rfl rfl ?_
    exact SXL.nil (segQ.mk (.skip rfl (.skip rfl (.skip rfl (.skip rfl (EnvSub.refl _))))) rfl rfl rfl)
  case hf =>
    intro g1
    refine SXL.move rfl ?_
    refine SXL.load1 sh_3 rfl (Mem.out1 h4) ?_
    refine SXL.gtr rfl rfl ?_
    exact SXL.nil (segQ.mk (.skip rfl (.skip rfl (.skip rfl (.skip rfl (EnvSub.refl _))))) rfl rfl ⟨rfl, rfl⟩)
  refine SXL.assign rfl ?_
  refine SXL.nil ?_
  refine thenQ.normal ?_
  refine SX.ret ?_
  refine retQ.one (ResAt.tmp rfl) ?_
  first | rfl | assumption
theorem in_any (l : List Int) (lo hi : Int) (ao : Option Addr) (c : Nat) (hmx : l.length ≤ 1000000) (w : World) (h : RowsAt w ao 1 (ones l)) :
    CallsR Tryd.prog 109 [.int .i64 lo, .int .i64 hi, .slice ao l.length c] w (fun v _ => v = .bool (decide (∀ x ∈ l, Wi x lo hi))) := by
  refine CallsR.of_SX (n := 11) (rs := [.tmp 6]) Tryd.func109 rfl rfl rfl rfl ?_
  show SX _ _ _ ⟨[(0, .int .i64 lo), (1, .int .i64 hi), (2, .slice ao l.length c)], [], []⟩
  refine SX.seq ?_
  refine SX.region ?_
  refine SXL.box rfl rfl ?_; intro b0
  refine SXL.box rfl rfl ?_; intro b1
  refine SXL.assign rfl ?_
  refine SXL.nil ?_
  refine thenQ.normal ?_
  refine SX.seq ?_
  refine SX.region ?_
  refine SXL.move rfl ?_
  refine SXL.makeFunc rfl rfl ?_
  refine SXL.call1 (.bool (decide (0 ≤ idxF (fun k => l.getD k 0 < lo ∨ hi < l.getD k 0) l.length))) fn_82 rfl (fun w hI => containsFuncInts l ao c 115 [] [.pointer (some ⟨b0, 0, none⟩), .pointer (some ⟨b1, 0, none⟩)] (fun k => l.getD k 0 < lo ∨ hi < l.getD k 0) fn_115 hmx w (h.inv hI) (fun k hk w' hb => in1c_any _ lo hi b0 b1 w' (ownCell (hI.ext hb) (i := 0) rfl rfl) (ownCell (hI.ext hb) (i := 1) rfl rfl))) ?_
  refine SXL.not rfl ?_
  refine SXL.assign rfl ?_
  refine SXL.nil ?_
  refine thenQ.normal ?_
  refine SX.ret ?_
  refine retQ.one (ResAt.tmp rfl) ?_
  exact congrArg Value.bool (decide_eq_decide.2 (by rw [idxF_nonneg]; exact in_iff l lo hi))
theorem in1_own {w0 w : World} {own : X.Own} (hI : Inv w0 own w) (i : Nat) {b : Nat} (x lo hi : Int) {E : TypeId} {fz : Nat × Nat} (he : own[i]? = some (b, .cells ⟨ints [x]⟩ E fz)) :
    CallsR Tryd.prog 109 [.int .i64 lo, .int .i64 hi, .slice (some ⟨b, 0, none⟩) 1 1] w (fun v _ => v = .bool (decide (Wi x lo hi))) :=
  (in_any [x] lo hi _ 1 (by simp) w (ownOnes hI [x] he)).iff (by simp)
theorem in2_own {w0 w : World} {own : X.Own} (hI : Inv w0 own w) (i : Nat) {b : Nat} (x y lo hi : Int) {E : TypeId} {fz : Nat × Nat} (he : own[i]? = some (b, .cells ⟨ints [x, y]⟩ E fz)) :
    CallsR Tryd.prog 109 [.int .i64 lo, .int .i64 hi, .slice (some ⟨b, 0, none⟩) 2 2] w (fun v _ => v = .bool (decide (Wi x lo hi ∧ Wi y lo hi))) :=
  (in_any [x, y] lo hi _ 2 (by simp) w (ownOnes hI [x, y] he)).iff (by simp)
theorem span_any (a b lo hi : Int) (w : World) :
    CallsR Tryd.prog 149 [.agg ⟨[.int .i64 a, .int .i64 b]⟩, .int .i64 lo, .int .i64 hi] w (fun v _ => v = .bool (decide (Spn a b lo hi))) := by
  refine CallsR.of_SX (n := 22) (rs := [.tmp 6]) Tryd.func149 rfl rfl rfl rfl ?_
  show SX _ _ _ ⟨[(0, .agg ⟨[.int .i64 a, .int .i64 b]⟩), (1, .int .i64 lo), (2, .int .i64 hi)], [], []⟩
  refine SX.seq ?_
  refine SX.region ?_
  refine SXL.box rfl rfl ?_; intro b0
  refine SXL.assign rfl ?_
  refine SXL.nil ?_
  refine thenQ.normal ?_
  refine SX.seq ?_
  refine SX.region ?_
  refine SXL.move rfl ?_
  refine SXL.move rfl ?_
  refine SXL.fieldAddr fp_55_0 rfl ?_
  refine SXL.load1o 0 sh_3 rfl rfl rfl ?_
  refine SXL.fieldAddr fp_55_1 rfl ?_
  refine SXL.load1o 0 sh_3 rfl rfl rfl ?_
  refine SXL.buildSlice et_33 zp_3 rfl rfl rfl rfl ?_; intro b1
  refine SXL.call1 (.bool (decide (Wi (a) (lo) (hi) ∧ Wi (b) (lo) (hi)))) fn_109 rfl (fun w hI => in2_own hI 1 (a) (b) (lo) (hi) rfl) ?_
  refine SXL.move rfl ?_
  apply SXL.andG 5
  case hl => exact rfl
  case hd => exact rfl
  case hg => exact rfl
  case ht =>
    intro g1
    refine SXL.fieldAddr fp_55_0 rfl ?_
    refine SXL.load1o 0 sh_3 rfl rfl rfl ?_
    refine SXL.fieldAddr fp_55_1 rfl ?_
    refine SXL.load1o 0 sh_3 rfl rfl rfl ?_
    refine SXL.leq rfl rfl ?_
    exact SXL.nil (segQ.mk (.skip rfl (.skip rfl (.skip rfl (.skip rfl (.skip rfl (.skip rfl (EnvSub.refl _))))))) rfl rfl ⟨rfl, rfl⟩)
  case hf =>
    intro g1
    refine SXL.pass rfl rfl rfl ?_
    refine SXL.pass rfl rfl rfl ?_
    refine SXL.pass rfl rfl rfl ?_
    refine SXL.pass rfl rfl rfl ?_
    refine SXL.pass rfl rfl rfl ?_
    exact SXL.nil (segQ.mk (.skip rfl (.skip rfl (.skip rfl (.skip rfl (.skip rfl (.skip rfl (EnvSub.refl _))))))) rfl rfl rfl)
  refine SXL.assign rfl ?_
  refine SXL.nil ?_
  refine thenQ.normal ?_
  refine SX.ret ?_
  refine retQ.one (ResAt.tmp rfl) ?_
  exact congrArg Value.bool (decide_eq_decide.2 (by omega))
theorem readable_any (x : Rd) (weeks : Int) (hw : -9223372036854775807 ≤ weeks ∧ weeks ≤ 9223372036854775807) (w : World) :
    CallsR Tryd.prog 155 [.agg ⟨x.cells⟩, .int .i64 weeks] w (fun v _ => v = .bool (decide (RdP x weeks))) := by
  refine CallsR.of_SX (n := 34) (rs := [.tmp 4]) Tryd.func155 rfl rfl rfl rfl ?_
  show SX _ _ _ ⟨[(0, .agg ⟨x.cells⟩), (1, .int .i64 weeks)], [], []⟩
  refine SX.seq ?_
  refine SX.region ?_
  refine SXL.box rfl rfl ?_; intro b0
  refine SXL.assign rfl ?_
  refine SXL.nil ?_
  refine thenQ.normal ?_
  refine SX.seq ?_
  refine SX.region ?_
  refine SXL.fieldAddr fp_131_0 rfl ?_
  refine SXL.load1o 0 sh_3 rfl rfl rfl ?_
  refine SXL.buildSlice et_33 zp_3 rfl rfl rfl rfl ?_; intro b1
  refine SXL.call1 (.bool (decide (Wi (x.num) (1) (9999)))) fn_109 rfl (fun w hI => in1_own hI 1 (x.num) (1) (9999) rfl) ?_
  refine SXL.move rfl ?_
  apply SXL.andG 6
  case hl => exact rfl
  case hd => exact rfl
  case hg => exact rfl
  case ht =>
    intro g1
    refine SXL.move rfl ?_
    refine SXL.sub rfl rfl (by omega) ?_
    refine SXL.fieldAddr fp_131_1 rfl ?_
    refine SXL.load1o 0 sh_3 rfl rfl rfl ?_
    refine SXL.buildSlice et_33 zp_3 rfl rfl rfl rfl ?_; intro b2
    refine SXL.call1 (.bool (decide (Wi (x.wk) (0) (weeks - 1)))) fn_109 rfl (fun w hI => in1_own hI 2 (x.wk) (0) (weeks - 1) rfl) ?_
    exact SXL.ownPre (SXL.nil (segQ.mk (.skip rfl (.skip rfl (.skip rfl (.skip rfl (.skip rfl (.skip rfl (.skip rfl (EnvSub.refl _)))))))) rfl rfl ⟨rfl, rfl⟩)) rfl
  case hf =>
    intro g1
    refine SXL.pass rfl rfl rfl ?_
    refine SXL.pass rfl rfl rfl ?_
    refine SXL.pass rfl rfl rfl ?_
    refine SXL.pass rfl rfl rfl ?_
    refine SXL.pass rfl rfl rfl ?_
    refine SXL.pass rfl rfl rfl ?_
    exact SXL.nil (segQ.mk (.skip rfl (.skip rfl (.skip rfl (.skip rfl (.skip rfl (.skip rfl (.skip rfl (EnvSub.refl _)))))))) rfl rfl rfl)
  refine SXL.move rfl ?_
  apply SXL.andG 4
  case hl => exact rfl
  case hd => exact rfl
  case hg => exact rfl
  case ht =>
    intro g2
    refine SXL.fieldAddr fp_131_2 rfl ?_
    refine SXL.load1o 0 sh_3 rfl rfl rfl ?_
    refine SXL.buildSlice et_33 zp_3 rfl rfl rfl rfl ?_; intro b2
    refine SXL.call1 (.bool (decide (Wi (x.bu) (1) (40)))) fn_109 rfl (fun w hI => in1_own hI 2 (x.bu) (1) (40) rfl) ?_
    exact SXL.ownPre (SXL.nil (segQ.mk (.skip rfl (.skip rfl (.skip rfl (.skip rfl (.skip rfl (EnvSub.refl _)))))) rfl rfl ⟨rfl, rfl⟩)) rfl
  case hf =>
    intro g2
    refine SXL.pass rfl rfl rfl ?_
    refine SXL.pass rfl rfl rfl ?_
    refine SXL.pass rfl rfl rfl ?_
    refine SXL.pass rfl rfl rfl ?_
    exact SXL.nil (segQ.mk (.skip rfl (.skip rfl (.skip rfl (.skip rfl (.skip rfl (EnvSub.refl _)))))) rfl rfl rfl)
  refine SXL.move rfl ?_
  apply SXL.andG 3
  case hl => exact rfl
  case hd => exact rfl
  case hg => exact rfl
  case ht =>
    intro g3
    refine SXL.fieldAddr fp_131_3 rfl ?_
    refine SXL.loadNo 0 sh_55 rfl rfl rfl ?_
    refine SXL.call1 (.bool (decide (Spn x.s0 x.s1 0 99))) fn_149 rfl (fun w hI => span_any _ _ _ _ _) ?_
    exact SXL.nil (segQ.mk (.skip rfl (.skip rfl (.skip rfl (.skip rfl (EnvSub.refl _))))) rfl rfl ⟨rfl, rfl⟩)
  case hf =>
    intro g3
    refine SXL.pass rfl rfl rfl ?_
    refine SXL.pass rfl rfl rfl ?_
    refine SXL.pass rfl rfl rfl ?_
    exact SXL.nil (segQ.mk (.skip rfl (.skip rfl (.skip rfl (.skip rfl (EnvSub.refl _))))) rfl rfl rfl)
  refine SXL.move rfl ?_
  apply SXL.andG 4
  case hl => exact rfl
  case hd => exact rfl
  case hg => exact rfl
  case ht =>
    intro g4
    refine SXL.fieldAddr fp_131_3 rfl ?_
    refine SXL.fieldAddr fp_55_1 rfl ?_
    refine SXL.load1o 0 sh_3 rfl rfl rfl ?_
    refine SXL.gtr rfl rfl ?_
    exact SXL.nil (segQ.mk (.skip rfl (.skip rfl (.skip rfl (.skip rfl (.skip rfl (EnvSub.refl _)))))) rfl rfl ⟨rfl, rfl⟩)
  case hf =>
    intro g4
    refine SXL.pass rfl rfl rfl ?_
    refine SXL.pass rfl rfl rfl ?_
    refine SXL.pass rfl rfl rfl ?_
    refine SXL.pass rfl rfl rfl ?_
    exact SXL.nil (segQ.mk (.skip rfl (.skip rfl (.skip rfl (.skip rfl (.skip rfl (EnvSub.refl _)))))) rfl rfl rfl)
  refine SXL.assign rfl ?_
  refine SXL.nil ?_
  refine thenQ.normal ?_
  refine SX.ret ?_
  refine retQ.one (ResAt.tmp rfl) ?_
  first | rfl | assumption
theorem chk0_any (s : Sp) (bo ro : Option Addr) (bc rc : Nat) (w : World) :
    CallsR Tryd.prog 147 [.agg ⟨[.int .i64 s.weeks, .int .i64 s.most, .int .i64 s.fall, .int .i64 s.a0, .int .i64 s.a1, .int .i64 s.w0, .int .i64 s.w1, (.slice bo s.book.length bc), (.slice ro s.reads.length rc)]⟩] w (fun v _ => v = .bool (decide (ckP s 0))) := by
  refine CallsR.of_SX (n := 15) (rs := [.tmp 2]) Tryd.func147 rfl rfl rfl rfl ?_
  show SX _ _ _ ⟨[(0, .agg ⟨[.int .i64 s.weeks, .int .i64 s.most, .int .i64 s.fall, .int .i64 s.a0, .int .i64 s.a1, .int .i64 s.w0, .int .i64 s.w1, (.slice bo s.book.length bc), (.slice ro s.reads.length rc)]⟩)], [], []⟩
  refine SX.seq ?_
  refine SX.region ?_
  refine SXL.box rfl rfl ?_; intro b0
  refine SXL.assign rfl ?_
  refine SXL.nil ?_
  refine thenQ.normal ?_
  refine SX.seq ?_
  refine SX.region ?_
  refine SXL.fieldAddr fp_68_0 rfl ?_
  refine SXL.load1o 0 sh_3 rfl rfl rfl ?_
  refine SXL.buildSlice et_33 zp_3 rfl rfl rfl rfl ?_; intro b1
  refine SXL.call1 (.bool (decide (Wi (s.weeks) (1) (10)))) fn_109 rfl (fun w hI => in1_own hI 1 (s.weeks) (1) (10) rfl) ?_
  refine SXL.move rfl ?_
  apply SXL.andG 6
  case hl => exact rfl
  case hd => exact rfl
  case hg => exact rfl
  case ht =>
    intro g1
    refine SXL.fieldAddr fp_68_1 rfl ?_
    refine SXL.load1o 0 sh_3 rfl rfl rfl ?_
    refine SXL.fieldAddr fp_68_2 rfl ?_
    refine SXL.load1o 0 sh_3 rfl rfl rfl ?_
    refine SXL.buildSlice et_33 zp_3 rfl rfl rfl rfl ?_; intro b2
    refine SXL.call1 (.bool (decide (Wi (s.most) (0) (100) ∧ Wi (s.fall) (0) (100)))) fn_109 rfl (fun w hI => in2_own hI 2 (s.most) (s.fall) (0) (100) rfl) ?_
    exact SXL.ownPre (SXL.nil (segQ.mk (.skip rfl (.skip rfl (.skip rfl (.skip rfl (.skip rfl (.skip rfl (.skip rfl (EnvSub.refl _)))))))) rfl rfl ⟨rfl, rfl⟩)) rfl
  case hf =>
    intro g1
    refine SXL.pass rfl rfl rfl ?_
    refine SXL.pass rfl rfl rfl ?_
    refine SXL.pass rfl rfl rfl ?_
    refine SXL.pass rfl rfl rfl ?_
    refine SXL.pass rfl rfl rfl ?_
    refine SXL.pass rfl rfl rfl ?_
    exact SXL.nil (segQ.mk (.skip rfl (.skip rfl (.skip rfl (.skip rfl (.skip rfl (.skip rfl (.skip rfl (EnvSub.refl _)))))))) rfl rfl rfl)
  refine SXL.assign rfl ?_
  refine SXL.nil ?_
  refine thenQ.normal ?_
  refine SX.ret ?_
  refine retQ.one (ResAt.tmp rfl) ?_
  first | rfl | assumption
theorem chk1_any (s : Sp) (bo ro : Option Addr) (bc rc : Nat) (w : World) :
    CallsR Tryd.prog 148 [.agg ⟨[.int .i64 s.weeks, .int .i64 s.most, .int .i64 s.fall, .int .i64 s.a0, .int .i64 s.a1, .int .i64 s.w0, .int .i64 s.w1, (.slice bo s.book.length bc), (.slice ro s.reads.length rc)]⟩] w (fun v _ => v = .bool (decide (ckP s 1))) := by
  refine CallsR.of_SX (n := 11) (rs := [.tmp 2]) Tryd.func148 rfl rfl rfl rfl ?_
  show SX _ _ _ ⟨[(0, .agg ⟨[.int .i64 s.weeks, .int .i64 s.most, .int .i64 s.fall, .int .i64 s.a0, .int .i64 s.a1, .int .i64 s.w0, .int .i64 s.w1, (.slice bo s.book.length bc), (.slice ro s.reads.length rc)]⟩)], [], []⟩
  refine SX.seq ?_
  refine SX.region ?_
  refine SXL.box rfl rfl ?_; intro b0
  refine SXL.assign rfl ?_
  refine SXL.nil ?_
  refine thenQ.normal ?_
  refine SX.seq ?_
  refine SX.region ?_
  refine SXL.fieldAddr fp_68_3 rfl ?_
  refine SXL.loadNo 0 sh_55 rfl rfl rfl ?_
  refine SXL.call1 (.bool (decide (Spn s.a0 s.a1 1 600))) fn_149 rfl (fun w hI => span_any _ _ _ _ _) ?_
  refine SXL.move rfl ?_
  apply SXL.andG 3
  case hl => exact rfl
  case hd => exact rfl
  case hg => exact rfl
  case ht =>
    intro g1
    refine SXL.fieldAddr fp_68_4 rfl ?_
    refine SXL.loadNo 0 sh_55 rfl rfl rfl ?_
    refine SXL.call1 (.bool (decide (Spn s.w0 s.w1 0 20))) fn_149 rfl (fun w hI => span_any _ _ _ _ _) ?_
    exact SXL.nil (segQ.mk (.skip rfl (.skip rfl (.skip rfl (.skip rfl (EnvSub.refl _))))) rfl rfl ⟨rfl, rfl⟩)
  case hf =>
    intro g1
    refine SXL.pass rfl rfl rfl ?_
    refine SXL.pass rfl rfl rfl ?_
    refine SXL.pass rfl rfl rfl ?_
    exact SXL.nil (segQ.mk (.skip rfl (.skip rfl (.skip rfl (.skip rfl (EnvSub.refl _))))) rfl rfl rfl)
  refine SXL.assign rfl ?_
  refine SXL.nil ?_
  refine thenQ.normal ?_
  refine SX.ret ?_
  refine retQ.one (ResAt.tmp rfl) ?_
  first | rfl | assumption
theorem chk2_any (s : Sp) (bo ro : Option Addr) (bc rc : Nat) (w : World) :
    CallsR Tryd.prog 150 [.agg ⟨[.int .i64 s.weeks, .int .i64 s.most, .int .i64 s.fall, .int .i64 s.a0, .int .i64 s.a1, .int .i64 s.w0, .int .i64 s.w1, (.slice bo s.book.length bc), (.slice ro s.reads.length rc)]⟩] w (fun v _ => v = .bool (decide (ckP s 2))) := by
  refine CallsR.of_SX (n := 13) (rs := [.tmp 2]) Tryd.func150 rfl rfl rfl rfl ?_
  show SX _ _ _ ⟨[(0, .agg ⟨[.int .i64 s.weeks, .int .i64 s.most, .int .i64 s.fall, .int .i64 s.a0, .int .i64 s.a1, .int .i64 s.w0, .int .i64 s.w1, (.slice bo s.book.length bc), (.slice ro s.reads.length rc)]⟩)], [], []⟩
  refine SX.seq ?_
  refine SX.region ?_
  refine SXL.box rfl rfl ?_; intro b0
  refine SXL.assign rfl ?_
  refine SXL.nil ?_
  refine thenQ.normal ?_
  refine SX.seq ?_
  refine SX.region ?_
  refine SXL.fieldAddr fp_68_5 rfl ?_
  refine SXL.load1o 0 sh_65 rfl rfl rfl ?_
  refine SXL.len is_65 rfl ?_
  refine SXL.leq rfl rfl ?_
  refine SXL.move rfl ?_
  apply SXL.andG 4
  case hl => exact rfl
  case hd => exact rfl
  case hg => exact rfl
  case ht =>
    intro g1
    refine SXL.fieldAddr fp_68_6 rfl ?_
    refine SXL.load1o 0 sh_66 rfl rfl rfl ?_
    refine SXL.len is_66 rfl ?_
    refine SXL.leq rfl rfl ?_
    exact SXL.nil (segQ.mk (.skip rfl (.skip rfl (.skip rfl (.skip rfl (.skip rfl (EnvSub.refl _)))))) rfl rfl ⟨rfl, rfl⟩)
  case hf =>
    intro g1
    refine SXL.pass rfl rfl rfl ?_
    refine SXL.pass rfl rfl rfl ?_
    refine SXL.pass rfl rfl rfl ?_
    refine SXL.pass rfl rfl rfl ?_
    exact SXL.nil (segQ.mk (.skip rfl (.skip rfl (.skip rfl (.skip rfl (.skip rfl (EnvSub.refl _)))))) rfl rfl rfl)
  refine SXL.assign rfl ?_
  refine SXL.nil ?_
  refine thenQ.normal ?_
  refine SX.ret ?_
  refine retQ.one (ResAt.tmp rfl) ?_
  first | rfl | assumption
theorem line_any (x : Ln) (weeks : Int) (b : Nat) (hw : Wi weeks 1 10) (w : World) (h : w.cell? ⟨b, 0, none⟩ = some (.int .i64 weeks)) :
    CallsR Tryd.prog 153 [.agg ⟨x.cells⟩, .pointer (some ⟨b, 0, none⟩)] w (fun v _ => v = .bool (decide (¬LnP x weeks))) := by
  refine CallsR.of_SX (n := 24) (rs := [.tmp 3]) Tryd.func153 rfl rfl rfl rfl ?_
  show SX _ _ _ ⟨[(0, .agg ⟨x.cells⟩), (1, .pointer (some ⟨b, 0, none⟩))], [], []⟩
  refine SX.seq ?_
  refine SX.region ?_
  refine SXL.box rfl rfl ?_; intro b0
  refine SXL.assign rfl ?_
  refine SXL.nil ?_
  refine thenQ.normal ?_
  refine SX.seq ?_
  refine SX.region ?_
  refine SXL.fieldAddr fp_129_0 rfl ?_
  refine SXL.loadNo 0 sh_55 rfl rfl rfl ?_
  refine SXL.call1 (.bool (decide (Spn x.r0 x.r1 0 20))) fn_149 rfl (fun w hI => span_any _ _ _ _ _) ?_
  refine SXL.not rfl ?_
  refine SXL.move rfl ?_
  apply SXL.orG 8
  case hl => exact rfl
  case hd => exact rfl
  case hg => exact rfl
  case ht =>
    intro g1
    refine SXL.pass rfl rfl rfl ?_
    refine SXL.pass rfl rfl rfl ?_
    refine SXL.pass rfl rfl rfl ?_
    refine SXL.pass rfl rfl rfl ?_
    refine SXL.pass rfl rfl rfl ?_
    refine SXL.pass rfl rfl rfl ?_
    refine SXL.pass rfl rfl rfl ?_
    refine SXL.pass rfl rfl rfl ?_
    exact SXL.nil (segQ.mk (.skip rfl (.skip rfl (.skip rfl (.skip rfl (.skip rfl (.skip rfl (.skip rfl (.skip rfl (.skip rfl (EnvSub.refl _)))))))))) rfl rfl rfl)
  case hf =>
    intro g1
    refine SXL.fieldAddr fp_68_0 rfl ?_
    refine SXL.load1 sh_3 rfl (Mem.out1 h) ?_
    refine SXL.sub rfl rfl (by omega) ?_
    refine SXL.fieldAddr fp_129_1 rfl ?_
    refine SXL.load1o 0 sh_3 rfl rfl rfl ?_
    refine SXL.buildSlice et_33 zp_3 rfl rfl rfl rfl ?_; intro b1
    refine SXL.call1 (.bool (decide (Wi (x.wk) (0) (weeks - 1)))) fn_109 rfl (fun w hI => in1_own hI 1 (x.wk) (0) (weeks - 1) rfl) ?_
    refine SXL.not rfl ?_
    exact SXL.ownPre (SXL.nil (segQ.mk (.skip rfl (.skip rfl (.skip rfl (.skip rfl (.skip rfl (.skip rfl (.skip rfl (.skip rfl (.skip rfl (EnvSub.refl _)))))))))) rfl rfl ⟨rfl, rfl⟩)) rfl
  refine SXL.move rfl ?_
  apply SXL.orG 4
  case hl => exact rfl
  case hd => exact rfl
  case hg => exact rfl
  case ht =>
    intro g2
    refine SXL.pass rfl rfl rfl ?_
    refine SXL.pass rfl rfl rfl ?_
    refine SXL.pass rfl rfl rfl ?_
    refine SXL.pass rfl rfl rfl ?_
    exact SXL.nil (segQ.mk (.skip rfl (.skip rfl (.skip rfl (.skip rfl (.skip rfl (EnvSub.refl _)))))) rfl rfl rfl)
  case hf =>
    intro g2
    refine SXL.fieldAddr fp_129_2 rfl ?_
    refine SXL.loadNo 0 sh_55 rfl rfl rfl ?_
    refine SXL.call1 (.bool (decide (Spn x.g0 x.g1 0 100))) fn_149 rfl (fun w hI => span_any _ _ _ _ _) ?_
    refine SXL.not rfl ?_
    exact SXL.nil (segQ.mk (.skip rfl (.skip rfl (.skip rfl (.skip rfl (.skip rfl (EnvSub.refl _)))))) rfl rfl ⟨rfl, rfl⟩)
  refine SXL.assign rfl ?_
  refine SXL.nil ?_
  refine thenQ.normal ?_
  refine SX.ret ?_
  refine retQ.one (ResAt.tmp rfl) ?_
  exact congrArg Value.bool (decide_eq_decide.2 (by unfold LnP Spn; omega))
theorem chk3_any (s : Sp) (bo ro : Option Addr) (bc rc : Nat) (hw : Wi s.weeks 1 10) (hb : s.book.length ≤ 1000000) (w : World) (hs : SpAt w s bo ro) :
    CallsR Tryd.prog 151 [.agg ⟨[.int .i64 s.weeks, .int .i64 s.most, .int .i64 s.fall, .int .i64 s.a0, .int .i64 s.a1, .int .i64 s.w0, .int .i64 s.w1, (.slice bo s.book.length bc), (.slice ro s.reads.length rc)]⟩] w (fun v _ => v = .bool (decide (ckP s 3))) := by
  refine CallsR.of_SX (n := 8) (rs := [.tmp 2]) Tryd.func151 rfl rfl rfl rfl ?_
  show SX _ _ _ ⟨[(0, .agg ⟨[.int .i64 s.weeks, .int .i64 s.most, .int .i64 s.fall, .int .i64 s.a0, .int .i64 s.a1, .int .i64 s.w0, .int .i64 s.w1, (.slice bo s.book.length bc), (.slice ro s.reads.length rc)]⟩)], [], []⟩
  refine SX.seq ?_
  refine SX.region ?_
  refine SXL.box rfl rfl ?_; intro b0
  refine SXL.assign rfl ?_
  refine SXL.nil ?_
  refine thenQ.normal ?_
  refine SX.seq ?_
  refine SX.region ?_
  refine SXL.fieldAddr fp_68_5 rfl ?_
  refine SXL.load1o 0 sh_65 rfl rfl rfl ?_
  refine SXL.makeFunc rfl rfl ?_
  refine SXL.call1 (.bool (decide (0 ≤ idxF (fun k => ¬LnP (s.book.getD k default) s.weeks) s.book.length))) fn_152 rfl (fun w hI => containsFuncLines s bo bc 153 [] [.pointer (some ⟨b0, 0, none⟩)] (fun k => ¬LnP (s.book.getD k default) s.weeks) fn_153 hb w (hs.book.inv hI) (fun k hk w' hb => line_any _ s.weeks b0 hw w' (ownCell (hI.ext hb) (i := 0) rfl rfl))) ?_
  refine SXL.not rfl ?_
  refine SXL.assign rfl ?_
  refine SXL.nil ?_
  refine thenQ.normal ?_
  refine SX.ret ?_
  refine retQ.one (ResAt.tmp rfl) ?_
  exact congrArg Value.bool (decide_eq_decide.2 (by rw [idxF_nonneg]; exact book_iff s))
theorem chk4_any (s : Sp) (bo ro : Option Addr) (bc rc : Nat) (hw : Wi s.weeks 1 10) (hr : s.reads.length ≤ 1000000) (w : World) (hs : SpAt w s bo ro) :
    CallsR Tryd.prog 154 [.agg ⟨[.int .i64 s.weeks, .int .i64 s.most, .int .i64 s.fall, .int .i64 s.a0, .int .i64 s.a1, .int .i64 s.w0, .int .i64 s.w1, (.slice bo s.book.length bc), (.slice ro s.reads.length rc)]⟩] w (fun v _ => v = .bool (decide (ckP s 4))) := by
  refine CallsR.of_SX (n := 27) (rs := [.tmp 2]) Tryd.func154 rfl rfl rfl rfl ?_
  show SX _ _ _ ⟨[(0, .agg ⟨[.int .i64 s.weeks, .int .i64 s.most, .int .i64 s.fall, .int .i64 s.a0, .int .i64 s.a1, .int .i64 s.w0, .int .i64 s.w1, (.slice bo s.book.length bc), (.slice ro s.reads.length rc)]⟩)], [], []⟩
  refine SX.seq ?_
  refine SX.region ?_
  refine SXL.box rfl rfl ?_; intro b0
  refine SXL.assign rfl ?_
  refine SXL.nil ?_
  refine thenQ.normal ?_
  refine SX.seq ?_
  refine SX.region ?_
  refine SXL.assign rfl ?_
  refine SXL.nil ?_
  refine thenQ.normal ?_
  refine SX.seq ?_
  refine SX.seq ?_
  refine SX.region ?_
  refine SXL.fieldAddr fp_68_6 rfl ?_
  refine SXL.load1o 0 sh_66 rfl rfl rfl ?_
  refine SXL.len is_66 rfl ?_
  refine SXL.move rfl ?_
  refine SXL.nil ?_
  refine thenQ.normal ?_
  refine SX.block ?_
  refine SX.loopG (α := Nat) [1, 2, 7, 8] rfl (fun k => [(9, .int .i64 ((k : Int))), (3, .int .i64 ((lastN s k)))]) (fun k => []) (fun k => k ≤ s.reads.length ∧ ∀ i, i < k → RdP (s.reads.getD i default) s.weeks ∧ lastN s i < (s.reads.getD i default).num) (fun k => s.reads.length - k) 0 ⟨Nat.zero_le _, fun _ h => absurd h (Nat.not_lt_zero _)⟩ ⟨rfl, rfl, trivial⟩ rfl ?_
  rintro k ⟨hk, hall⟩
  refine SX.seq ?_
  refine SX.region ?_
  refine SXL.lss rfl rfl ?_
  refine SXL.nil ?_
  refine thenQ.normal ?_
  refine SX.seq ?_
  refine SX.condP rfl (fun c10 => ?_) (fun c10 => ?_)
  · refine SX.skip ?_
    refine thenQ.normal ?_
    refine SX.seq ?_
    refine SX.block ?_
    refine SX.seq ?_
    obtain ⟨b, o, ha, hm⟩ := hs.readD (i := k) (by omega)
    refine SX.region ?_
    refine SXL.indexR el_66 rfl rfl ha (by omega) ?_
    refine SXL.loadN sh_131 rfl (hm _) rfl ?_
    refine SXL.alloc zp_131 ?_; intro b1
    refine SXL.store 1 sz_131 rfl rfl rfl rfl rfl rfl ?_
    refine SXL.nil ?_
    refine thenQ.normal ?_
    refine SX.seq ?_
    refine SX.seq ?_
    refine SX.region ?_
    refine SXL.fieldAddr fp_131_0 rfl ?_
    refine SXL.load1o 1 sh_3 rfl rfl rfl ?_
    refine SXL.move rfl ?_
    refine SXL.leq rfl rfl ?_
    refine SXL.move rfl ?_
    apply SXL.orG 5
    case hl => exact rfl
    case hd => exact rfl
    case hg => exact rfl
    case ht =>
      intro c23
      refine SXL.pass rfl rfl rfl ?_
      refine SXL.pass rfl rfl rfl ?_
      refine SXL.pass rfl rfl rfl ?_
      refine SXL.pass rfl rfl rfl ?_
      refine SXL.pass rfl rfl rfl ?_
      exact SXL.nil (segQ.mk (.skip rfl (.skip rfl (.skip rfl (.skip rfl (.skip rfl (.skip rfl (EnvSub.refl _))))))) rfl rfl rfl)
    case hf =>
      intro c23
      refine SXL.loadNo 1 sh_131 rfl rfl rfl ?_
      refine SXL.fieldAddr fp_68_0 rfl ?_
      refine SXL.load1o 0 sh_3 rfl rfl rfl ?_
      refine SXL.call1 (.bool (decide (RdP (s.reads.getD k default) s.weeks))) fn_155 rfl (fun w hI => readable_any _ _ (by omega) _) ?_
      refine SXL.not rfl ?_
      exact SXL.nil (segQ.mk (.skip rfl (.skip rfl (.skip rfl (.skip rfl (.skip rfl (.skip rfl (EnvSub.refl _))))))) rfl rfl ⟨rfl, rfl⟩)
    refine SXL.nil ?_
    refine thenQ.normal ?_
    refine SX.condP rfl (fun c23 => ?_) (fun c23 => ?_)
    · refine SX.seq ?_
      refine SX.region ?_
      refine SXL.assign rfl ?_
      refine SXL.nil ?_
      refine thenQ.normal ?_
      refine SX.ret ?_
      refine thenQ.ret ?_
      refine blockQ.ret ?_
      refine thenQ.ret ?_
      refine thenQ.ret ?_
      refine blockQ.ret ?_
      refine thenQ.ret ?_
      refine retQ.one (ResAt.tmp rfl) ?_
      exact congrArg Value.bool (decide_eq_false (by intro h; have := (reads_iff s).1 h k (by omega); omega)).symm
    · refine SX.skip ?_
      refine thenQ.normal ?_
      refine SX.region ?_
      refine SXL.fieldAddr fp_131_0 rfl ?_
      refine SXL.load1o 1 sh_3 rfl rfl rfl ?_
      refine SXL.assign rfl ?_
      refine SXL.nil ?_
      refine blockQ.normal ?_
      refine thenQ.normal ?_
      refine SX.region ?_
      refine SXL.add rfl rfl (by omega) ?_
      refine SXL.move rfl ?_
      refine SXL.nil ?_
      refine thenQ.normal ?_
      refine ⟨k + 1, Meets.mk _ ⟨rfl, rfl, trivial⟩ ⟨rfl, rfl, rfl, rfl, trivial⟩ rfl, ?_, (by omega)⟩
      refine ⟨by omega, fun i hi => ?_⟩
      by_cases e : i = k
      · subst e; omega
      · exact hall i (by omega)
  · refine SX.exit ?_
    refine thenQ.exit ?_
    refine thenQ.exit ?_
    refine blockQ.exit ?_
    refine thenQ.normal ?_
    refine SX.seq ?_
    refine SX.region ?_
    refine SXL.assign rfl ?_
    refine SXL.nil ?_
    refine thenQ.normal ?_
    refine SX.ret ?_
    refine retQ.one (ResAt.tmp rfl) ?_
    exact congrArg Value.bool (decide_eq_true ((reads_iff s).2 fun i hi => hall i (by omega))).symm
theorem chk_any (s : Sp) (bo ro : Option Addr) (bc rc : Nat) (k : Nat) (hk : k < 5) (hall : ∀ i, i < k → ckP s i) (hb : s.book.length ≤ 1000000) (hr : s.reads.length ≤ 1000000) (w : World) (hs : SpAt w s bo ro) :
    CallsR Tryd.prog (chkId k) [.agg ⟨[.int .i64 s.weeks, .int .i64 s.most, .int .i64 s.fall, .int .i64 s.a0, .int .i64 s.a1, .int .i64 s.w0, .int .i64 s.w1, (.slice bo s.book.length bc), (.slice ro s.reads.length rc)]⟩] w (fun v _ => v = .bool (decide (ckP s k))) := by
  match k, hk with
  | 0, _ => exact chk0_any s bo ro bc rc w
  | 1, _ => exact chk1_any s bo ro bc rc w
  | 2, _ => exact chk2_any s bo ro bc rc w
  | 3, _ => exact chk3_any s bo ro bc rc (hall 0 (by omega)).1 hb w hs
  | 4, _ => exact chk4_any s bo ro bc rc (hall 0 (by omega)).1 hr w hs
theorem fn_chk (k : Nat) (hk : k < 5) : fnOk Tryd.prog (chkId k) = true := by
  match k, hk with
  | 0, _ => exact fn_147
  | 1, _ => exact fn_148
  | 2, _ => exact fn_150
  | 3, _ => exact fn_151
  | 4, _ => exact fn_154
end Go.Proofs.YtolcicaclflagaaDoor

/- The walks of functions. -/
namespace Go.Proofs.YtolcicaclflagaaDoor
open Go.X Go.S Go.RowKit
theorem scheck_any (s : Sp) (bo ro : Option Addr) (bc rc : Nat) (hb : s.book.length ≤ 1000000) (hr : s.reads.length ≤ 1000000) (w : World) (hg : Gl w) (hs : SpAt w s bo ro) :
    CallsR Tryd.prog 112 [.agg ⟨[.int .i64 s.weeks, .int .i64 s.most, .int .i64 s.fall, .int .i64 s.a0, .int .i64 s.a1, .int .i64 s.w0, .int .i64 s.w1, (.slice bo s.book.length bc), (.slice ro s.reads.length rc)]⟩] w (fun v _ => v = .int .i64 (if SpP s then 0 else 10)) := by
  refine CallsR.of_SX (n := 15) (rs := [.tmp 2]) Tryd.func112 rfl rfl rfl rfl ?_
  show SX _ _ _ ⟨[(0, .agg ⟨[.int .i64 s.weeks, .int .i64 s.most, .int .i64 s.fall, .int .i64 s.a0, .int .i64 s.a1, .int .i64 s.w0, .int .i64 s.w1, (.slice bo s.book.length bc), (.slice ro s.reads.length rc)]⟩)], [], []⟩
  refine SX.seq ?_
  refine SX.region ?_
  refine SXL.box rfl rfl ?_; intro b0
  refine SXL.assign rfl ?_
  refine SXL.nil ?_
  refine thenQ.normal ?_
  refine SX.seq ?_
  refine SX.seq ?_
  refine SX.region ?_
  refine SXL.loadN sh_166 rfl (hg.memC _) rfl ?_
  refine SXL.move rfl ?_
  refine SXL.nil ?_
  refine thenQ.normal ?_
  refine SX.block ?_
  refine SX.loopG (α := Nat) [1, 2, 5] rfl (fun k => [(6, .int .i64 ((k : Int)))]) (fun k => []) (fun k => k ≤ 5 ∧ ∀ i, i < k → ckP s i) (fun k => 5 - k) 0 ⟨Nat.zero_le _, fun _ h => absurd h (Nat.not_lt_zero _)⟩ ⟨rfl, trivial⟩ rfl ?_
  rintro k ⟨hk, hall⟩
  refine SX.seq ?_
  refine SX.region ?_
  refine SXL.lss rfl rfl ?_
  refine SXL.nil ?_
  refine thenQ.normal ?_
  refine SX.seq ?_
  refine SX.condP rfl (fun c7 => ?_) (fun c7 => ?_)
  · refine SX.skip ?_
    refine thenQ.normal ?_
    refine SX.seq ?_
    refine SX.block ?_
    refine SX.seq ?_
    refine SX.region ?_
    refine SXL.indexV ae_166 sh_165 rfl rfl (by omega) (chk_take k (by omega)) ?_
    refine SXL.alloc zp_165 ?_; intro b1
    refine SXL.store 1 sz_165 rfl rfl rfl rfl rfl rfl ?_
    refine SXL.nil ?_
    refine thenQ.normal ?_
    refine SX.seq ?_
    refine SX.region ?_
    refine SXL.fieldAddr fp_165_0 rfl ?_
    refine SXL.load1o 1 sh_71 rfl rfl rfl ?_
    refine SXL.loadNo 0 sh_68 rfl rfl rfl ?_
    refine SXL.call1V (.bool (decide (ckP s k))) (fn_chk k (by omega)) rfl rfl (fun w hI => chk_any s bo ro bc rc k (by omega) hall hb hr w (hs.inv hI)) ?_
    refine SXL.not rfl ?_
    refine SXL.nil ?_
    refine thenQ.normal ?_
    refine SX.condP rfl (fun c13 => ?_) (fun c13 => ?_)
    · refine SX.seq ?_
      refine SX.region ?_
      refine SXL.assign rfl ?_
      refine SXL.nil ?_
      refine thenQ.normal ?_
      refine SX.ret ?_
      refine blockQ.ret ?_
      refine thenQ.ret ?_
      refine thenQ.ret ?_
      refine blockQ.ret ?_
      refine thenQ.ret ?_
      refine retQ.one (ResAt.tmp rfl) ?_
      rw [if_neg (fun h => c13 ((ck_iff s).1 h k (by omega)))]
    · refine SX.skip ?_
      refine blockQ.normal ?_
      refine thenQ.normal ?_
      refine SX.region ?_
      refine SXL.add rfl rfl (by omega) ?_
      refine SXL.move rfl ?_
      refine SXL.nil ?_
      refine thenQ.normal ?_
      refine ⟨k + 1, Meets.mk _ ⟨rfl, trivial⟩ ⟨rfl, rfl, rfl, trivial⟩ rfl, ?_, (by omega)⟩
      refine ⟨by omega, fun i hi => ?_⟩
      by_cases e : i = k
      · subst e; exact Decidable.not_not.1 c13
      · exact hall i (by omega)
  · refine SX.exit ?_
    refine thenQ.exit ?_
    refine thenQ.exit ?_
    refine blockQ.exit ?_
    refine thenQ.normal ?_
    refine SX.seq ?_
    refine SX.region ?_
    refine SXL.assign rfl ?_
    refine SXL.nil ?_
    refine thenQ.normal ?_
    refine SX.ret ?_
    refine retQ.one (ResAt.tmp rfl) ?_
    rw [if_pos ((ck_iff s).2 fun i hi => hall i (by omega))]
theorem both_any (a b c d : Int) (w : World) (hg : Gl w) :
    CallsR Tryd.prog 118 [.agg ⟨[.int .i64 a, .int .i64 b]⟩, .agg ⟨[.int .i64 c, .int .i64 d]⟩] w (fun v _ => v = spanV (bothP a b c d)) := by
  refine CallsR.of_SX (n := 24) (rs := [.cell 4 55]) Tryd.func118 rfl rfl rfl rfl ?_
  show SX _ _ _ ⟨[(0, .agg ⟨[.int .i64 a, .int .i64 b]⟩), (1, .agg ⟨[.int .i64 c, .int .i64 d]⟩)], [], []⟩
  refine SX.seq ?_
  refine SX.region ?_
  refine SXL.box rfl rfl ?_; intro b0
  refine SXL.box rfl rfl ?_; intro b1
  refine SXL.alloc zp_55 ?_; intro b2
  refine SXL.nil ?_
  refine thenQ.normal ?_
  refine SX.seq ?_
  refine SX.region ?_
  refine SXL.fieldAddr fp_55_0 rfl ?_
  refine SXL.load1o 0 sh_3 rfl rfl rfl ?_
  refine SXL.fieldAddr fp_55_0 rfl ?_
  refine SXL.load1o 1 sh_3 rfl rfl rfl ?_
  refine SXL.max rfl rfl ?_
  refine SXL.fieldAddr fp_55_1 rfl ?_
  refine SXL.load1o 0 sh_3 rfl rfl rfl ?_
  refine SXL.fieldAddr fp_55_1 rfl ?_
  refine SXL.load1o 1 sh_3 rfl rfl rfl ?_
  refine SXL.min rfl rfl ?_
  refine SXL.buildS pl_55 zp_55 rfl rfl ?_
  refine SXL.alloc zp_55 ?_; intro b3
  refine SXL.store 3 sz_55 rfl rfl rfl rfl rfl rfl ?_
  refine SXL.nil ?_
  refine thenQ.normal ?_
  refine SX.seq ?_
  refine SX.seq ?_
  refine SX.region ?_
  refine SXL.fieldAddr fp_55_0 rfl ?_
  refine SXL.load1o 3 sh_3 rfl rfl rfl ?_
  refine SXL.fieldAddr fp_55_1 rfl ?_
  refine SXL.load1o 3 sh_3 rfl rfl rfl ?_
  refine SXL.gtr rfl rfl ?_
  refine SXL.nil ?_
  refine thenQ.normal ?_
  refine SX.condP rfl (fun c21 => ?_) (fun c21 => ?_)
  · refine SX.seq ?_
    refine SX.region ?_
    refine SXL.loadN sh_55 rfl (hg.memN _) rfl ?_
    refine SXL.store 2 sz_55 rfl rfl rfl rfl rfl rfl ?_
    refine SXL.nil ?_
    refine thenQ.normal ?_
    refine SX.ret ?_
    refine thenQ.ret ?_
    refine retQ.one (ResAt.cellNo 2 sh_55 rfl rfl rfl) ?_
    rw [bothP, if_pos c21]; rfl
  · refine SX.skip ?_
    refine thenQ.normal ?_
    refine SX.seq ?_
    refine SX.region ?_
    refine SXL.loadNo 3 sh_55 rfl rfl rfl ?_
    refine SXL.store 2 sz_55 rfl rfl rfl rfl rfl rfl ?_
    refine SXL.nil ?_
    refine thenQ.normal ?_
    refine SX.ret ?_
    refine retQ.one (ResAt.cellNo 2 sh_55 rfl rfl rfl) ?_
    rw [bothP, if_neg c21]; rfl
theorem reads_any (s : Sp) (bo ro : Option Addr) (bc rc : Nat) (x : Rd) (h1 : Spn s.a0 s.a1 1 600) (h2 : Spn x.s0 x.s1 0 99) (h3 : Wi x.bu 1 40) (h4 : 0 < x.s1) (_h5 : Wi s.most 0 100) (w : World) (hg : Gl w) :
    CallsR Tryd.prog 119 [.agg ⟨[.int .i64 s.weeks, .int .i64 s.most, .int .i64 s.fall, .int .i64 s.a0, .int .i64 s.a1, .int .i64 s.w0, .int .i64 s.w1, (.slice bo s.book.length bc), (.slice ro s.reads.length rc)]⟩, .agg ⟨x.cells⟩] w (fun v _ => v = spanV (readsP s x)) := by
  have m1 := mul2 (a := x.s1) (b := s.a1) (A := 99) (B := 600) (by omega) (by omega) (by omega) (by omega)
  have m2 := mul2 (a := x.s0) (b := s.a0) (A := 99) (B := 600) (by omega) (by omega) (by omega) (by omega)
  have m3 := Int.mul_pos h4 (show 0 < s.a1 by omega)
  refine CallsR.of_SX (n := 49) (rs := [.cell 4 55]) Tryd.func119 rfl rfl rfl rfl ?_
  show SX _ _ _ ⟨[(0, .agg ⟨[.int .i64 s.weeks, .int .i64 s.most, .int .i64 s.fall, .int .i64 s.a0, .int .i64 s.a1, .int .i64 s.w0, .int .i64 s.w1, (.slice bo s.book.length bc), (.slice ro s.reads.length rc)]⟩), (1, .agg ⟨x.cells⟩)], [], []⟩
  refine SX.seq ?_
  refine SX.region ?_
  refine SXL.box rfl rfl ?_; intro b0
  refine SXL.box rfl rfl ?_; intro b1
  refine SXL.alloc zp_55 ?_; intro b2
  refine SXL.nil ?_
  refine thenQ.normal ?_
  refine SX.seq ?_
  refine SX.region ?_
  refine SXL.fieldAddr fp_131_2 rfl ?_
  refine SXL.load1o 1 sh_3 rfl rfl rfl ?_
  refine SXL.mul rfl rfl (by omega) ?_
  refine SXL.assign rfl ?_
  refine SXL.nil ?_
  refine thenQ.normal ?_
  refine SX.seq ?_
  refine SX.draw 16 (by kernel_rfl) (by kernel_rfl) {} ?_
  refine SXA.take 0 16 rfl (by kernel_rfl) rfl ?_
  refine SXL.fieldAddr fp_131_3 rfl ?_
  refine SXL.fieldAddr fp_55_1 rfl ?_
  refine SXL.load1o 1 sh_3 rfl rfl rfl ?_
  refine SXL.fieldAddr fp_68_3 rfl ?_
  refine SXL.fieldAddr fp_55_1 rfl ?_
  refine SXL.load1o 0 sh_3 rfl rfl rfl ?_
  refine SXL.mul rfl rfl (by omega) ?_
  refine SXL.fieldAddr fp_131_3 rfl ?_
  refine SXL.fieldAddr fp_55_0 rfl ?_
  refine SXL.load1o 1 sh_3 rfl rfl rfl ?_
  refine SXL.fieldAddr fp_68_3 rfl ?_
  refine SXL.fieldAddr fp_55_0 rfl ?_
  refine SXL.load1o 0 sh_3 rfl rfl rfl ?_
  refine SXL.mul rfl rfl (by omega) ?_
  refine SXL.assign rfl ?_
  refine SXL.assign rfl ?_
  refine SXL.nil ⟨rfl, rfl, rfl, ?_⟩
  refine SXA.done (by kernel_rfl) ?_
  refine SXL.nil ?_
  refine thenQ.normal ?_
  refine SX.seq ?_
  refine SX.draw 10 (by kernel_rfl) (by kernel_rfl) {} ?_
  refine SXA.take 0 9 rfl (by kernel_rfl) rfl ?_
  refine SXL.move rfl ?_
  refine SXL.move rfl ?_
  refine SXL.add rfl rfl (by omega) ?_
  refine SXL.sub rfl rfl (by omega) ?_
  refine SXL.move rfl ?_
  refine SXL.quo rfl rfl (by omega) ?_
  refine SXL.fieldAddr fp_68_1 rfl ?_
  refine SXL.load1o 0 sh_3 rfl rfl rfl ?_
  refine SXL.buildS pl_55 zp_55 rfl rfl ?_
  refine SXL.nil ⟨rfl, rfl, rfl, ?_⟩
  refine SXA.all [9] (by kernel_rfl) rfl ⟨⟨?_, rfl⟩, trivial⟩
  refine (show SXL _ _ [_] _ _ from ?_)
  refine SXL.alloc zp_55 ?_; intro b3
  refine SXL.nil (stepQ.mk _ rfl rfl ?_)
  refine SXA.done (by kernel_rfl) ?_
  refine SXL.store 3 sz_55 rfl rfl rfl rfl rfl rfl ?_
  refine SXL.nil ?_
  refine thenQ.normal ?_
  refine SX.cutG (α := Unit) [2, 4, 8] rfl (fun _u => []) (fun _u => [(3, (b3, .cells ⟨[.int .i64 ((3600 * x.bu + x.s1 * s.a1 - 1) / (x.s1 * s.a1)), .int .i64 (if 0 < x.s0 * s.a0 then min s.most ((3600 * x.bu) / (x.s0 * s.a0)) else s.most)]⟩ 55 (0, 0)))]) (fun _u => True) ?_ ?_
  · refine SX.seq ?_
    refine SX.region ?_
    refine SXL.move rfl ?_
    refine SXL.gtr rfl rfl ?_
    refine SXL.nil ?_
    refine thenQ.normal ?_
    refine SX.condP rfl (fun c36 => ?_) (fun c36 => ?_)
    · refine SX.draw 7 (by kernel_rfl) (by kernel_rfl) {} ?_
      refine SXA.take 0 7 rfl (by kernel_rfl) rfl ?_
      refine SXL.fieldAddr fp_55_1 rfl ?_
      refine SXL.load1o 3 sh_3 rfl rfl rfl ?_
      refine SXL.move rfl ?_
      refine SXL.move rfl ?_
      refine SXL.quo rfl rfl (by omega) ?_
      refine SXL.min rfl rfl ?_
      refine SXL.fieldAddr fp_55_1 rfl ?_
      refine SXL.nil ⟨rfl, rfl, rfl, ?_⟩
      refine SXA.done (by kernel_rfl) ?_
      refine SXL.store 3 sz_3 rfl rfl rfl rfl rfl rfl ?_
      refine SXL.nil ?_
      refine thenQ.normal ?_
      refine ⟨(), Meets.mk _ trivial ⟨rfl, rfl, rfl, trivial⟩ (by first | (rw [if_pos c36]; rfl) | (rw [if_neg c36]; rfl)), trivial⟩
    · refine SX.skip ?_
      refine thenQ.normal ?_
      refine ⟨(), Meets.mk _ trivial ⟨rfl, rfl, rfl, trivial⟩ (by first | (rw [if_pos c36]; rfl) | (rw [if_neg c36]; rfl)), trivial⟩
  rintro _ _
  refine SX.seq ?_
  refine SX.region ?_
  refine SXL.loadNo 3 sh_55 rfl rfl rfl ?_
  refine SXL.fieldAddr fp_68_1 rfl ?_
  refine SXL.load1o 0 sh_3 rfl rfl rfl ?_
  refine SXL.buildS pl_55 zp_55 rfl rfl ?_
  refine SXL.call1 (spanV (bothP ((3600 * x.bu + x.s1 * s.a1 - 1) / (x.s1 * s.a1)) (if 0 < x.s0 * s.a0 then min s.most ((3600 * x.bu) / (x.s0 * s.a0)) else s.most) (0) (s.most))) fn_118 rfl (fun w hI => both_any _ _ _ _ _ (hg.inv hI)) ?_
  refine SXL.store 2 sz_55 rfl rfl rfl rfl rfl rfl ?_
  refine SXL.nil ?_
  refine thenQ.normal ?_
  refine SX.ret ?_
  refine retQ.one (ResAt.cellNo 2 sh_55 rfl rfl rfl) ?_
  first | rfl | assumption
theorem flowing_any (s : Sp) (bo ro : Option Addr) (bc rc : Nat) (hv : SpP s) (w : World) (hg : Gl w) (hs : SpAt w s bo ro) :
    CallsR Tryd.prog 113 [.agg ⟨[.int .i64 s.weeks, .int .i64 s.most, .int .i64 s.fall, .int .i64 s.a0, .int .i64 s.a1, .int .i64 s.w0, .int .i64 s.w1, (.slice bo s.book.length bc), (.slice ro s.reads.length rc)]⟩] w (fun v _ => v = .agg ⟨watC s bo ro bc rc (flL s)⟩) := by
  have hH := hv.1
  unfold HeadP at hH
  refine CallsR.of_SX (n := 43) (rs := [.cell 2 150]) Tryd.func113 rfl rfl rfl rfl ?_
  show SX _ _ _ ⟨[(0, .agg ⟨[.int .i64 s.weeks, .int .i64 s.most, .int .i64 s.fall, .int .i64 s.a0, .int .i64 s.a1, .int .i64 s.w0, .int .i64 s.w1, (.slice bo s.book.length bc), (.slice ro s.reads.length rc)]⟩)], [], []⟩
  refine SX.seq ?_
  refine SX.region ?_
  refine SXL.box rfl rfl ?_; intro b0
  refine SXL.alloc zp_150 ?_; intro b1
  refine SXL.nil ?_
  refine thenQ.normal ?_
  refine SX.seq ?_
  refine SX.region ?_
  refine SXL.loadNo 0 sh_68 rfl rfl rfl ?_
  refine SXL.buildS pl_150 zp_150 rfl rfl ?_
  refine SXL.alloc zp_150 ?_; intro b2
  refine SXL.store 2 sz_150 rfl rfl rfl rfl rfl rfl ?_
  refine SXL.nil ?_
  refine thenQ.normal ?_
  refine SX.seq ?_
  refine SX.seq ?_
  refine SX.region ?_
  refine SXL.fieldAddr fp_68_0 rfl ?_
  refine SXL.load1o 0 sh_3 rfl rfl rfl ?_
  refine SXL.move rfl ?_
  refine SXL.nil ?_
  refine thenQ.normal ?_
  refine SX.block ?_
  refine SX.loopG (α := Nat) [1, 2, 3, 10] rfl (fun k => [(11, .int .i64 ((k : Int)))]) (fun k => [(2, (b2, .cells ⟨watC s bo ro bc rc (fl0 s k)⟩ 150 (0, 0)))]) (fun k => k ≤ s.weeks.toNat) (fun k => s.weeks.toNat - k) 0 (Nat.zero_le _) ⟨rfl, trivial⟩ rfl ?_
  rintro k hk
  refine SX.seq ?_
  refine SX.region ?_
  refine SXL.lss rfl rfl ?_
  refine SXL.nil ?_
  refine thenQ.normal ?_
  refine SX.seq ?_
  refine SX.condP rfl (fun c1 => ?_) (fun c1 => ?_)
  · refine SX.skip ?_
    refine thenQ.normal ?_
    refine SX.seq ?_
    refine SX.block ?_
    refine SX.seq ?_
    refine SX.region ?_
    refine SXL.move rfl ?_
    refine SXL.assign rfl ?_
    refine SXL.nil ?_
    refine thenQ.normal ?_
    refine SX.region ?_
    refine SXL.move rfl ?_
    refine SXL.fieldAddr fp_68_1 rfl ?_
    refine SXL.load1o 0 sh_3 rfl rfl rfl ?_
    refine SXL.buildS pl_55 zp_55 rfl rfl ?_
    refine SXL.fieldAddr fp_150_1 rfl ?_
    refine SXL.indexA el_148 rfl rfl (by omega) ?_
    refine SXL.store 2 sz_55 rfl rfl rfl rfl rfl (putApp 9 rfl (ints_put2' (p := (0, s.most)) (i := k) rfl (by simp only [fl0_len]; omega)) (by omega)) ?_
    refine SXL.nil ?_
    refine blockQ.normal ?_
    refine thenQ.normal ?_
    refine SX.region ?_
    refine SXL.add rfl rfl (by omega) ?_
    refine SXL.move rfl ?_
    refine SXL.nil ?_
    refine thenQ.normal ?_
    refine ⟨k + 1, Meets.mk _ ⟨rfl, trivial⟩ ⟨rfl, rfl, rfl, rfl, trivial⟩ rfl, (by omega), (by omega)⟩
  · refine SX.exit ?_
    refine thenQ.exit ?_
    refine thenQ.exit ?_
    refine blockQ.exit ?_
    refine thenQ.normal ?_
    refine SX.seq ?_
    refine SX.seq ?_
    obtain rfl : k = s.weeks.toNat := by omega
    refine SX.region ?_
    refine SXL.fieldAddr fp_68_6 rfl ?_
    refine SXL.load1o 0 sh_66 rfl rfl rfl ?_
    refine SXL.len is_66 rfl ?_
    refine SXL.move rfl ?_
    refine SXL.nil ?_
    refine thenQ.normal ?_
    refine SX.block ?_
    refine SX.loopG (α := Nat) [1, 2, 3, 22, 23] rfl (fun k => [(24, .int .i64 ((k : Int)))]) (fun k => [(2, (b2, .cells ⟨watC s bo ro bc rc (flTo s k)⟩ 150 (0, 0)))]) (fun k => k ≤ s.reads.length) (fun k => s.reads.length - k) 0 (Nat.zero_le _) ⟨rfl, trivial⟩ rfl ?_
    rintro k hk2
    refine SX.seq ?_
    refine SX.region ?_
    refine SXL.lss rfl rfl ?_
    refine SXL.nil ?_
    refine thenQ.normal ?_
    refine SX.seq ?_
    refine SX.condP rfl (fun c2 => ?_) (fun c2 => ?_)
    · refine SX.skip ?_
      refine thenQ.normal ?_
      refine SX.seq ?_
      refine SX.block ?_
      refine SX.seq ?_
      obtain ⟨b, o, ha, hm⟩ := hs.readD (i := k) (by omega)
      have hrd := ((reads_iff s).1 hv.2.2 k (by omega)).1
      refine SX.region ?_
      refine SXL.indexR el_66 rfl rfl ha (by omega) ?_
      refine SXL.loadN sh_131 rfl (hm _) rfl ?_
      refine SXL.alloc zp_131 ?_; intro b3
      refine SXL.store 3 sz_131 rfl rfl rfl rfl rfl rfl ?_
      refine SXL.nil ?_
      refine thenQ.normal ?_
      refine SX.draw 13 (by kernel_rfl) (by kernel_rfl) {} ?_
      refine SXA.take 0 13 rfl (by kernel_rfl) rfl ?_
      refine SXL.fieldAddr fp_131_1 rfl ?_
      refine SXL.load1o 3 sh_3 rfl rfl rfl ?_
      refine SXL.fieldAddr fp_131_1 rfl ?_
      refine SXL.load1o 3 sh_3 rfl rfl rfl ?_
      refine SXL.fieldAddr fp_150_1 rfl ?_
      refine SXL.indexA el_148 rfl rfl (by omega) ?_
      refine SXL.loadNo 2 sh_55 rfl rfl (takeApp 9 rfl (ints_take2' (i := (s.reads.getD k default).wk.toNat) rfl (by simp only [flTo_len]; omega)) (by omega)) ?_
      refine SXL.loadNo 0 sh_68 rfl rfl rfl ?_
      refine SXL.loadNo 3 sh_131 rfl rfl rfl ?_
      refine SXL.call1 (spanV (readsP s (s.reads.getD k default))) fn_119 rfl (fun w hI => reads_any s bo ro bc rc (s.reads.getD k default) (by omega) (by omega) (by omega) (by omega) (by omega) _ (hg.inv hI)) ?_
      refine SXL.call1 (spanV (bothP (Lo (flTo s k) (s.reads.getD k default).wk.toNat) (Hi (flTo s k) (s.reads.getD k default).wk.toNat) ((readsP s (s.reads.getD k default)).1) ((readsP s (s.reads.getD k default)).2))) fn_118 rfl (fun w hI => both_any _ _ _ _ _ (hg.inv hI)) ?_
      refine SXL.fieldAddr fp_150_1 rfl ?_
      refine SXL.indexA el_148 rfl rfl (by omega) ?_
      refine SXL.nil ⟨rfl, rfl, rfl, ?_⟩
      refine SXA.done (by kernel_rfl) ?_
      refine SXL.store 2 sz_55 rfl rfl rfl rfl rfl (putApp 9 rfl (ints_put2' (p := bothP (Lo (flTo s k) (s.reads.getD k default).wk.toNat) (Hi (flTo s k) (s.reads.getD k default).wk.toNat) (readsP s (s.reads.getD k default)).1 (readsP s (s.reads.getD k default)).2) (i := (s.reads.getD k default).wk.toNat) rfl (by simp only [flTo_len]; omega)) (by omega)) ?_
      refine SXL.nil ?_
      refine blockQ.normal ?_
      refine thenQ.normal ?_
      refine SX.region ?_
      refine SXL.add rfl rfl (by omega) ?_
      refine SXL.move rfl ?_
      refine SXL.nil ?_
      refine thenQ.normal ?_
      refine ⟨k + 1, Meets.mk _ ⟨rfl, trivial⟩ ⟨rfl, rfl, rfl, rfl, rfl, trivial⟩ rfl, (by omega), (by omega)⟩
    · refine SX.exit ?_
      refine thenQ.exit ?_
      refine thenQ.exit ?_
      refine blockQ.exit ?_
      refine thenQ.normal ?_
      refine SX.seq ?_
      obtain rfl : k = s.reads.length := by omega
      refine SX.region ?_
      refine SXL.loadNo 2 sh_150 rfl rfl (takeAt_full (watC_len (by simp))) ?_
      refine SXL.store 1 sz_150 rfl rfl rfl rfl (watC_len (by simp)) (putAt_all _ _ (watC_len (by simp))) ?_ (watC_one _ _ _ _ _ _)
      refine SXL.nil ?_
      refine thenQ.normal ?_
      refine SX.ret ?_
      refine retQ.one (ResAt.cellNo 1 sh_150 rfl rfl (takeAt_full (watC_len (by simp)))) ?_
      first | rfl | assumption
end Go.Proofs.YtolcicaclflagaaDoor

/- The walks of functions. -/
namespace Go.Proofs.YtolcicaclflagaaDoor
open Go.X Go.S Go.RowKit
theorem indexSpans (M : List Int) (n : Nat) (a b : Int) (ao : Option Addr) (c : Nat) (hn : n ≤ 1000) (w : World) (h : RowsAt w ao 2 (pairs M n)) :
    CallsR Tryd.prog 124 [.slice ao n c, .agg ⟨[.int .i64 a, .int .i64 b]⟩] w (fun v _ => v = .int .i64 (idxF (fun k => [a, b] = [Lo M k, Hi M k]) n)) := by
  refine CallsR.of_SX (n := 19) (rs := [.tmp 4]) Tryd.func124 rfl rfl rfl rfl ?_
  show SX _ _ _ ⟨[(0, .slice ao n c), (1, .agg ⟨[.int .i64 a, .int .i64 b]⟩)], [], []⟩
  refine SX.seq ?_
  refine SX.region ?_
  refine SXL.box rfl rfl ?_; intro b0
  refine SXL.assign rfl ?_
  refine SXL.nil ?_
  refine thenQ.normal ?_
  refine SX.seq ?_
  refine SX.seq ?_
  refine SX.region ?_
  refine SXL.move rfl ?_
  refine SXL.len is_176 rfl ?_
  refine SXL.move rfl ?_
  refine SXL.nil ?_
  refine thenQ.normal ?_
  refine SX.block ?_
  refine SX.loopG (α := Nat) [0, 3, 4, 7] rfl (fun k => [(8, .int .i64 ((k : Int)))]) (fun k => []) (fun k => k ≤ n ∧ ∀ i, i < k → ¬[a, b] = [Lo M i, Hi M i]) (fun k => n - k) 0 ⟨Nat.zero_le _, fun _ h => absurd h (Nat.not_lt_zero _)⟩ ⟨rfl, trivial⟩ rfl ?_
  rintro k ⟨hk, hall⟩
  refine SX.seq ?_
  refine SX.region ?_
  refine SXL.lss rfl rfl ?_
  refine SXL.nil ?_
  refine thenQ.normal ?_
  refine SX.seq ?_
  refine SX.condP rfl (fun c9 => ?_) (fun c9 => ?_)
  · refine SX.skip ?_
    refine thenQ.normal ?_
    refine SX.seq ?_
    refine SX.block ?_
    refine SX.seq ?_
    refine SX.region ?_
    refine SXL.move rfl ?_
    refine SXL.assign rfl ?_
    refine SXL.nil ?_
    refine thenQ.normal ?_
    refine SX.seq ?_
    obtain ⟨b2, o, ha, hm⟩ := pairAt h (i := k) (by omega)
    refine SX.draw 6 (by kernel_rfl) (by kernel_rfl) {} ?_
    refine SXA.take 0 6 rfl (by kernel_rfl) rfl ?_
    refine SXL.loadNo 0 sh_55 rfl rfl rfl ?_
    refine SXL.move rfl ?_
    refine SXL.move rfl ?_
    refine SXL.indexR el_176 rfl rfl ha (by omega) ?_
    refine SXL.loadN sh_55 rfl (hm _) rfl ?_
    refine SXL.eqlV (p := [a, b] = [Lo M k, Hi M k]) (u := .agg ⟨ints ([a, b])⟩) (v := .agg ⟨ints ([Lo M k, Hi M k])⟩) rfl rfl (run_eql_ints eq_55 eg_55 sh_55 rfl rfl) ?_
    refine SXL.nil ⟨rfl, rfl, rfl, ?_⟩
    refine SXA.done (by kernel_rfl) ?_
    refine SXL.nil ?_
    refine thenQ.normal ?_
    refine SX.condP rfl (fun c16 => ?_) (fun c16 => ?_)
    · refine SX.seq ?_
      refine SX.region ?_
      refine SXL.move rfl ?_
      refine SXL.assign rfl ?_
      refine SXL.nil ?_
      refine thenQ.normal ?_
      refine SX.ret ?_
      refine blockQ.ret ?_
      refine thenQ.ret ?_
      refine thenQ.ret ?_
      refine blockQ.ret ?_
      refine thenQ.ret ?_
      refine retQ.one (ResAt.tmp rfl) ?_
      exact congrArg (Value.int .i64) (idxF_some (p := fun k => [a, b] = [Lo M k, Hi M k]) (by omega) c16 hall).symm
    · refine SX.skip ?_
      refine blockQ.normal ?_
      refine thenQ.normal ?_
      refine SX.region ?_
      refine SXL.add rfl rfl (by omega) ?_
      refine SXL.move rfl ?_
      refine SXL.nil ?_
      refine thenQ.normal ?_
      refine ⟨k + 1, Meets.mk _ ⟨rfl, trivial⟩ ⟨rfl, rfl, rfl, rfl, trivial⟩ rfl, ?_, (by omega)⟩
      refine ⟨by omega, fun i hi => ?_⟩
      by_cases e : i = k
      · subst e; exact c16
      · exact hall i (by omega)
  · refine SX.exit ?_
    refine thenQ.exit ?_
    refine thenQ.exit ?_
    refine blockQ.exit ?_
    refine thenQ.normal ?_
    refine SX.seq ?_
    refine SX.region ?_
    refine SXL.assign rfl ?_
    refine SXL.nil ?_
    refine thenQ.normal ?_
    refine SX.ret ?_
    refine retQ.one (ResAt.tmp rfl) ?_
    exact congrArg (Value.int .i64) (idxF_none (p := fun k => [a, b] = [Lo M k, Hi M k]) fun i hi => hall i (by omega)).symm
theorem containsSpans (M : List Int) (n : Nat) (a b : Int) (ao : Option Addr) (c : Nat) (hn : n ≤ 1000) (w : World) (h : RowsAt w ao 2 (pairs M n)) :
    CallsR Tryd.prog 123 [.slice ao n c, .agg ⟨[.int .i64 a, .int .i64 b]⟩] w (fun v _ => v = .bool (decide (0 ≤ idxF (fun k => [a, b] = [Lo M k, Hi M k]) n))) := by
  refine CallsR.of_SX (n := 9) (rs := [.tmp 4]) Tryd.func123 rfl rfl rfl rfl ?_
  show SX _ _ _ ⟨[(0, .slice ao n c), (1, .agg ⟨[.int .i64 a, .int .i64 b]⟩)], [], []⟩
  refine SX.seq ?_
  refine SX.region ?_
  refine SXL.box rfl rfl ?_; intro b0
  refine SXL.assign rfl ?_
  refine SXL.nil ?_
  refine thenQ.normal ?_
  refine SX.seq ?_
  refine SX.region ?_
  refine SXL.move rfl ?_
  refine SXL.loadNo 0 sh_55 rfl rfl rfl ?_
  refine SXL.call1 (.int .i64 (idxF (fun k => [a, b] = [Lo M k, Hi M k]) n)) fn_124 rfl (fun w hI => indexSpans M n a b ao c hn _ (h.inv hI)) ?_
  refine SXL.geq rfl rfl ?_
  refine SXL.assign rfl ?_
  refine SXL.nil ?_
  refine thenQ.normal ?_
  refine SX.ret ?_
  refine retQ.one (ResAt.tmp rfl) ?_
  first | rfl | assumption
set_option maxHeartbeats 2000000 in
theorem after_any (s : Sp) (bo ro : Option Addr) (bc rc : Nat) (R : List Int) (L : List Int) (hv : SpP s) (hW : RelW s R L) (rain : Int) (w : World) (hg : Gl w) (hs : SpAt w s bo ro) :
    CallsR Tryd.prog 122 [.agg ⟨watC s bo ro bc rc R⟩, .int .i64 rain] w (fun v _ => AfterR s L rain v) := by
  have hH := hv.1
  unfold HeadP at hH
  have hR := hW.lr
  refine CallsR.of_SX (n := 120) (rs := [.cell 4 148, .tmp 5]) Tryd.func122 rfl rfl rfl rfl ?_
  show SX _ _ _ ⟨[(0, .agg ⟨watC s bo ro bc rc R⟩), (1, .int .i64 rain)], [], []⟩
  refine SX.seq ?_
  refine SX.region ?_
  refine SXL.box rfl rfl ?_; intro b0
  refine SXL.alloc zp_148 ?_; intro b1
  refine SXL.assign rfl ?_
  refine SXL.nil ?_
  refine thenQ.normal ?_
  refine SX.seq ?_
  refine SX.region ?_
  refine SXL.fieldAddr fp_150_1 rfl ?_
  refine SXL.loadNo 0 sh_148 rfl rfl (takeApp 9 rfl (takeAt_full (k := 20) (by simp [hR])) rfl) ?_
  refine SXL.alloc zp_148 ?_; intro b2
  refine SXL.store 2 sz_148 rfl rfl rfl rfl (by simp [hR]) (putAt_all _ _ (by simp [hR])) ?_ (ints_isOne _)
  refine SXL.nil ?_
  refine thenQ.normal ?_
  refine SX.seq ?_
  refine SX.seq ?_
  refine SX.region ?_
  refine SXL.fieldAddr fp_150_0 rfl ?_
  refine SXL.fieldAddr fp_68_5 rfl ?_
  refine SXL.load1o 0 sh_65 rfl rfl rfl ?_
  refine SXL.len is_65 rfl ?_
  refine SXL.move rfl ?_
  refine SXL.nil ?_
  refine thenQ.normal ?_
  refine SX.block ?_
  refine SX.loopG (α := Nat) [1, 2, 4, 5, 6, 17, 18] rfl (fun k => [(19, .int .i64 ((k : Int)))]) (fun k => [(2, (b2, .cells ⟨ints (slTo s R rain k)⟩ 148 (0, 0)))]) (fun k => k ≤ s.book.length) (fun k => s.book.length - k) 0 (Nat.zero_le _) ⟨rfl, trivial⟩ rfl ?_
  rintro k hk
  have hl := slTo_len s R rain k
  have hSk := slTo_sb hv hR hW.sb rain k hk
  refine SX.seq ?_
  refine SX.region ?_
  refine SXL.lss rfl rfl ?_
  refine SXL.nil ?_
  refine thenQ.normal ?_
  refine SX.seq ?_
  refine SX.condP rfl (fun c20 => ?_) (fun c20 => ?_)
  · refine SX.skip ?_
    refine thenQ.normal ?_
    refine SX.seq ?_
    refine SX.block ?_
    refine SX.seq ?_
    obtain ⟨b, o, ha, hm⟩ := hs.lineD (i := k) (by omega)
    have hln := bookD hv.2.1 (k := k) (by omega)
    refine SX.region ?_
    refine SXL.indexR el_65 rfl rfl ha (by omega) ?_
    refine SXL.loadN sh_129 rfl (hm _) rfl ?_
    refine SXL.alloc zp_129 ?_; intro b3
    refine SXL.store 3 sz_129 rfl rfl rfl rfl rfl rfl ?_
    refine SXL.nil ?_
    refine thenQ.normal ?_
    refine SX.seq ?_
    refine SX.region ?_
    refine SXL.fieldAddr fp_129_0 rfl ?_
    refine SXL.fieldAddr fp_55_0 rfl ?_
    refine SXL.load1o 3 sh_3 rfl rfl rfl ?_
    refine SXL.fieldAddr fp_129_0 rfl ?_
    refine SXL.fieldAddr fp_55_1 rfl ?_
    refine SXL.load1o 3 sh_3 rfl rfl rfl ?_
    refine SXL.move rfl ?_
    refine SXL.buildSlice et_33 zp_3 rfl rfl rfl rfl ?_; intro b4
    refine SXL.call1 (.bool (decide (Wi (rain) ((s.book.getD k default).r0) ((s.book.getD k default).r1)))) fn_109 rfl (fun w hI => in1_own hI 4 (rain) ((s.book.getD k default).r0) ((s.book.getD k default).r1) rfl) ?_
    refine SXL.nil ?_
    refine thenQ.normal ?_
    refine SX.condP rfl (fun c31 => ?_) (fun c31 => ?_)
    · refine SX.draw 10 (by kernel_rfl) (by kernel_rfl) {} ?_
      refine SXA.take 0 10 rfl (by kernel_rfl) rfl ?_
      refine SXL.fieldAddr fp_129_1 rfl ?_
      refine SXL.load1o 3 sh_3 rfl rfl rfl ?_
      refine SXL.fieldAddr fp_129_1 rfl ?_
      refine SXL.load1o 3 sh_3 rfl rfl rfl ?_
      refine SXL.indexA el_148 rfl rfl (by omega) ?_
      refine SXL.loadNo 2 sh_55 rfl rfl (ints_take2' (M := (slTo s R rain k)) (i := (s.book.getD k default).wk.toNat) (by omega) (by omega)) ?_
      refine SXL.fieldAddr fp_129_2 rfl ?_
      refine SXL.loadNo 3 sh_55 rfl rfl rfl ?_
      refine SXL.call1 (spanV (bothP (Lo (slTo s R rain k) (s.book.getD k default).wk.toNat) (Hi (slTo s R rain k) (s.book.getD k default).wk.toNat) ((s.book.getD k default).g0) ((s.book.getD k default).g1))) fn_118 rfl (fun w hI => both_any _ _ _ _ _ (hg.inv hI)) ?_
      refine SXL.indexA el_148 rfl rfl (by omega) ?_
      refine SXL.nil ⟨rfl, rfl, rfl, ?_⟩
      refine SXA.done (by kernel_rfl) ?_
      refine SXL.store 2 sz_55 rfl rfl rfl rfl rfl (ints_put2' (M := (slTo s R rain k)) (i := (s.book.getD k default).wk.toNat) (p := bothP (Lo (slTo s R rain k) (s.book.getD k default).wk.toNat) (Hi (slTo s R rain k) (s.book.getD k default).wk.toNat) (s.book.getD k default).g0 (s.book.getD k default).g1) (by omega) (by omega)) ?_
      refine SXL.nil ?_
      refine blockQ.normal ?_
      refine thenQ.normal ?_
      refine SX.region ?_
      refine SXL.add rfl rfl (by omega) ?_
      refine SXL.move rfl ?_
      refine SXL.nil ?_
      refine thenQ.normal ?_
      refine ⟨k + 1, Meets.mk _ ⟨rfl, trivial⟩ ⟨rfl, rfl, rfl, rfl, rfl, rfl, rfl, trivial⟩ (by first | (rw [show slTo s R rain (k + 1) = _ from if_pos c31]; rfl) | (rw [show slTo s R rain (k + 1) = _ from if_neg c31]; rfl)), (by omega), (by omega)⟩
    · refine SX.skip ?_
      refine blockQ.normal ?_
      refine thenQ.normal ?_
      refine SX.region ?_
      refine SXL.add rfl rfl (by omega) ?_
      refine SXL.move rfl ?_
      refine SXL.nil ?_
      refine thenQ.normal ?_
      refine ⟨k + 1, Meets.mk _ ⟨rfl, trivial⟩ ⟨rfl, rfl, rfl, rfl, rfl, rfl, rfl, trivial⟩ (by first | (rw [show slTo s R rain (k + 1) = _ from if_pos c31]; rfl) | (rw [show slTo s R rain (k + 1) = _ from if_neg c31]; rfl)), (by omega), (by omega)⟩
  · refine SX.exit ?_
    refine thenQ.exit ?_
    refine thenQ.exit ?_
    refine blockQ.exit ?_
    refine thenQ.normal ?_
    refine SX.seq ?_
    refine SX.seq ?_
    obtain rfl : k = s.book.length := by omega
    refine SX.region ?_
    refine SXL.buildA ae_148 zp_148 rfl rfl ?_
    refine SXL.alloc zp_148 ?_; intro b3
    refine SXL.store 3 sz_148 rfl rfl rfl rfl rfl rfl ?_
    refine SXL.nil ?_
    refine thenQ.normal ?_
    refine SX.block ?_
    refine SX.loopG (α := Nat × List Int × List Int) [2, 4, 5, 6] rfl (fun ⟨bw, M, W⟩ => [(9, .pointer (some ⟨bw, 0, none⟩))]) (fun ⟨bw, M, W⟩ => [(2, (b2, .cells ⟨ints M⟩ 148 (0, 0))), (3, (bw, .cells ⟨ints W⟩ 148 (0, 0)))]) (fun ⟨bw, M, W⟩ => KeepP s.weeks.toNat s.fall (slTo s R rain s.book.length) M ∧ W.length = 20 ∧ ((∀ j, j < 10 → Lo W j = 0 ∧ Hi W j = 0) ∨ (Sb W ∧ M = psTo s.fall W (s.weeks.toNat - 1) ∧ Alive s.fall W (s.weeks.toNat - 1)))) (fun ⟨bw, M, W⟩ => (2 * (sumW M 10).toNat + if W = M then 0 else 1)) (b3, (slTo s R rain s.book.length), List.replicate 20 0) ⟨keep_start (by simp [hR]) (slTo_sb hv hR hW.sb rain _ (Nat.le_refl _)), by simp, .inl (by decide)⟩ ⟨rfl, trivial⟩ rfl ?_
    rintro ⟨bw, M, W⟩ ⟨hM, hWl, hWM⟩
    have hMl := hM.len
    refine SX.seq ?_
    refine SX.seq ?_
    refine SX.region ?_
    refine SXL.loadNo 3 sh_148 rfl rfl (takeAt_full (by simp [hWl])) ?_
    refine SXL.loadNo 2 sh_148 rfl rfl (takeAt_full (by simp [hMl])) ?_
    refine SXL.neqV (p := W ≠ M) (u := .agg ⟨ints (W)⟩) (v := .agg ⟨ints (M)⟩) rfl rfl (run_neq_ints eq_148 eg_148 sh_148 hWl hMl) ?_
    refine SXL.nil ?_
    refine thenQ.normal ?_
    refine SX.condP rfl (fun c46 => ?_) (fun c46 => ?_)
    · refine SX.skip ?_
      refine thenQ.normal ?_
      refine SX.seq ?_
      refine SX.block ?_
      refine SX.seq ?_
      refine SX.region ?_
      refine SXL.loadNo 2 sh_148 rfl rfl (takeAt_full (by simp [hMl])) ?_
      refine SXL.store 3 sz_148 rfl rfl rfl rfl (by simp [hMl]) (putAt_all _ _ (by simp [hMl, hWl])) ?_ (ints_isOne _)
      refine SXL.nil ?_
      refine thenQ.normal ?_
      refine SX.seq ?_
      refine SX.region ?_
      refine SXL.assign rfl ?_
      refine SXL.nil ?_
      refine thenQ.normal ?_
      refine SX.block ?_
      refine SX.loopG (α := Nat) [2, 4, 5, 6, 9] rfl (fun k => [(10, .int .i64 (((k : Int) + 1)))]) (fun k => [(2, (b2, .cells ⟨ints (psTo s.fall M k)⟩ 148 (0, 0)))]) (fun k => k ≤ s.weeks.toNat - 1 ∧ Alive s.fall M k) (fun k => s.weeks.toNat - 1 - k) 0 ⟨Nat.zero_le _, fun _ h => absurd h (Nat.not_lt_zero _)⟩ ⟨rfl, trivial⟩ rfl ?_
      rintro k ⟨hk, hal⟩
      have hKl : (psTo s.fall M k).length = 20 := by simp [hMl]
      refine SX.seq ?_
      refine SX.seq ?_
      refine SX.region ?_
      refine SXL.move rfl ?_
      refine SXL.fieldAddr fp_150_0 rfl ?_
      refine SXL.fieldAddr fp_68_0 rfl ?_
      refine SXL.load1o 0 sh_3 rfl rfl rfl ?_
      refine SXL.lss rfl rfl ?_
      refine SXL.nil ?_
      refine thenQ.normal ?_
      refine SX.condP rfl (fun c52 => ?_) (fun c52 => ?_)
      · refine SX.skip ?_
        refine thenQ.normal ?_
        refine SX.seq ?_
        refine SX.block ?_
        refine SX.seq ?_
        have hS := (ps_less (f := s.fall) hMl hM.sb k (by omega)).1
        have q0 := hS k (by omega)
        have q1 := hS (k + 1) (by omega)
        refine SX.draw 7 (by kernel_rfl) (by kernel_rfl) {} ?_
        refine SXA.take 0 7 rfl (by kernel_rfl) rfl ?_
        refine SXL.move rfl ?_
        refine SXL.sub rfl rfl (by omega) ?_
        refine SXL.indexA el_148 rfl rfl (by omega) ?_
        refine SXL.move rfl ?_
        refine SXL.indexA el_148 rfl rfl (by omega) ?_
        refine SXL.assign rfl ?_
        refine SXL.assign rfl ?_
        refine SXL.nil ⟨rfl, rfl, rfl, ?_⟩
        refine SXA.done (by kernel_rfl) ?_
        refine SXL.nil ?_
        refine thenQ.normal ?_
        refine SX.seq ?_
        refine SX.draw 19 (by kernel_rfl) (by kernel_rfl) {} ?_
        refine SXA.take 0 19 rfl (by kernel_rfl) rfl ?_
        refine SXL.move rfl ?_
        refine SXL.move rfl ?_
        refine SXL.nilCheck rfl ?_
        refine SXL.loadNo 2 sh_55 rfl rfl (ints_take2' (M := (psTo s.fall M k)) (i := k + 1) (by omega) (by omega)) ?_
        refine SXL.move rfl ?_
        refine SXL.nilCheck rfl ?_
        refine SXL.fieldAddr fp_55_0 rfl ?_
        refine SXL.load1o 2 sh_3 rfl rfl (at_lo (M := (psTo s.fall M k)) (i := k) (by omega) (by omega)) ?_
        refine SXL.fieldAddr fp_150_0 rfl ?_
        refine SXL.fieldAddr fp_68_2 rfl ?_
        refine SXL.load1o 0 sh_3 rfl rfl rfl ?_
        refine SXL.sub rfl rfl (by omega) ?_
        refine SXL.move rfl ?_
        refine SXL.nilCheck rfl ?_
        refine SXL.fieldAddr fp_55_1 rfl ?_
        refine SXL.load1o 2 sh_3 rfl rfl (at_hi (M := (psTo s.fall M k)) (i := k) (by omega) (by omega)) ?_
        refine SXL.buildS pl_55 zp_55 rfl rfl ?_
        refine SXL.call1 (spanV (bothP (Lo (psTo s.fall M k) (k + 1)) (Hi (psTo s.fall M k) (k + 1)) (Lo (psTo s.fall M k) k - s.fall) (Hi (psTo s.fall M k) k))) fn_118 rfl (fun w hI => both_any _ _ _ _ _ (hg.inv hI)) ?_
        refine SXL.nilCheck rfl ?_
        refine SXL.nil ⟨rfl, rfl, rfl, ?_⟩
        refine SXA.done (by kernel_rfl) ?_
        refine SXL.store 2 sz_55 rfl rfl rfl rfl rfl (ints_put2' (M := (psTo s.fall M k)) (i := k + 1) (p := (bothP (Lo (psTo s.fall M k) (k + 1)) (Hi (psTo s.fall M k) (k + 1)) (Lo (psTo s.fall M k) k - s.fall) (Hi (psTo s.fall M k) k))) (by omega) (by omega)) ?_
        refine SXL.nil ?_
        refine thenQ.normal ?_
        refine SX.seq ?_
        have hS1 := (step_less (f := s.fall) hKl hS (k := k) (by omega)).1
        have hl1 : (step1 s.fall (psTo s.fall M k) k).length = 20 := by simp [hMl]
        have u0 := hS1 k (by omega)
        have u1 := hS1 (k + 1) (by omega)
        refine SX.draw 19 (by kernel_rfl) (by kernel_rfl) {} ?_
        refine SXA.take 0 19 rfl (by kernel_rfl) rfl ?_
        refine SXL.move rfl ?_
        refine SXL.move rfl ?_
        refine SXL.nilCheck rfl ?_
        refine SXL.loadNo 2 sh_55 rfl rfl (ints_take2' (M := (step1 s.fall (psTo s.fall M k) k)) (i := k) (by omega) (by omega)) ?_
        refine SXL.move rfl ?_
        refine SXL.nilCheck rfl ?_
        refine SXL.fieldAddr fp_55_0 rfl ?_
        refine SXL.load1o 2 sh_3 rfl rfl (at_lo (M := (step1 s.fall (psTo s.fall M k) k)) (i := k + 1) (by omega) (by omega)) ?_
        refine SXL.move rfl ?_
        refine SXL.nilCheck rfl ?_
        refine SXL.fieldAddr fp_55_1 rfl ?_
        refine SXL.load1o 2 sh_3 rfl rfl (at_hi (M := (step1 s.fall (psTo s.fall M k) k)) (i := k + 1) (by omega) (by omega)) ?_
        refine SXL.fieldAddr fp_150_0 rfl ?_
        refine SXL.fieldAddr fp_68_2 rfl ?_
        refine SXL.load1o 0 sh_3 rfl rfl rfl ?_
        refine SXL.add rfl rfl (by omega) ?_
        refine SXL.buildS pl_55 zp_55 rfl rfl ?_
        refine SXL.call1 (spanV (bothP (Lo (step1 s.fall (psTo s.fall M k) k) k) (Hi (step1 s.fall (psTo s.fall M k) k) k) (Lo (step1 s.fall (psTo s.fall M k) k) (k + 1)) (Hi (step1 s.fall (psTo s.fall M k) k) (k + 1) + s.fall))) fn_118 rfl (fun w hI => both_any _ _ _ _ _ (hg.inv hI)) ?_
        refine SXL.nilCheck rfl ?_
        refine SXL.nil ⟨rfl, rfl, rfl, ?_⟩
        refine SXA.done (by kernel_rfl) ?_
        refine SXL.store 2 sz_55 rfl rfl rfl rfl rfl (ints_put2' (M := (step1 s.fall (psTo s.fall M k) k)) (i := k) (p := (bothP (Lo (step1 s.fall (psTo s.fall M k) k) k) (Hi (step1 s.fall (psTo s.fall M k) k) k) (Lo (step1 s.fall (psTo s.fall M k) k) (k + 1)) (Hi (step1 s.fall (psTo s.fall M k) k) (k + 1) + s.fall))) (by omega) (by omega)) ?_
        refine SXL.nil ?_
        refine thenQ.normal ?_
        refine SX.seq ?_
        have hl2 : (stepM s.fall (psTo s.fall M k) k).length = 20 := by simp [hMl]
        refine SX.draw 12 (by kernel_rfl) (by kernel_rfl) {} ?_
        refine SXA.take 0 12 rfl (by kernel_rfl) rfl ?_
        refine SXL.move rfl ?_
        refine SXL.nilCheck rfl ?_
        refine SXL.loadNo 2 sh_55 rfl rfl (ints_take2' (M := (stepM s.fall (psTo s.fall M k) k)) (i := k) (by omega) (by omega)) ?_
        refine SXL.loadN sh_55 rfl (hg.memN _) rfl ?_
        refine SXL.eqlV (p := [Lo (stepM s.fall (psTo s.fall M k) k) k, Hi (stepM s.fall (psTo s.fall M k) k) k] = [1, 0]) (u := .agg ⟨ints ([Lo (stepM s.fall (psTo s.fall M k) k) k, Hi (stepM s.fall (psTo s.fall M k) k) k])⟩) (v := .agg ⟨ints ([1, 0])⟩) rfl rfl (run_eql_ints eq_55 eg_55 sh_55 rfl rfl) ?_
        refine SXL.move rfl ?_
        apply SXL.orG 5
        case hl => exact rfl
        case hd => exact rfl
        case hg => exact rfl
        case ht =>
          intro c109
          refine SXL.pass rfl rfl rfl ?_
          refine SXL.pass rfl rfl rfl ?_
          refine SXL.pass rfl rfl rfl ?_
          refine SXL.pass rfl rfl rfl ?_
          refine SXL.pass rfl rfl rfl ?_
          exact SXL.nil (segQ.mk (.skip rfl (.skip rfl (.skip rfl (.skip rfl (.skip rfl (.skip rfl (EnvSub.refl _))))))) rfl rfl rfl)
        case hf =>
          intro c109
          refine SXL.move rfl ?_
          refine SXL.nilCheck rfl ?_
          refine SXL.loadNo 2 sh_55 rfl rfl (ints_take2' (M := (stepM s.fall (psTo s.fall M k) k)) (i := k + 1) (by omega) (by omega)) ?_
          refine SXL.loadN sh_55 rfl (hg.memN _) rfl ?_
          refine SXL.eqlV (p := [Lo (stepM s.fall (psTo s.fall M k) k) (k + 1), Hi (stepM s.fall (psTo s.fall M k) k) (k + 1)] = [1, 0]) (u := .agg ⟨ints ([Lo (stepM s.fall (psTo s.fall M k) k) (k + 1), Hi (stepM s.fall (psTo s.fall M k) k) (k + 1)])⟩) (v := .agg ⟨ints ([1, 0])⟩) rfl rfl (run_eql_ints eq_55 eg_55 sh_55 rfl rfl) ?_
          exact SXL.nil (segQ.mk (.skip rfl (.skip rfl (.skip rfl (.skip rfl (.skip rfl (.skip rfl (EnvSub.refl _))))))) rfl rfl ⟨rfl, rfl⟩)
        refine SXL.nil ⟨rfl, rfl, rfl, ?_⟩
        refine SXA.done (by kernel_rfl) ?_
        refine SXL.nil ?_
        refine thenQ.normal ?_
        refine SX.condP rfl (fun c109 => ?_) (fun c109 => ?_)
        · refine SX.seq ?_
          have hno : ¬lvB s L rain := by
            have hk2 := (hM.ps (by omega) (k + 1) (by omega))
            rcases c109 with c109 | c109
            · exact (after_ok hv hR hW.ll.len hW.sb hW.rel hW.rest rain).2 _ hk2 k (by omega) (span_none.1 c109.symm)
            · exact (after_ok hv hR hW.ll.len hW.sb hW.rel hW.rest rain).2 _ hk2 (k + 1) (by omega) (span_none.1 c109.symm)
          refine SX.region ?_
          refine SXL.loadNo 2 sh_148 rfl rfl (takeAt_full (by simp [hMl])) ?_
          refine SXL.store 1 sz_148 rfl rfl rfl rfl (by simp [hMl]) (putAt_all _ _ (by simp [hMl])) ?_ (ints_isOne _)
          refine SXL.assign rfl ?_
          refine SXL.nil ?_
          refine thenQ.normal ?_
          refine SX.ret ?_
          refine blockQ.ret ?_
          refine thenQ.ret ?_
          refine thenQ.ret ?_
          refine blockQ.ret ?_
          refine blockQ.ret ?_
          refine thenQ.ret ?_
          refine thenQ.ret ?_
          refine blockQ.ret ?_
          refine thenQ.ret ?_
          refine retQ.two (ResAt.cellNo 1 sh_148 rfl rfl (takeAt_full (k := 20) (by simp [hMl]))) (ResAt.tmp rfl) ?_
          exact ⟨_, hl2, fun h => absurd h hno, by rw [decide_eq_false hno]; rfl⟩
        · refine SX.skip ?_
          refine blockQ.normal ?_
          refine thenQ.normal ?_
          refine SX.region ?_
          refine SXL.move rfl ?_
          refine SXL.add rfl rfl (by omega) ?_
          refine SXL.assign rfl ?_
          refine SXL.nil ?_
          refine thenQ.normal ?_
          refine ⟨k + 1, Meets.mk _ ⟨rfl, trivial⟩ ⟨rfl, rfl, rfl, rfl, rfl, trivial⟩ rfl, ?_, (by omega)⟩
          refine ⟨by omega, fun j hj => ?_⟩
          by_cases e : j = k
          · subst e; exact ⟨fun h => c109 (.inl (span_none.2 h).symm), fun h => c109 (.inr (span_none.2 h).symm)⟩
          · exact hal j (by omega)
      · refine SX.exit ?_
        refine thenQ.exit ?_
        refine thenQ.exit ?_
        refine blockQ.exit ?_
        refine blockQ.normal ?_
        refine thenQ.normal ?_
        refine SX.seq ?_
        obtain rfl : k = s.weeks.toNat - 1 := by omega
        refine SX.region ?_
        refine SXL.loadNo 3 sh_148 rfl rfl (takeAt_full (by simp [hMl])) ?_
        refine SXL.nil ?_
        refine thenQ.normal ?_
        refine SX.region ?_
        refine SXL.alloc zp_148 ?_; intro b4
        refine SXL.store 4 sz_148 rfl rfl rfl rfl (by simp [hMl]) (putAt_all _ _ (by simp [hMl])) ?_ (ints_isOne _)
        refine SXL.nil ?_
        refine thenQ.normal ?_
        refine ⟨(_, _, _), Meets.mkS [0, 1, 2, 4] ⟨rfl, trivial⟩ ⟨rfl, rfl, rfl, rfl, trivial⟩ rfl, ⟨hM.ps (by omega) _ (by omega), hMl, .inr ⟨hM.sb, rfl, hal⟩⟩, (mu_less hMl hM.sb c46 _ (by omega))⟩
    · refine SX.exit ?_
      refine thenQ.exit ?_
      refine thenQ.exit ?_
      refine blockQ.exit ?_
      refine thenQ.normal ?_
      refine SX.seq ?_
      have c46 := Decidable.not_not.1 c46
      subst c46
      refine SX.draw 10 (by kernel_rfl) (by kernel_rfl) ⟨[1, 2, 3, 4, 5, 7, 9], [true, false]⟩ ?_
      refine SXA.take 0 1 rfl (by kernel_rfl) rfl ?_
      refine SXL.loadNo 2 sh_148 rfl rfl (takeAt_full (by simp [hMl])) ?_
      refine SXL.nil ⟨rfl, rfl, rfl, ?_⟩
      refine SXA.takeM 1 5 rfl (by kernel_rfl) rfl ?_
      refine SXL.fieldAddr fp_150_0 rfl ?_
      refine SXL.fieldAddr fp_68_0 rfl ?_
      refine SXL.load1o 0 sh_3 rfl rfl rfl ?_
      refine SXL.sliceAH el_148 rfl rfl (by omega) ?_
      refine SXL.loadN sh_55 rfl (hg.memN _) rfl ?_
      refine SXL.nil ⟨rfl, rfl, rfl, ?_⟩
      refine SXA.take 6 1 rfl (by kernel_rfl) rfl ?_
      refine SXL.call1 (.bool (decide (0 ≤ idxF (fun k => [1, 0] = [Lo W k, Hi W k]) s.weeks.toNat))) fn_123 rfl (fun w hI => containsSpans W s.weeks.toNat 1 0 _ _ (by omega) _ (ownPairs hI (i := 2) rfl (by omega))) ?_
      refine SXL.nil ⟨rfl, rfl, rfl, ?_⟩
      refine SXA.takeM 7 1 rfl (by kernel_rfl) rfl ?_
      refine SXL.not rfl ?_
      refine SXL.nil ⟨rfl, rfl, rfl, ?_⟩
      refine SXA.all [8] (by kernel_rfl) rfl ⟨⟨?_, rfl⟩, trivial⟩
      refine (show SXL _ _ [_] _ _ from ?_)
      refine SXL.store 1 sz_148 rfl rfl rfl rfl (by simp [hMl]) (putAt_all _ _ (by simp [hMl])) ?_ (ints_isOne _)
      refine SXL.nil (stepQ.mkL _ (by kernel_rfl) rfl rfl ?_)
      refine SXA.takeM 9 1 rfl (by kernel_rfl) rfl ?_
      refine SXL.assign rfl ?_
      refine SXL.nil ⟨rfl, rfl, rfl, ?_⟩
      refine SXA.done (by kernel_rfl) ?_
      refine SXL.nil ?_
      refine thenQ.normal ?_
      refine SX.ret ?_
      refine retQ.two (ResAt.cellNo 1 sh_148 rfl rfl (takeAt_full (k := 20) (by simp [hMl]))) (ResAt.tmp rfl) ?_
      obtain ⟨z1, z2⟩ := after_end hv hW hM hWM; exact ⟨_, hMl, z2, by rw [after_bool z1]⟩
end Go.Proofs.YtolcicaclflagaaDoor

/- The walks of functions. -/
namespace Go.Proofs.YtolcicaclflagaaDoor
open Go.X Go.S Go.RowKit
/-- The iterator of the rains. -/
structure ItR (s : Sp) (bo ro : Option Addr) (bc rc : Nat) (R : List Int) (v : Value) (own : X.Own) : Prop where
  ex : ∃ b, v = .func (.func 121) ⟨[]⟩ ⟨[.pointer (some ⟨b, 0, none⟩)]⟩ ∧ own = [(b, .cells ⟨watC s bo ro bc rc R⟩ 150 (0, 0))]
theorem it_any (s : Sp) (bo ro : Option Addr) (bc rc : Nat) (R : List Int) (_hR : R.length = 20) (w : World) :
    CallsR Tryd.prog 120 [.agg ⟨watC s bo ro bc rc R⟩] w (ItR s bo ro bc rc R) := by
  refine CallsR.of_SX (n := 4) (rs := [.tmp 2]) Tryd.func120 rfl rfl rfl rfl ?_
  show SX _ _ _ ⟨[(0, .agg ⟨watC s bo ro bc rc R⟩)], [], []⟩
  refine SX.seq ?_
  refine SX.region ?_
  refine SXL.box rfl rfl ?_; intro b0
  refine SXL.assign rfl ?_
  refine SXL.nil ?_
  refine thenQ.normal ?_
  refine SX.seq ?_
  refine SX.region ?_
  refine SXL.makeFunc rfl rfl ?_
  refine SXL.assign rfl ?_
  refine SXL.nil ?_
  refine thenQ.normal ?_
  refine SX.ret ?_
  refine retQ.one (ResAt.tmp rfl) ?_
  exact ⟨b0, rfl, rfl⟩
set_option maxHeartbeats 4000000 in
theorem spans_any (s : Sp) (bo ro : Option Addr) (bc rc : Nat) (R : List Int) (L : List Int) (hv : SpP s) (hW : RelW s R L) (w : World) (hg : Gl w) (hs : SpAt w s bo ro) :
    CallsR Tryd.prog 114 [.agg ⟨watC s bo ro bc rc R⟩] w (fun v _ => v = .tuple ⟨[.agg ⟨ints (outL s.weeks.toNat (lvsL s L (rnsL s L)))⟩, .bool (decide (rnsL s L ≠ []))]⟩) := by
  have hH := hv.1
  unfold HeadP at hH
  have hR := hW.lr
  refine CallsR.of_SX (n := 50) (rs := [.cell 2 148, .tmp 3]) Tryd.func114 rfl rfl rfl rfl ?_
  show SX _ _ _ ⟨[(0, .agg ⟨watC s bo ro bc rc R⟩)], [], []⟩
  refine SX.seq ?_
  refine SX.region ?_
  refine SXL.box rfl rfl ?_; intro b0
  refine SXL.alloc zp_148 ?_; intro b1
  refine SXL.assign rfl ?_
  refine SXL.nil ?_
  refine thenQ.normal ?_
  refine SX.seq ?_
  refine SX.region ?_
  refine SXL.alloc zp_148 ?_; intro b2
  refine SXL.nil ?_
  refine thenQ.normal ?_
  refine SX.seq ?_
  refine SX.region ?_
  refine SXL.alloc zp_4 ?_; intro b3
  refine SXL.store 3 sz_4 rfl rfl rfl rfl rfl rfl ?_
  refine SXL.nil ?_
  refine thenQ.normal ?_
  refine SX.seq ?_
  refine SX.seq ?_
  refine SX.region ?_
  refine SXL.loadNo 0 sh_150 rfl rfl (takeAt_full (watC_len hR)) ?_
  refine SXL.callF (ItR s bo ro bc rc R) fn_120 rfl (fun w hI => it_any s bo ro bc rc R hR w) ?_; rintro _ _ ⟨bi, rfl, rfl⟩
  refine SXL.nil ?_
  refine thenQ.normal ?_
  refine SX.block ?_
  refine SX.rangeFunc (f := 121) (nf := 31) (rs := []) rfl fn_121 Tryd.func121 rfl rfl rfl rfl ?_
  intro fn T r l ob hT hob
  refine SX.scope ?_
  refine SX.seq ?_
  refine SX.label ?_
  refine thenQ.normal ?_
  refine SX.seq ?_
  refine SX.region ?_
  refine SXL.fieldAddr fp_150_0 rfl ?_
  refine SXL.fieldAddr fp_68_4 rfl ?_
  refine SXL.fieldAddr fp_55_0 rfl ?_
  refine SXL.load1o 4 sh_3 rfl rfl rfl ?_
  refine SXL.assign rfl ?_
  refine SXL.nil ?_
  refine thenQ.normal ?_
  refine SX.block ?_
  refine SX.loopG (α := Nat × List Int) [0, 1] rfl (fun ⟨k, M⟩ => [(3, .int .i64 (s.w0 + (k : Int)))]) (fun ⟨k, M⟩ => [(2, (b2, .cells ⟨ints M⟩ 148 (0, 0))), (3, (b3, .cells ⟨[.bool (decide ((rnsTo s L k) ≠ []))]⟩ 4 (0, 0)))]) (fun ⟨k, M⟩ => k ≤ rnN s ∧ IsO s.weeks.toNat (lvsL s L (rnsTo s L k)) M) (fun ⟨k, M⟩ => (rnN s - k)) (0, List.replicate 20 0) ⟨Nat.zero_le _, IsO.zero _⟩ ⟨congrArg (fun z => some (Value.int .i64 z)) (show s.w0 = s.w0 + ((0 : Nat) : Int) by omega), trivial⟩ rfl ?_
  rintro ⟨k, M⟩ ⟨hk, hM⟩
  have hMl := hM.len
  have hN : rnN s = (s.w1 + 1 - s.w0).toNat := rfl
  refine SX.seq ?_
  refine SX.seq ?_
  refine SX.region ?_
  refine SXL.move rfl ?_
  refine SXL.fieldAddr fp_150_0 rfl ?_
  refine SXL.fieldAddr fp_68_4 rfl ?_
  refine SXL.fieldAddr fp_55_1 rfl ?_
  refine SXL.load1o 4 sh_3 rfl rfl rfl ?_
  refine SXL.leq rfl rfl ?_
  refine SXL.nil ?_
  refine thenQ.normal ?_
  refine SX.condP rfl (fun c15 => ?_) (fun c15 => ?_)
  · refine SX.skip ?_
    refine thenQ.normal ?_
    refine SX.seq ?_
    refine SX.block ?_
    refine SX.seq ?_
    refine SX.region ?_
    refine SXL.loadNo 4 sh_150 rfl rfl (takeAt_full (watC_len hR)) ?_
    refine SXL.move rfl ?_
    refine SXL.callP (AfterR s L (s.w0 + (k : Int))) fn_122 rfl (fun w hI => after_any s bo ro bc rc R L hv hW _ w (hg.inv hI) (hs.inv hI)) ?_; rintro _ ⟨X, hX1, hX2, rfl⟩
    refine SXL.move rfl ?_
    refine SXL.extract rfl rfl ?_
    refine SXL.extract rfl rfl ?_
    refine SXL.alloc zp_148 ?_; intro b7
    refine SXL.store 7 sz_148 rfl rfl rfl rfl (by simp [hX1]) (putAt_all _ _ (by simp [hX1])) ?_ (ints_isOne _)
    refine SXL.assign rfl ?_
    refine SXL.nil ?_
    refine thenQ.normal ?_
    refine SX.seq ?_
    refine SX.seq ?_
    refine SX.region ?_
    refine SXL.move rfl ?_
    refine SXL.not rfl ?_
    refine SXL.nil ?_
    refine thenQ.normal ?_
    refine SX.condP rfl (fun c25 => ?_) (fun c25 => ?_)
    · refine SX.exit ?_
      refine thenQ.exit ?_
      refine blockQ.exit ?_
      refine thenQ.normal ?_
      refine SX.region ?_
      refine SXL.move rfl ?_
      refine SXL.add rfl rfl (by omega) ?_
      refine SXL.assign rfl ?_
      refine SXL.nil ?_
      refine thenQ.normal ?_
      refine ⟨(k + 1, _), Meets.mk _ ⟨congrArg (fun z => some (Value.int .i64 z)) (show s.w0 + (k : Int) + 1 = s.w0 + ((k + 1 : Nat) : Int) by omega), trivial⟩ ⟨rfl, rfl, trivial⟩ (by show setAll _ (_ :: [(3, (b3, .cells ⟨[.bool (decide (rnsTo s L (k + 1) ≠ []))]⟩ 4 (0, 0)))]) ++ _ = _; first | (rw [decide_eq_true (p := rnsTo s L (k + 1) ≠ []) (by rw [rnsTo_yes hlv]; simp)]; rfl) | (rw [show rnsTo s L (k + 1) = _ from rnsTo_no c25]; rfl)), ?_, ?_⟩
      · refine ⟨by omega, ?_⟩
        first
          | exact (by rw [rnsTo_yes hlv]; simpa [lvsL] using hMd.done)
          | exact (by rw [rnsTo_no c25]; exact hM)
      · show rnN s - (k + 1) < rnN s - k; omega
    · refine SX.skip ?_
      refine thenQ.normal ?_
      refine SX.seq ?_
      have hlv := Decidable.not_not.1 c25
      obtain rfl := hX2 hlv
      refine SX.region ?_
      refine SXL.move rfl ?_
      refine SXL.move rfl ?_
      refine SXL.loadNo 7 sh_148 rfl rfl (takeAt_full (by simp)) ?_
      refine SXL.yield hT hob 6 rfl rfl rfl rfl rfl ?_
      refine SX.region ?_
      refine SXL.alloc zp_148 ?_; intro b8
      refine SXL.store 8 sz_148 rfl rfl rfl rfl (by simp) (putAt_all _ _ (by simp)) ?_ (ints_isOne _)
      refine SXL.nil ?_
      refine ⟨rfl, ?_⟩
      refine SX.block ?_
      refine SX.seq ?_
      refine SX.seq ?_
      refine SX.region ?_
      refine SXL.fieldAddr fp_150_0 rfl ?_
      refine SXL.fieldAddr fp_68_0 rfl ?_
      refine SXL.load1o 0 sh_3 rfl rfl rfl ?_
      refine SXL.move rfl ?_
      refine SXL.nil ?_
      refine thenQ.normal ?_
      refine SX.block ?_
      refine SX.loopG (α := Nat × List Int) [2, 3, 4, 5, 7, 15] rfl (fun ⟨j, M2⟩ => [(16, .int .i64 ((j : Int)))]) (fun ⟨j, M2⟩ => [(2, (b2, .cells ⟨ints M2⟩ 148 (0, 0)))]) (fun ⟨j, M2⟩ => j ≤ s.weeks.toNat ∧ MidO s.weeks.toNat (lvsL s L (rnsTo s L k)) (lvL s L (s.w0 + (k : Int))) j M2) (fun ⟨j, M2⟩ => s.weeks.toNat - j) (0, M) ⟨Nat.zero_le _, hM.mid _⟩ ⟨rfl, trivial⟩ rfl ?_
      rintro ⟨j, M2⟩ ⟨hj, hMd⟩
      have hM2l := hMd.len
      refine SX.seq ?_
      refine SX.region ?_
      refine SXL.lss rfl rfl ?_
      refine SXL.nil ?_
      refine thenQ.normal ?_
      refine SX.seq ?_
      refine SX.condP rfl (fun c17 => ?_) (fun c17 => ?_)
      · refine SX.skip ?_
        refine thenQ.normal ?_
        refine SX.seq ?_
        refine SX.block ?_
        refine SX.seq ?_
        refine SX.region ?_
        refine SXL.move rfl ?_
        refine SXL.assign rfl ?_
        refine SXL.nil ?_
        refine thenQ.normal ?_
        refine SX.cutG (α := List Int) [2, 3, 4, 5, 7, 8, 15, 16] rfl (fun M3 => []) (fun M3 => [(2, (b2, .cells ⟨ints M3⟩ 148 (0, 0)))]) (fun M3 => M3 = if (lvsL s L (rnsTo s L k)) = [] then set2 M2 j (G (lvL s L (s.w0 + (k : Int))) j, G (lvL s L (s.w0 + (k : Int))) (10 + j)) else M2) ?_ ?_
        · refine SX.seq ?_
          obtain ⟨x1, x2⟩ := ilv_at (lvL s L (s.w0 + (k : Int))) (w := j) (by omega)
          have hAe : (lvsL s L (rnsTo s L k)) = [] ↔ (rnsTo s L k) = [] := by simp [lvsL]
          refine SX.region ?_
          refine SXL.load1o 3 sh_4 rfl rfl rfl ?_
          refine SXL.not rfl ?_
          refine SXL.nil ?_
          refine thenQ.normal ?_
          refine SX.condP rfl (fun c20 => ?_) (fun c20 => ?_)
          · refine SX.region ?_
            refine SXL.move rfl ?_
            refine SXL.move rfl ?_
            refine SXL.indexA el_148 rfl rfl (by omega) ?_
            refine SXL.loadNo 8 sh_55 rfl rfl (ints_take2' (M := (ilv (lvL s L (s.w0 + (k : Int))))) (i := j) (by omega) (by omega)) ?_
            refine SXL.indexA el_148 rfl rfl (by omega) ?_
            refine SXL.store 2 sz_55 rfl rfl rfl rfl rfl (ints_put2' (M := M2) (i := j) (p := (Lo (ilv (lvL s L (s.w0 + (k : Int)))) j, Hi (ilv (lvL s L (s.w0 + (k : Int)))) j)) (by omega) (by omega)) ?_
            refine SXL.nil ?_
            refine thenQ.normal ?_
            refine ⟨_, Meets.mk _ trivial ⟨rfl, rfl, rfl, rfl, rfl, rfl, rfl, rfl, trivial⟩ rfl, (by first | (rw [if_pos (hAe.2 (Decidable.not_not.1 c20)), x1, x2]) | (rw [if_neg (fun h => c20 (fun h2 => h2 (hAe.1 h)))]))⟩
          · refine SX.skip ?_
            refine thenQ.normal ?_
            refine ⟨_, Meets.mk _ trivial ⟨rfl, rfl, rfl, rfl, rfl, rfl, rfl, rfl, trivial⟩ rfl, (by first | (rw [if_pos (hAe.2 (Decidable.not_not.1 c20)), x1, x2]) | (rw [if_neg (fun h => c20 (fun h2 => h2 (hAe.1 h)))]))⟩
        rintro M3 hM3
        have hM3l : M3.length = 20 := by rw [hM3]; split <;> simp [hM2l]
        obtain ⟨x1, x2⟩ := ilv_at (lvL s L (s.w0 + (k : Int))) (w := j) (by omega)
        refine SX.draw 21 (by kernel_rfl) (by kernel_rfl) {} ?_
        refine SXA.take 0 21 rfl (by kernel_rfl) rfl ?_
        refine SXL.move rfl ?_
        refine SXL.move rfl ?_
        refine SXL.indexA el_148 rfl rfl (by omega) ?_
        refine SXL.fieldAddr fp_55_0 rfl ?_
        refine SXL.load1o 2 sh_3 rfl rfl (at_lo (M := M3) (i := j) (by omega) (by omega)) ?_
        refine SXL.move rfl ?_
        refine SXL.indexA el_148 rfl rfl (by omega) ?_
        refine SXL.fieldAddr fp_55_0 rfl ?_
        refine SXL.load1o 8 sh_3 rfl rfl (at_lo (M := (ilv (lvL s L (s.w0 + (k : Int))))) (i := j) (by omega) (by omega)) ?_
        refine SXL.min rfl rfl ?_
        refine SXL.move rfl ?_
        refine SXL.indexA el_148 rfl rfl (by omega) ?_
        refine SXL.fieldAddr fp_55_1 rfl ?_
        refine SXL.load1o 2 sh_3 rfl rfl (at_hi (M := M3) (i := j) (by omega) (by omega)) ?_
        refine SXL.move rfl ?_
        refine SXL.indexA el_148 rfl rfl (by omega) ?_
        refine SXL.fieldAddr fp_55_1 rfl ?_
        refine SXL.load1o 8 sh_3 rfl rfl (at_hi (M := (ilv (lvL s L (s.w0 + (k : Int))))) (i := j) (by omega) (by omega)) ?_
        refine SXL.max rfl rfl ?_
        refine SXL.buildS pl_55 zp_55 rfl rfl ?_
        refine SXL.indexA el_148 rfl rfl (by omega) ?_
        refine SXL.nil ⟨rfl, rfl, rfl, ?_⟩
        refine SXA.done (by kernel_rfl) ?_
        refine SXL.store 2 sz_55 rfl rfl rfl rfl rfl (ints_put2' (M := M3) (i := j) (p := (min (Lo M3 j) (Lo (ilv (lvL s L (s.w0 + (k : Int)))) j), max (Hi M3 j) (Hi (ilv (lvL s L (s.w0 + (k : Int)))) j))) (by omega) (by omega)) ?_
        refine SXL.nil ?_
        refine blockQ.normal ?_
        refine thenQ.normal ?_
        refine SX.region ?_
        refine SXL.add rfl rfl (by omega) ?_
        refine SXL.move rfl ?_
        refine SXL.nil ?_
        refine thenQ.normal ?_
        refine ⟨(j + 1, _), Meets.mk _ ⟨rfl, trivial⟩ ⟨rfl, rfl, rfl, rfl, rfl, rfl, trivial⟩ rfl, ⟨by omega, by rw [x1, x2]; exact hMd.next (by omega) (by omega) hM3⟩, (show s.weeks.toNat - (j + 1) < s.weeks.toNat - j by omega)⟩
      · refine SX.exit ?_
        refine thenQ.exit ?_
        refine thenQ.exit ?_
        refine blockQ.exit ?_
        refine thenQ.normal ?_
        obtain rfl : j = s.weeks.toNat := by omega
        refine SX.region ?_
        refine SXL.store 3 sz_4 rfl rfl rfl rfl rfl rfl ?_
        refine SXL.nil ?_
        refine blockQ.normal ?_
        refine ⟨rfl, ?_⟩
        refine SXL.not rfl ?_
        refine SXL.nil ?_
        refine thenQ.normal ?_
        refine SX.condP rfl (fun c30 => ?_) (fun c30 => ?_)
        · exfalso; exact c30 trivial
        refine SX.skip ?_
        refine blockQ.normal ?_
        refine thenQ.normal ?_
        refine SX.region ?_
        refine SXL.move rfl ?_
        refine SXL.add rfl rfl (by omega) ?_
        refine SXL.assign rfl ?_
        refine SXL.nil ?_
        refine thenQ.normal ?_
        refine ⟨(k + 1, _), Meets.mk _ ⟨congrArg (fun z => some (Value.int .i64 z)) (show s.w0 + (k : Int) + 1 = s.w0 + ((k + 1 : Nat) : Int) by omega), trivial⟩ ⟨rfl, rfl, trivial⟩ (by show setAll _ (_ :: [(3, (b3, .cells ⟨[.bool (decide (rnsTo s L (k + 1) ≠ []))]⟩ 4 (0, 0)))]) ++ _ = _; first | (rw [decide_eq_true (p := rnsTo s L (k + 1) ≠ []) (by rw [rnsTo_yes hlv]; simp)]; rfl) | (rw [show rnsTo s L (k + 1) = _ from rnsTo_no c25]; rfl)), ?_, ?_⟩
        · refine ⟨by omega, ?_⟩
          first
            | exact (by rw [rnsTo_yes hlv]; simpa [lvsL] using hMd.done)
            | exact (by rw [rnsTo_no c25]; exact hM)
        · show rnN s - (k + 1) < rnN s - k; omega
  · refine SX.exit ?_
    refine thenQ.exit ?_
    refine thenQ.exit ?_
    refine blockQ.exit ?_
    refine scopeQ.normal ?_
    refine retQ.zeroN ?_
    refine ⟨6, rfl, ?_⟩
    refine blockQ.normal ?_
    refine thenQ.normal ?_
    refine SX.seq ?_
    obtain rfl : k = rnN s := by omega
    refine SX.draw 4 (by kernel_rfl) (by kernel_rfl) ⟨[1, 3], [true, false]⟩ ?_
    refine SXA.take 0 1 rfl (by kernel_rfl) rfl ?_
    refine SXL.loadNo 2 sh_148 rfl rfl (takeAt_full (by simp [hMl])) ?_
    refine SXL.nil ⟨rfl, rfl, rfl, ?_⟩
    refine SXA.takeM 1 1 rfl (by kernel_rfl) rfl ?_
    refine SXL.load1o 2 sh_4 rfl rfl rfl ?_
    refine SXL.nil ⟨rfl, rfl, rfl, ?_⟩
    refine SXA.all [2] (by kernel_rfl) rfl ⟨⟨?_, rfl⟩, trivial⟩
    refine (show SXL _ _ [_] _ _ from ?_)
    refine SXL.store 1 sz_148 rfl rfl rfl rfl (by simp [hMl]) (putAt_all _ _ (by simp [hMl])) ?_ (ints_isOne _)
    refine SXL.nil (stepQ.mkL _ (by kernel_rfl) rfl rfl ?_)
    refine SXA.takeM 3 1 rfl (by kernel_rfl) rfl ?_
    refine SXL.assign rfl ?_
    refine SXL.nil ⟨rfl, rfl, rfl, ?_⟩
    refine SXA.done (by kernel_rfl) ?_
    refine SXL.nil ?_
    refine thenQ.normal ?_
    refine SX.ret ?_
    refine retQ.unmark 5 rfl ?_
    refine retQ.two (ResAt.cellNo 1 sh_148 rfl rfl (takeAt_full (k := 20) (by simp [hMl]))) (ResAt.tmp rfl) ?_
    rw [show M = _ from hM.eq]; rfl
end Go.Proofs.YtolcicaclflagaaDoor
