/- What readings and lines leave of each week: the plain words, step by step as the reference goes. Nothing of Go stands here. -/
import Derived.Test.YtknflipongbngaaDoorXData
import Derived.Test.YtknflipongbngaaDoorP1
namespace Go.S
open Go.X (G)
/-- Twenty numbers of bounded size. -/
def Bd (L : List Int) : Prop := L.length = 20 ∧ ∀ i, i < 20 → -1000 ≤ G L i ∧ G L i ≤ 1000
theorem G_set {L : List Int} {i j : Nat} {x : Int} (hi : i < L.length) : G (L.set i x) j = if i = j then x else G L j := by
  simp only [G, List.getD, List.getElem?_set]
  split
  · rename_i h; subst h; simp
  · rfl
theorem Bd.set {L : List Int} (h : Bd L) {i : Nat} {x : Int} (hx : -1000 ≤ x ∧ x ≤ 1000) : Bd (L.set i x) := by
  refine ⟨by simp [h.1], fun j hj => ?_⟩
  by_cases hi : i < L.length
  · rw [G_set hi]
    split
    · exact hx
    · exact h.2 j hj
  · rw [List.set_eq_of_length_le (by omega)]
    exact h.2 j hj
theorem Bd.len {L : List Int} (h : Bd L) : L.length = 20 := h.1
theorem Bd.zero : Bd (List.replicate 20 0) := ⟨by simp, by decide⟩

/-! ### base -/
def OkP (s : Sp) (w : Nat) (n : Int) : Prop := ∀ i, (h : i < s.reads.length) → s.reads[i].wk ≠ w ∨ Right s s.reads[i] n
def OkTo (s : Sp) (w : Nat) (n : Int) (k : Nat) : Prop := ∀ i, i < k → (h : i < s.reads.length) → s.reads[i].wk ≠ w ∨ Right s s.reads[i] n
instance (s : Sp) (w : Nat) (n : Int) : Decidable (OkP s w n) := by unfold OkP; infer_instance
instance (s : Sp) (w : Nat) (n : Int) (k : Nat) : Decidable (OkTo s w n k) := by unfold OkTo; infer_instance
def bstep (s : Sp) (w : Nat) (L : List Int) (n : Nat) : List Int := if OkP s w n then (L.set w (min (G L w) n)).set (10 + w) n else L
def weekTo (s : Sp) (L : List Int) (w : Nat) : Nat → List Int
  | 0 => (L.set w (s.most + 1)).set (10 + w) (-1)
  | j + 1 => bstep s w (weekTo s L w j) j
def baseTo (s : Sp) : Nat → List Int
  | 0 => List.replicate 20 0
  | k + 1 => weekTo s (baseTo s k) k (s.most.toNat + 1)
def baseL (s : Sp) : List Int := baseTo s s.weeks.toNat
theorem Bd.week {s : Sp} {L : List Int} (h : Bd L) (hm : Wi s.most 0 100) {w : Nat} (hw : w < 10) : ∀ j, j ≤ s.most.toNat + 1 → Bd (weekTo s L w j)
  | 0, _ => (h.set (by omega)).set (by omega)
  | j + 1, hj => by
    have ih := Bd.week h hm hw j (by omega)
    simp only [weekTo, bstep]
    split
    · have := ih.2 w (by omega)
      exact (ih.set (by omega)).set (by omega)
    · exact ih
theorem Bd.base {s : Sp} (hm : Wi s.most 0 100) : ∀ k, k ≤ 10 → Bd (baseTo s k)
  | 0, _ => Bd.zero
  | k + 1, hk => (Bd.base hm k (by omega)).week hm (by omega) _ (Nat.le_refl _)

/-! ### leaves -/
def lineStep (rain : Int) (x : Ln) (L : List Int) : List Int :=
  if Wi rain x.r0 x.r1 then (L.set x.wk.toNat (max (G L x.wk.toNat) x.g0)).set (10 + x.wk.toNat) (min (G L (10 + x.wk.toNat)) x.g1) else L
def linesTo (s : Sp) (L : List Int) (rain : Int) : Nat → List Int
  | 0 => L
  | k + 1 => match s.book[k]? with
    | some x => lineStep rain x (linesTo s L rain k)
    | none => linesTo s L rain k
def fwdTo (fall : Int) (L : List Int) : Nat → List Int
  | 0 => L
  | j + 1 => let M := fwdTo fall L j
    (M.set (j + 1) (max (G M (j + 1)) (G M j - fall))).set (10 + (j + 1)) (min (G M (10 + (j + 1))) (G M (10 + j)))
def bwdAt (fall : Int) (M : List Int) (w : Nat) : List Int := (M.set w (max (G M w) (G M (w + 1)))).set (10 + w) (min (G M (10 + w)) (G M (10 + (w + 1)) + fall))
/-- From week n - 1 down: j weeks. -/
def bwdTo (fall : Int) (n : Nat) (L : List Int) : Nat → List Int
  | 0 => L
  | j + 1 => bwdAt fall (bwdTo fall n L j) (n - 1 - j)
def lvL (s : Sp) (L : List Int) (rain : Int) : List Int := bwdTo s.fall (s.weeks.toNat - 1) (fwdTo s.fall (linesTo s L rain s.book.length) (s.weeks.toNat - 1)) (s.weeks.toNat - 1)
def lvB (s : Sp) (L : List Int) (rain : Int) : Prop := ∀ w, w < s.weeks.toNat → G (lvL s L rain) w ≤ G (lvL s L rain) (10 + w)
instance (s : Sp) (L : List Int) (rain : Int) : Decidable (lvB s L rain) := by unfold lvB; infer_instance
theorem Bd.lines {s : Sp} {L : List Int} (h : Bd L) (hb : BookP s) (hw : Wi s.weeks 1 10) (rain : Int) : ∀ k, Bd (linesTo s L rain k)
  | 0 => h
  | k + 1 => by
    have ih := Bd.lines h hb hw rain k
    simp only [linesTo]
    split
    · rename_i x hx
      obtain ⟨hk, rfl⟩ := List.getElem?_eq_some_iff.1 hx
      have hl := hb k hk
      simp only [lineStep]
      split
      · have h1 := ih.2 s.book[k].wk.toNat (by omega)
        have h2 := ih.2 (10 + s.book[k].wk.toNat) (by omega)
        exact (ih.set (by omega)).set (by omega)
      · exact ih
    · exact ih
theorem Bd.fwd {fall : Int} {L : List Int} (h : Bd L) (hf : Wi fall 0 100) : ∀ j, j ≤ 9 → Bd (fwdTo fall L j)
  | 0, _ => h
  | j + 1, hj => by
    have ih := Bd.fwd h hf j (by omega)
    have h1 := ih.2 j (by omega); have h2 := ih.2 (j + 1) (by omega); have h3 := ih.2 (10 + j) (by omega); have h4 := ih.2 (10 + (j + 1)) (by omega)
    exact (ih.set (by omega)).set (by omega)
theorem Bd.bwdAt {fall : Int} {M : List Int} (ih : Bd M) (hf : Wi fall 0 100) {w : Nat} (hw : w ≤ 8) : Bd (bwdAt fall M w) := by
  have h1 := ih.2 w (by omega); have h2 := ih.2 (w + 1) (by omega); have h3 := ih.2 (10 + w) (by omega); have h4 := ih.2 (10 + (w + 1)) (by omega)
  exact (ih.set (by omega)).set (by omega)
theorem Bd.bwd {fall : Int} {L : List Int} (h : Bd L) (hf : Wi fall 0 100) {n : Nat} (hn : n ≤ 9) : ∀ j, j ≤ n → Bd (bwdTo fall n L j)
  | 0, _ => h
  | j + 1, hj => (Bd.bwd h hf hn j (by omega)).bwdAt hf (by omega)
theorem Bd.lv {s : Sp} {L : List Int} (h : Bd L) (hs : SpP s) (rain : Int) : Bd (lvL s L rain) := by
  have h1 := hs.1; unfold HeadP at h1
  exact (((h.lines hs.2.1 h1.1 rain _).fwd h1.2.2.1 _ (by omega)).bwd h1.2.2.1 (by omega) _ (Nat.le_refl _))
end Go.S
