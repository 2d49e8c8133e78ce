/- What all rains leave of each week. Nothing of Go stands here. -/
import Derived.Test.YtknflipongbngaaDoorP10
namespace Go.S
open Go.X (G)
def mk20 (lo hi : Nat → Int) : List Int := (List.range 20).map fun i => if i % 2 = 0 then lo (i / 2) else hi (i / 2)
@[simp] theorem mk20_len (lo hi : Nat → Int) : (mk20 lo hi).length = 20 := by simp [mk20]
theorem mk20_at (lo hi : Nat → Int) {w : Nat} (hw : w < 10) : Lo (mk20 lo hi) w = lo w ∧ Hi (mk20 lo hi) w = hi w := by
  unfold Lo Hi mk20
  constructor
  · have : w * 2 < 20 := by omega
    simp [G, this]
  · have h1 : w * 2 + 1 < 20 := by omega
    have h2 : (w * 2 + 1) % 2 = 1 := by omega
    have h3 : (w * 2 + 1) / 2 = w := by omega
    simp [G, h1, h2, h3]
def oLo (n : Nat) (A : List (List Int)) (i : Nat) : Int := if A = [] ∨ n ≤ i then 0 else hLo A i
def oHi (n : Nat) (A : List (List Int)) (i : Nat) : Int := if A = [] ∨ n ≤ i then 0 else hHi A i
def outL (n : Nat) (A : List (List Int)) : List Int := mk20 (oLo n A) (oHi n A)
theorem hTo_snoc {A : List (List Int)} (X : List Int) (w : Nat) (hA : A ≠ []) : ∀ k, k ≤ A.length → hLoTo (A ++ [X]) w k = hLoTo A w k ∧ hHiTo (A ++ [X]) w k = hHiTo A w k
  | 0, _ => by
    have h0 : 0 < A.length := List.length_pos_iff.2 hA
    have e : (A ++ [X]).getD 0 [] = A.getD 0 [] := by rw [List.getD_eq_getElem?_getD, List.getD_eq_getElem?_getD, List.getElem?_append_left h0]
    simp only [hLoTo, hHiTo, e]; exact ⟨trivial, trivial⟩
  | k + 1, hk => by
    have ih := hTo_snoc X w hA k (by omega)
    have h0 : k < A.length := by omega
    have e : (A ++ [X]).getD k [] = A.getD k [] := by rw [List.getD_eq_getElem?_getD, List.getD_eq_getElem?_getD, List.getElem?_append_left h0]
    simp only [hLoTo, hHiTo, ih.1, ih.2, e]; exact ⟨trivial, trivial⟩
theorem h_snoc {A : List (List Int)} (X : List Int) (w : Nat) : hLo (A ++ [X]) w = (if A = [] then G X w else min (hLo A w) (G X w)) ∧ hHi (A ++ [X]) w = (if A = [] then G X (10 + w) else max (hHi A w) (G X (10 + w))) := by
  by_cases hA : A = []
  · subst hA
    rw [if_pos rfl, if_pos rfl]
    simp [hLo, hHi, hLoTo, hHiTo]
  · rw [if_neg hA, if_neg hA]
    have h := hTo_snoc X w hA A.length (Nat.le_refl _)
    unfold hLo hHi
    rw [show (A ++ [X]).length = A.length + 1 by simp]
    simp only [hLoTo, hHiTo, h.1, h.2]
    simp
/-- One rain more: week j. -/
theorem o_snoc {n : Nat} {A : List (List Int)} (X : List Int) {i : Nat} (hi : i < n) : oLo n (A ++ [X]) i = (if A = [] then G X i else min (oLo n A i) (G X i)) ∧ oHi n (A ++ [X]) i = (if A = [] then G X (10 + i) else max (oHi n A i) (G X (10 + i))) := by
  obtain ⟨h1, h2⟩ := h_snoc (A := A) X i
  unfold oLo oHi
  have hne : ¬((A ++ [X]) = [] ∨ n ≤ i) := by
    rintro (h | h)
    · simp at h
    · omega
  simp only [if_neg hne, h1, h2]
  by_cases hA : A = []
  · simp only [if_pos hA]; exact ⟨trivial, trivial⟩
  · have hne2 : ¬(A = [] ∨ n ≤ i) := by
      rintro (h | h)
      · exact hA h
      · omega
    simp only [if_neg hA, if_neg hne2]; exact ⟨trivial, trivial⟩
theorem o_rest {n : Nat} {A : List (List Int)} {i : Nat} (hi : n ≤ i) : oLo n A i = 0 ∧ oHi n A i = 0 := by
  unfold oLo oHi
  rw [if_pos (.inr hi), if_pos (.inr hi)]; exact ⟨rfl, rfl⟩
/-- M holds what the rains of A leave. -/
structure IsO (n : Nat) (A : List (List Int)) (M : List Int) : Prop where
  len : M.length = 20
  at_ : ∀ i, i < 10 → Lo M i = oLo n A i ∧ Hi M i = oHi n A i
theorem IsO.eq {n : Nat} {A : List (List Int)} {M : List Int} (h : IsO n A M) : M = outL n A :=
  list_ext20 h.len (by simp [outL]) fun j hj => by
    obtain ⟨h1, h2⟩ := mk20_at (oLo n A) (oHi n A) hj
    have := h.at_ j hj
    rw [this.1, this.2]; exact ⟨h1.symm, h2.symm⟩
theorem IsO.zero (n : Nat) : IsO n [] (List.replicate 20 0) := ⟨by simp, fun i hi => by
  have h : ∀ i, i < 10 → G (List.replicate 20 (0 : Int)) (i * 2) = 0 ∧ G (List.replicate 20 (0 : Int)) (i * 2 + 1) = 0 := by decide
  have := h i hi
  simp only [Lo, Hi, this.1, this.2, oLo, oHi, true_or, if_true, and_self]⟩
/-- Weeks below j have the new rain. -/
structure MidO (n : Nat) (A : List (List Int)) (X : List Int) (j : Nat) (M : List Int) : Prop where
  len : M.length = 20
  new_ : ∀ i, i < j → i < 10 → Lo M i = oLo n (A ++ [X]) i ∧ Hi M i = oHi n (A ++ [X]) i
  old_ : ∀ i, j ≤ i → i < 10 → Lo M i = oLo n A i ∧ Hi M i = oHi n A i
theorem IsO.mid {n : Nat} {A : List (List Int)} {M : List Int} (h : IsO n A M) (X : List Int) : MidO n A X 0 M := ⟨h.len, fun i hi => absurd hi (Nat.not_lt_zero _), fun i _ hi => h.at_ i hi⟩
theorem MidO.done {n : Nat} {A : List (List Int)} {X M : List Int} (h : MidO n A X n M) : IsO n (A ++ [X]) M := ⟨h.len, fun i hi => by
  by_cases e : i < n
  · exact h.new_ i e hi
  · have a := h.old_ i (by omega) hi
    have b := o_rest (A := A) (show n ≤ i by omega); have c := o_rest (A := A ++ [X]) (show n ≤ i by omega)
    omega⟩
theorem MidO.next {n : Nat} {A : List (List Int)} {X M M3 : List Int} {j : Nat} (h : MidO n A X j M) (hj : j < n) (hn : n ≤ 10) (h3 : M3 = if A = [] then set2 M j (G X j, G X (10 + j)) else M) :
    MidO n A X (j + 1) (set2 M3 j (min (Lo M3 j) (G X j), max (Hi M3 j) (G X (10 + j)))) := by
  have hl : M3.length = 20 := by rw [h3]; split <;> simp [h.len]
  have hs := o_snoc (A := A) X hj
  have hold := h.old_ j (Nat.le_refl _) (by omega)
  have e3 : Lo M3 j = (if A = [] then G X j else oLo n A j) ∧ Hi M3 j = (if A = [] then G X (10 + j) else oHi n A j) := by
    rw [h3]
    by_cases hA : A = []
    · rw [if_pos hA, if_pos hA, if_pos hA]
      obtain ⟨a, b⟩ := set2_at h.len (i := j) (j := j) (by omega) (by omega) (G X j, G X (10 + j))
      rw [a, b, if_pos rfl, if_pos rfl]; exact ⟨rfl, rfl⟩
    · rw [if_neg hA, if_neg hA, if_neg hA]; exact hold
  have e4 : ∀ i, i < 10 → i ≠ j → Lo M3 i = Lo M i ∧ Hi M3 i = Hi M i := fun i hi hne => by
    rw [h3]
    by_cases hA : A = []
    · rw [if_pos hA]
      obtain ⟨a, b⟩ := set2_at h.len (i := j) (j := i) (by omega) hi (G X j, G X (10 + j))
      rw [a, b, if_neg (Ne.symm hne), if_neg (Ne.symm hne)]; exact ⟨rfl, rfl⟩
    · rw [if_neg hA]; exact ⟨rfl, rfl⟩
  refine ⟨by simp [hl], fun i hi h10 => ?_, fun i hi h10 => ?_⟩
  · obtain ⟨a, b⟩ := set2_at hl (i := j) (j := i) (by omega) h10 (min (Lo M3 j) (G X j), max (Hi M3 j) (G X (10 + j)))
    rw [a, b]
    by_cases e : j = i
    · subst e
      rw [if_pos rfl, if_pos rfl, hs.1, hs.2, e3.1, e3.2]
      by_cases hA : A = []
      · simp only [if_pos hA]; omega
      · simp only [if_neg hA]; exact ⟨trivial, trivial⟩
    · rw [if_neg e, if_neg e, (e4 i h10 (Ne.symm e)).1, (e4 i h10 (Ne.symm e)).2]
      exact h.new_ i (by omega) h10
  · obtain ⟨a, b⟩ := set2_at hl (i := j) (j := i) (by omega) h10 (min (Lo M3 j) (G X j), max (Hi M3 j) (G X (10 + j)))
    rw [a, b, if_neg (by omega), if_neg (by omega), (e4 i h10 (by omega)).1, (e4 i h10 (by omega)).2]
    exact h.old_ i (by omega) h10
end Go.S
