/- The package spring: again and again until nothing turns. Nothing of Go stands here. -/
import Derived.Test.YtknflipongbngaaDoorP6
namespace Go.S
open Go.X (G)
/-- One step: week i by the week before, and back. -/
def step1 (f : Int) (M : List Int) (k : Nat) : List Int := set2 M (k + 1) (bothP (Lo M (k + 1)) (Hi M (k + 1)) (Lo M k - f) (Hi M k))
def step2 (f : Int) (M : List Int) (k : Nat) : List Int := set2 M k (bothP (Lo M k) (Hi M k) (Lo M (k + 1)) (Hi M (k + 1) + f))
def stepM (f : Int) (M : List Int) (k : Nat) : List Int := step2 f (step1 f M k) k
def NoneAt (M : List Int) (i : Nat) : Prop := Lo M i = 1 ∧ Hi M i = 0
instance (M : List Int) (i : Nat) : Decidable (NoneAt M i) := by unfold NoneAt; infer_instance
def psTo (f : Int) (M : List Int) : Nat → List Int
  | 0 => M
  | k + 1 => stepM f (psTo f M k) k
/-- No step has come to nothing. -/
def Alive (f : Int) (M : List Int) (k : Nat) : Prop := ∀ j, j < k → ¬NoneAt (psTo f M (j + 1)) j ∧ ¬NoneAt (psTo f M (j + 1)) (j + 1)
def sumW (M : List Int) : Nat → Int
  | 0 => 0
  | k + 1 => sumW M k + (Hi M k - Lo M k + 1)
@[simp] theorem step1_len (f : Int) (M : List Int) (k : Nat) : (step1 f M k).length = M.length := by simp [step1]
@[simp] theorem step2_len (f : Int) (M : List Int) (k : Nat) : (step2 f M k).length = M.length := by simp [step2]
@[simp] theorem stepM_len (f : Int) (M : List Int) (k : Nat) : (stepM f M k).length = M.length := by simp [stepM]
@[simp] theorem psTo_len (f : Int) (M : List Int) : ∀ k, (psTo f M k).length = M.length
  | 0 => rfl
  | k + 1 => by simp [psTo, psTo_len f M k]
theorem sumW_nonneg {M : List Int} (h : Sb M) : ∀ k, k ≤ 10 → 0 ≤ sumW M k
  | 0, _ => Int.le_refl _
  | k + 1, hk => by
    have := sumW_nonneg h k (by omega)
    have := h k (by omega)
    simp only [sumW]
    omega
theorem sumW_set {M : List Int} (hM : M.length = 20) {i : Nat} (hi : i < 10) (p : Int × Int) : ∀ k, k ≤ 10 → sumW (set2 M i p) k = sumW M k + (if i < k then (p.2 - p.1) - (Hi M i - Lo M i) else 0)
  | 0, _ => by simp [sumW]
  | k + 1, hk => by
    have ih := sumW_set hM hi p k (by omega)
    obtain ⟨h1, h2⟩ := set2_at hM hi (j := k) (by omega) p
    simp only [sumW, ih, h1, h2]
    by_cases e : i = k
    · subst e
      rw [if_pos rfl, if_pos rfl, if_neg (by omega), if_pos (by omega)]
      omega
    · rw [if_neg e, if_neg e]
      by_cases e2 : i < k
      · rw [if_pos e2, if_pos (by omega)]; omega
      · rw [if_neg e2, if_neg (by omega)]; omega
theorem list_ext20 {M K : List Int} (hM : M.length = 20) (hK : K.length = 20) (h : ∀ j, j < 10 → Lo M j = Lo K j ∧ Hi M j = Hi K j) : M = K := by
  refine List.ext_getElem (by omega) fun i h1 h2 => ?_
  have h3 := h (i / 2) (by omega)
  have hg : ∀ (L : List Int) (hi : i < L.length), G L i = L[i] := fun L hi => by simp [G, hi]
  rw [← hg M h1, ← hg K h2]
  by_cases e : i % 2 = 0
  · have : i = i / 2 * 2 := by omega
    rw [this]; exact h3.1
  · have : i = i / 2 * 2 + 1 := by omega
    rw [this]; exact h3.2
/-- A span set to a part of itself: the same, or less. -/
theorem set_less {M : List Int} (hM : M.length = 20) (hS : Sb M) {i : Nat} (hi : i < 10) (c d : Int) :
    set2 M i (bothP (Lo M i) (Hi M i) c d) = M ∨ sumW (set2 M i (bothP (Lo M i) (Hi M i) c d)) 10 < sumW M 10 := by
  have hs := sumW_set hM hi (bothP (Lo M i) (Hi M i) c d) 10 (Nat.le_refl _)
  rw [if_pos hi] at hs
  have hsi := hS i hi
  by_cases e : (bothP (Lo M i) (Hi M i) c d).1 = Lo M i ∧ (bothP (Lo M i) (Hi M i) c d).2 = Hi M i
  · left
    refine list_ext20 (by simp [hM]) hM fun j hj => ?_
    obtain ⟨h1, h2⟩ := set2_at hM hi hj (bothP (Lo M i) (Hi M i) c d)
    rw [h1, h2]
    by_cases hij : i = j
    · subst hij; rw [if_pos rfl, if_pos rfl]; exact e
    · rw [if_neg hij, if_neg hij]; exact ⟨rfl, rfl⟩
  · right
    rw [hs]
    revert e
    unfold bothP
    split
    · simp only; omega
    · simp only; omega
theorem step_less {f : Int} {M : List Int} (hM : M.length = 20) (hS : Sb M) {k : Nat} (hk : k + 1 < 10) :
    Sb (step1 f M k) ∧ Sb (stepM f M k) ∧ ((step1 f M k = M ∧ stepM f M k = M) ∨ sumW (stepM f M k) 10 < sumW M 10) := by
  have h1 : Sb (step1 f M k) := hS.set hM hk (bothP_sb (hS _ hk))
  have hl : (step1 f M k).length = 20 := by simp [hM]
  have h2 : Sb (stepM f M k) := h1.set hl (by omega) (bothP_sb (h1 _ (by omega)))
  refine ⟨h1, h2, ?_⟩
  have a := set_less hM hS hk (Lo M k - f) (Hi M k)
  have b := set_less hl h1 (i := k) (by omega) (Lo (step1 f M k) (k + 1)) (Hi (step1 f M k) (k + 1) + f)
  rcases b with b | b
  · rcases a with a | a
    · have a' : step1 f M k = M := a
      exact .inl ⟨a', (show stepM f M k = step1 f M k from b).trans a'⟩
    · right
      rw [show stepM f M k = step1 f M k from b]; exact a
  · rcases a with a | a
    · right
      have a' : step1 f M k = M := a
      have : sumW (stepM f M k) 10 < sumW (step1 f M k) 10 := b
      rwa [a'] at this
    · right
      have : sumW (stepM f M k) 10 < sumW (step1 f M k) 10 := b
      have a2 : sumW (step1 f M k) 10 < sumW M 10 := a
      omega
theorem ps_less {f : Int} {M : List Int} (hM : M.length = 20) (hS : Sb M) : ∀ k, k ≤ 9 → Sb (psTo f M k) ∧ ((∀ j, j < k → step1 f M j = M ∧ stepM f M j = M ∧ psTo f M (j + 1) = M) ∧ psTo f M k = M ∨ sumW (psTo f M k) 10 < sumW M 10)
  | 0, _ => ⟨hS, .inl ⟨fun j hj => absurd hj (Nat.not_lt_zero _), rfl⟩⟩
  | k + 1, hk => by
    obtain ⟨h1, h2⟩ := ps_less hM hS k (by omega)
    obtain ⟨_, g1, g2⟩ := step_less (f := f) (by simp [hM]) h1 (k := k) (by omega)
    refine ⟨g1, ?_⟩
    show (_ ∧ stepM f (psTo f M k) k = M) ∨ sumW (stepM f (psTo f M k) k) 10 < _
    rcases h2 with ⟨h2, h3⟩ | h2
    · rw [h3] at g2 ⊢
      rcases g2 with ⟨g2, g3⟩ | g2
      · refine .inl ⟨fun j hj => ?_, g3⟩
        by_cases e : j = k
        · subst e
          exact ⟨g2, g3, by show stepM f (psTo f M j) j = M; rw [h3]; exact g3⟩
        · exact h2 j (by omega)
      · exact .inr g2
    · right
      rcases g2 with ⟨_, g3⟩ | g2
      · rw [g3]; exact h2
      · omega
/-- All truths of C lie within M, and M in C. -/
structure KeepP (n : Nat) (f : Int) (C M : List Int) : Prop where
  len : M.length = 20
  sb : Sb M
  sub : ∀ w, w < n → Lo M w ≤ Hi M w → Lo C w ≤ Lo M w ∧ Hi M w ≤ Hi C w
  wn : Wn n f (Lo C) (Hi C) (Lo M) (Hi M)
  rest : ∀ w, w < 10 → n ≤ w → Lo M w = Lo C w ∧ Hi M w = Hi C w
theorem both_in {a b c d t : Int} (h1 : a ≤ t ∧ t ≤ b) (h2 : c ≤ t ∧ t ≤ d) : (bothP a b c d).1 ≤ t ∧ t ≤ (bothP a b c d).2 := by
  unfold bothP
  split
  · omega
  · simp only; omega
theorem both_sub {a b c d : Int} (h : (bothP a b c d).1 ≤ (bothP a b c d).2) : a ≤ (bothP a b c d).1 ∧ (bothP a b c d).2 ≤ b := by
  revert h
  unfold bothP
  split
  · simp
  · simp only; omega
theorem KeepP.step {n : Nat} {f : Int} {C M : List Int} (h : KeepP n f C M) (hn : n ≤ 10) {k : Nat} (hk : k + 1 < n) : KeepP n f C (stepM f M k) := by
  obtain ⟨s1, s2, _⟩ := step_less (f := f) h.len h.sb (k := k) (by omega)
  have hl : (step1 f M k).length = 20 := by simp [h.len]
  have a1 := fun (j : Nat) (hj : j < 10) => set2_at h.len (i := k + 1) (j := j) (by omega) hj (bothP (Lo M (k + 1)) (Hi M (k + 1)) (Lo M k - f) (Hi M k))
  have a2 := fun (j : Nat) (hj : j < 10) => set2_at hl (i := k) (j := j) (by omega) hj (bothP (Lo (step1 f M k) k) (Hi (step1 f M k) k) (Lo (step1 f M k) (k + 1)) (Hi (step1 f M k) (k + 1) + f))
  have b1 : ∀ j, j < 10 → Lo (step1 f M k) j = _ ∧ Hi (step1 f M k) j = _ := a1
  have b2 : ∀ j, j < 10 → Lo (stepM f M k) j = _ ∧ Hi (stepM f M k) j = _ := a2
  refine ⟨by simp [h.len], s2, fun w hw hne => ?_, fun t ht w hw => ?_, fun w h10 hw => ?_⟩
  · have c1 := b1 w (by omega); have c2 := b2 w (by omega)
    have hsub := h.sub w hw
    rw [c2.1, c2.2] at hne ⊢
    by_cases e : k = w
    · subst e
      rw [if_pos rfl, if_pos rfl] at hne ⊢
      have h3 := both_sub hne
      rw [c1.1, c1.2, if_neg (by omega), if_neg (by omega)] at h3 hne ⊢
      have := hsub (by omega)
      omega
    · rw [if_neg e, if_neg e] at hne ⊢
      rw [c1.1, c1.2] at hne ⊢
      by_cases e2 : k + 1 = w
      · subst e2
        rw [if_pos rfl, if_pos rfl] at hne ⊢
        have h3 := both_sub hne
        have := hsub (by omega)
        omega
      · rw [if_neg e2, if_neg e2] at hne ⊢
        exact hsub hne
  · have hstep := (ht (k + 1) hk).2.2 (by omega)
    simp only [Nat.add_sub_cancel] at hstep
    have t0 := h.wn t ht k (by omega)
    have t1 := h.wn t ht (k + 1) hk
    have u1 : Lo (step1 f M k) (k + 1) ≤ t (k + 1) ∧ t (k + 1) ≤ Hi (step1 f M k) (k + 1) := by
      have c1 := b1 (k + 1) (by omega)
      rw [c1.1, c1.2, if_pos rfl, if_pos rfl]
      exact both_in t1 (by omega)
    have u0 : Lo (step1 f M k) k ≤ t k ∧ t k ≤ Hi (step1 f M k) k := by
      have c1 := b1 k (by omega)
      rw [c1.1, c1.2, if_neg (by omega), if_neg (by omega)]
      exact t0
    have c2 := b2 w (by omega)
    rw [c2.1, c2.2]
    by_cases e : k = w
    · subst e
      rw [if_pos rfl, if_pos rfl]
      exact both_in u0 (by omega)
    · rw [if_neg e, if_neg e]
      by_cases e2 : k + 1 = w
      · subst e2; exact u1
      · have c1 := b1 w (by omega)
        rw [c1.1, c1.2, if_neg e2, if_neg e2]
        exact h.wn t ht w hw
  · have c1 := b1 w h10; have c2 := b2 w h10
    rw [c2.1, c2.2, if_neg (by omega), if_neg (by omega), c1.1, c1.2, if_neg (by omega), if_neg (by omega)]
    exact h.rest w h10 hw
theorem KeepP.ps {n : Nat} {f : Int} {C M : List Int} (h : KeepP n f C M) (hn : n ≤ 10) : ∀ k, k + 1 ≤ n → KeepP n f C (psTo f M k)
  | 0, _ => h
  | k + 1, hk => (h.ps hn k (by omega)).step hn (by omega)
theorem KeepP.none {n : Nat} {f : Int} {C M : List Int} (h : KeepP n f C M) {i : Nat} (hi : i < n) (hN : NoneAt M i) : ¬∃ t, Tr n f (Lo C) (Hi C) t := by
  rintro ⟨t, ht⟩
  have := h.wn t ht i hi
  obtain ⟨h1, h2⟩ := hN
  omega
/-- The end: nothing turns any more. -/
theorem stp_of_same {n : Nat} {f : Int} {M : List Int} (hM : M.length = 20) (hS : Sb M) (hn : n ≤ 10) (hf : 0 ≤ f) (hsame : ∀ j, j + 1 < n → step1 f M j = M ∧ stepM f M j = M) (hne : ∀ w, w < n → Lo M w ≤ Hi M w) : Stp n f (Lo M) (Hi M) := by
  intro w hw h0
  obtain ⟨j, rfl⟩ : ∃ j, w = j + 1 := ⟨w - 1, by omega⟩
  obtain ⟨e1, e2⟩ := hsame j hw
  simp only [Nat.add_sub_cancel]
  have a1 := set2_at hM (i := j + 1) (j := j + 1) (by omega) (by omega) (bothP (Lo M (j + 1)) (Hi M (j + 1)) (Lo M j - f) (Hi M j))
  have b1 : Lo (step1 f M j) (j + 1) = _ ∧ Hi (step1 f M j) (j + 1) = _ := a1
  rw [e1, if_pos rfl, if_pos rfl] at b1
  have a2 := set2_at (M := step1 f M j) (by simp [hM]) (i := j) (j := j) (by omega) (by omega) (bothP (Lo (step1 f M j) j) (Hi (step1 f M j) j) (Lo (step1 f M j) (j + 1)) (Hi (step1 f M j) (j + 1) + f))
  have b2 : Lo (stepM f M j) j = _ ∧ Hi (stepM f M j) j = _ := a2
  rw [e2, if_pos rfl, if_pos rfl, e1] at b2
  have n1 := hne (j + 1) hw; have n0 := hne j (by omega)
  revert b1 b2
  unfold bothP
  split <;> split <;> simp only <;> intro b1 b2 <;> omega
theorem stp_zero {n : Nat} {f : Int} {M : List Int} (hf : 0 ≤ f) (hz : ∀ w, w < n → Lo M w = 0 ∧ Hi M w = 0) : Stp n f (Lo M) (Hi M) := by
  intro w hw h0
  have a := hz w hw; have b := hz (w - 1) (by omega)
  omega
end Go.S
