/- From week to week, and back: both ways of reckoning come to the same. Nothing of Go stands here. -/
import Derived.Test.YtknflipongbngaaDoorP5
namespace Go.S
open Go.X (G)
/-- What is given week by week, within bounds. -/
def Tr (n : Nat) (f : Int) (lo hi : Nat → Int) (t : Nat → Int) : Prop := ∀ w, w < n → lo w ≤ t w ∧ t w ≤ hi w ∧ (0 < w → t (w - 1) - f ≤ t w ∧ t w ≤ t (w - 1))
/-- All truths lie within. -/
def Wn (n : Nat) (f : Int) (lo hi lo' hi' : Nat → Int) : Prop := ∀ t, Tr n f lo hi t → ∀ w, w < n → lo' w ≤ t w ∧ t w ≤ hi' w
/-- The steps of the lower and the upper ends are right. -/
def Stp (n : Nat) (f : Int) (lo hi : Nat → Int) : Prop := ∀ w, w < n → 0 < w → (lo (w - 1) - f ≤ lo w ∧ lo w ≤ lo (w - 1)) ∧ (hi (w - 1) - f ≤ hi w ∧ hi w ≤ hi (w - 1))
theorem ends_true {n : Nat} {f : Int} {lo hi lo' hi' : Nat → Int} (hs : Stp n f lo' hi') (hsub : ∀ w, w < n → lo w ≤ lo' w ∧ hi' w ≤ hi w) (hne : ∀ w, w < n → lo' w ≤ hi' w) : Tr n f lo hi lo' ∧ Tr n f lo hi hi' := by
  constructor
  · intro w hw
    have h1 := hsub w hw; have h2 := hne w hw
    exact ⟨h1.1, by omega, fun h0 => (hs w hw h0).1⟩
  · intro w hw
    have h1 := hsub w hw; have h2 := hne w hw
    exact ⟨by omega, h1.2, fun h0 => (hs w hw h0).2⟩
/-- Two that hold all truths, and whose ends are truths, are the same. -/
theorem hull_unique {n : Nat} {f : Int} {lo hi l1 h1 l2 h2 : Nat → Int} (w1 : Wn n f lo hi l1 h1) (w2 : Wn n f lo hi l2 h2) (t1 : Tr n f lo hi l1 ∧ Tr n f lo hi h1) (t2 : Tr n f lo hi l2 ∧ Tr n f lo hi h2) : ∀ w, w < n → l1 w = l2 w ∧ h1 w = h2 w := by
  intro w hw
  have a := w1 _ t2.1 w hw; have b := w2 _ t1.1 w hw; have c := w1 _ t2.2 w hw; have d := w2 _ t1.2 w hw
  omega

/-! ### the reference: there and back -/
theorem setA_at {M : List Int} (hM : M.length = 20) {i j : Nat} (hi : i < 10) (hj : j < 10) (x y : Int) :
    G ((M.set i x).set (10 + i) y) j = (if i = j then x else G M j) ∧ G ((M.set i x).set (10 + i) y) (10 + j) = (if i = j then y else G M (10 + j)) := by
  constructor
  · rw [G_set (by simp; omega), if_neg (by omega), G_set (by omega)]
  · rw [G_set (by simp; omega)]
    by_cases h : i = j
    · rw [if_pos (by omega), if_pos h]
    · rw [if_neg (by omega), if_neg h, G_set (by omega), if_neg (by omega)]
structure FwdP (n : Nat) (f : Int) (L M : List Int) (j : Nat) : Prop where
  len : M.length = 20
  step : ∀ w, w ≤ j → 0 < w → G M (w - 1) - f ≤ G M w ∧ G M (10 + w) ≤ G M (10 + (w - 1))
  rest : ∀ w, w < 10 → j < w → G M w = G L w ∧ G M (10 + w) = G L (10 + w)
  sub : ∀ w, w < 10 → G L w ≤ G M w ∧ G M (10 + w) ≤ G L (10 + w)
  wn : Wn n f (fun w => G L w) (fun w => G L (10 + w)) (fun w => G M w) (fun w => G M (10 + w))
theorem fwd_ok {n : Nat} {f : Int} {L : List Int} (hL : L.length = 20) (hn : n ≤ 10) (hf : 0 ≤ f) : ∀ j, j + 1 ≤ n → FwdP n f L (fwdTo f L j) j
  | 0, _ => ⟨hL, fun w h h0 => by omega, fun w _ _ => ⟨rfl, rfl⟩, fun w _ => ⟨Int.le_refl _, Int.le_refl _⟩, fun t ht w hw => ⟨(ht w hw).1, (ht w hw).2.1⟩⟩
  | j + 1, hj => by
    have ih := fwd_ok hL hn hf j (by omega)
    have hs := fun (k : Nat) (hk : k < 10) => setA_at ih.len (i := j + 1) (j := k) (by omega) hk (max (G (fwdTo f L j) (j + 1)) (G (fwdTo f L j) j - f)) (min (G (fwdTo f L j) (10 + (j + 1))) (G (fwdTo f L j) (10 + j)))
    refine ⟨by simp [fwdTo, ih.len], fun w hw h0 => ?_, fun w h10 hw => ?_, fun w hw => ?_, fun t ht w hw => ?_⟩
    · simp only [fwdTo]
      have h1 := hs w (by omega); have h2 := hs (w - 1) (by omega)
      rw [h1.1, h1.2, h2.1, h2.2]
      by_cases e : j + 1 = w
      · subst e
        rw [if_pos rfl, if_pos rfl, if_neg (by omega), if_neg (by omega)]
        simp only [Nat.add_sub_cancel]
        omega
      · rw [if_neg e, if_neg e, if_neg (by omega), if_neg (by omega)]
        exact ih.step w (by omega) h0
    · simp only [fwdTo]
      have h1 := hs w h10
      rw [h1.1, h1.2, if_neg (by omega), if_neg (by omega)]
      exact ih.rest w h10 (by omega)
    · simp only [fwdTo]
      have h1 := hs w hw
      rw [h1.1, h1.2]
      have := ih.sub w hw
      by_cases e : j + 1 = w
      · subst e; rw [if_pos rfl, if_pos rfl]; omega
      · rw [if_neg e, if_neg e]; exact this
    · simp only [fwdTo]
      have h1 := hs w (by omega)
      rw [h1.1, h1.2]
      have := ih.wn t ht w hw
      by_cases e : j + 1 = w
      · subst e
        rw [if_pos rfl, if_pos rfl]
        have h2 := ih.wn t ht j (by omega)
        have h3 := (ht (j + 1) hw).2.2 (by omega)
        simp only [Nat.add_sub_cancel] at h3
        simp only at h2 this
        omega
      · rw [if_neg e, if_neg e]; exact this
/-- After j weeks back from n - 1. -/
structure BwdP (n : Nat) (f : Int) (L K M : List Int) (j : Nat) : Prop where
  len : M.length = 20
  done : ∀ w, w < n → 0 < w → n - 1 - j < w → (G M (w - 1) - f ≤ G M w ∧ G M w ≤ G M (w - 1)) ∧ (G M (10 + (w - 1)) - f ≤ G M (10 + w) ∧ G M (10 + w) ≤ G M (10 + (w - 1)))
  rest : ∀ w, w < 10 → (w + j + 1 < n ∨ n ≤ w ∨ w + 1 = n) → G M w = G K w ∧ G M (10 + w) = G K (10 + w)
  sub : ∀ w, w < 10 → G K w ≤ G M w ∧ G M (10 + w) ≤ G K (10 + w)
  wn : Wn n f (fun w => G L w) (fun w => G L (10 + w)) (fun w => G M w) (fun w => G M (10 + w))
theorem bwd_ok {n : Nat} {f : Int} {L K : List Int} (hn : n ≤ 10) (hn1 : 1 ≤ n) (hf : 0 ≤ f) (hK : FwdP n f L K (n - 1)) : ∀ j, j + 1 ≤ n → BwdP n f L K (bwdTo f (n - 1) K j) j
  | 0, _ => ⟨hK.len, fun w h h0 h1 => by omega, fun w _ _ => ⟨rfl, rfl⟩, fun w _ => ⟨Int.le_refl _, Int.le_refl _⟩, hK.wn⟩
  | j + 1, hj => by
    have ih := bwd_ok hn hn1 hf hK j (by omega)
    simp only [bwdTo, bwdAt]
    have he : n - 1 - 1 - j = n - 2 - j := by omega
    rw [he]
    have hs := fun (k : Nat) (hk : k < 10) => setA_at ih.len (i := n - 2 - j) (j := k) (by omega) hk (max (G (bwdTo f (n - 1) K j) (n - 2 - j)) (G (bwdTo f (n - 1) K j) (n - 2 - j + 1))) (min (G (bwdTo f (n - 1) K j) (10 + (n - 2 - j))) (G (bwdTo f (n - 1) K j) (10 + (n - 2 - j + 1)) + f))
    refine ⟨by simp [ih.len], fun w hw h0 h1 => ?_, fun w h10 hw => ?_, fun w hw => ?_, fun t ht w hw => ?_⟩
    · have a1 := hs w (by omega); have a2 := hs (w - 1) (by omega)
      rw [a1.1, a1.2, a2.1, a2.2]
      rw [if_neg (show ¬ n - 2 - j = w by omega), if_neg (show ¬ n - 2 - j = w by omega)]
      by_cases e : n - 2 - j = w - 1
      · rw [if_pos e, if_pos e]
        have e2 : n - 2 - j + 1 = w := by omega
        rw [e, show w - 1 + 1 = w by omega]
        have r1 := ih.rest (w - 1) (by omega) (by omega)
        have st := hK.step w (by omega) h0
        have sb := ih.sub w (by omega)
        rw [r1.1, r1.2]
        omega
      · rw [if_neg e, if_neg e]
        exact ih.done w hw h0 (by omega)
    · have a1 := hs w h10
      rw [a1.1, a1.2, if_neg (by omega), if_neg (by omega)]
      exact ih.rest w h10 (by omega)
    · have a1 := hs w hw
      rw [a1.1, a1.2]
      have := ih.sub w hw
      by_cases e : n - 2 - j = w
      · subst e; rw [if_pos rfl, if_pos rfl]; omega
      · rw [if_neg e, if_neg e]; exact this
    · have a1 := hs w (by omega)
      simp only
      rw [a1.1, a1.2]
      have := ih.wn t ht w hw
      by_cases e : n - 2 - j = w
      · subst e
        rw [if_pos rfl, if_pos rfl]
        have h2 := ih.wn t ht (n - 2 - j + 1) (by omega)
        have h3 := (ht (n - 2 - j + 1) (by omega)).2.2 (by omega)
        simp only [Nat.add_sub_cancel] at h3
        simp only at h2 this
        omega
      · rw [if_neg e, if_neg e]; exact this
/-- What the reference comes to, of what lines and readings leave (C). -/
structure RefP (n : Nat) (f : Int) (C X : List Int) : Prop where
  len : X.length = 20
  stp : Stp n f (fun w => G X w) (fun w => G X (10 + w))
  sub : ∀ w, w < 10 → G C w ≤ G X w ∧ G X (10 + w) ≤ G C (10 + w)
  rest : ∀ w, w < 10 → n ≤ w → G X w = G C w ∧ G X (10 + w) = G C (10 + w)
  wn : Wn n f (fun w => G C w) (fun w => G C (10 + w)) (fun w => G X w) (fun w => G X (10 + w))
theorem ref_ok {n : Nat} {f : Int} {C : List Int} (hC : C.length = 20) (hn : n ≤ 10) (hn1 : 1 ≤ n) (hf : 0 ≤ f) : RefP n f C (bwdTo f (n - 1) (fwdTo f C (n - 1)) (n - 1)) := by
  have h1 := fwd_ok hC hn hf (n - 1) (by omega)
  have h2 := bwd_ok hn hn1 hf h1 (n - 1) (by omega)
  refine ⟨h2.len, fun w hw h0 => h2.done w hw h0 (by omega), fun w hw => ?_, fun w hw hnw => ?_, h2.wn⟩
  · have a := h1.sub w hw; have b := h2.sub w hw; omega
  · have a := h1.rest w hw (by omega); have b := h2.rest w hw (by omega)
    rw [b.1, b.2]; exact a
end Go.S
