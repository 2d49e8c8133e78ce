/- What readings leave, as the package spring reckons it: the plain words. Nothing of Go stands here. -/
import Derived.Test.YtknflipongbngaaDoorP4
namespace Go.S
open Go.X (G)
def bothP (a b c d : Int) : Int × Int := if min b d < max a c then (1, 0) else (max a c, min b d)
def readsP (s : Sp) (x : Rd) : Int × Int :=
  bothP ((3600 * x.bu + x.s1 * s.a1 - 1) / (x.s1 * s.a1)) (if 0 < x.s0 * s.a0 then min s.most ((3600 * x.bu) / (x.s0 * s.a0)) else s.most) 0 s.most
def set2 (M : List Int) (i : Nat) (p : Int × Int) : List Int := (M.set (i * 2) p.1).set (i * 2 + 1) p.2
abbrev Lo (M : List Int) (i : Nat) : Int := G M (i * 2)
abbrev Hi (M : List Int) (i : Nat) : Int := G M (i * 2 + 1)
@[simp] theorem length_set2 (M : List Int) (i : Nat) (p : Int × Int) : (set2 M i p).length = M.length := by simp [set2]
def fl0 (s : Sp) : Nat → List Int
  | 0 => List.replicate 20 0
  | k + 1 => set2 (fl0 s k) k (0, s.most)
def flTo (s : Sp) : Nat → List Int
  | 0 => fl0 s s.weeks.toNat
  | k + 1 => let x := s.reads.getD k default
    set2 (flTo s k) x.wk.toNat (bothP (Lo (flTo s k) x.wk.toNat) (Hi (flTo s k) x.wk.toNat) (readsP s x).1 (readsP s x).2)
def flL (s : Sp) : List Int := flTo s s.reads.length
@[simp] theorem fl0_len (s : Sp) : ∀ k, (fl0 s k).length = 20
  | 0 => by simp [fl0]
  | k + 1 => by simp [fl0, fl0_len s k]
@[simp] theorem flTo_len (s : Sp) : ∀ k, (flTo s k).length = 20
  | 0 => by simp [flTo]
  | k + 1 => by simp [flTo, flTo_len s k]
/-- Spans as the package spring keeps them: empty ones are (1, 0), the others lie from 0 to 100. -/
def Sb (M : List Int) : Prop := ∀ i, i < 10 → (Lo M i = 1 ∧ Hi M i = 0) ∨ (0 ≤ Lo M i ∧ Lo M i ≤ Hi M i ∧ Hi M i ≤ 100)
theorem set2_at {M : List Int} (hM : M.length = 20) {i j : Nat} (hi : i < 10) (hj : j < 10) (p : Int × Int) : Lo (set2 M i p) j = (if i = j then p.1 else Lo M j) ∧ Hi (set2 M i p) j = (if i = j then p.2 else Hi M j) := by
  unfold set2 Lo Hi
  constructor
  · rw [G_set (by simp; omega), if_neg (by omega), G_set (by omega)]
    by_cases h : i = j
    · rw [if_pos (by omega), if_pos h]
    · rw [if_neg (by omega), if_neg h]
  · rw [G_set (by simp; omega)]
    by_cases h : i = j
    · rw [if_pos (by omega), if_pos h]
    · rw [if_neg (by omega), if_neg h, G_set (by omega), if_neg (by omega)]
theorem Sb.set {M : List Int} (hM : M.length = 20) (h : Sb M) {i : Nat} (hi : i < 10) {p : Int × Int} (hp : (p.1 = 1 ∧ p.2 = 0) ∨ (0 ≤ p.1 ∧ p.1 ≤ p.2 ∧ p.2 ≤ 100)) : Sb (set2 M i p) := by
  intro j hj
  obtain ⟨h1, h2⟩ := set2_at hM hi hj p
  rw [h1, h2]
  by_cases e : i = j
  · rw [if_pos e, if_pos e]; exact hp
  · rw [if_neg e, if_neg e]; exact h j hj
theorem bothP_sb {a b c d : Int} (h : (a = 1 ∧ b = 0) ∨ (0 ≤ a ∧ a ≤ b ∧ b ≤ 100)) : ((bothP a b c d).1 = 1 ∧ (bothP a b c d).2 = 0) ∨ (0 ≤ (bothP a b c d).1 ∧ (bothP a b c d).1 ≤ (bothP a b c d).2 ∧ (bothP a b c d).2 ≤ 100) := by
  unfold bothP
  split
  · exact .inl ⟨rfl, rfl⟩
  · refine .inr ?_
    simp only
    omega
theorem fl0_sb {s : Sp} (hm : Wi s.most 0 100) : ∀ k, k ≤ 10 → Sb (fl0 s k)
  | 0, _ => by
    intro i hi
    have h : ∀ i, i < 10 → G (List.replicate 20 (0 : Int)) (i * 2) = 0 ∧ G (List.replicate 20 (0 : Int)) (i * 2 + 1) = 0 := by decide
    have := h i hi
    simp only [fl0, Lo, Hi, this.1, this.2]
    omega
  | k + 1, hk => (fl0_sb hm k (by omega)).set (fl0_len s k) (by omega) (.inr (by simp only; omega))
theorem flTo_sb {s : Sp} (hv : SpP s) : ∀ k, k ≤ s.reads.length → Sb (flTo s k)
  | 0, _ => by
    have h := hv.1; unfold HeadP at h
    exact fl0_sb h.2.1 _ (by omega)
  | k + 1, hk => by
    have ih := flTo_sb hv k (by omega)
    have h1 := hv.1; unfold HeadP at h1
    have h2 := (hv.2.2 k (by omega)).1
    have e : s.reads.getD k default = s.reads[k] := by simp [show k < s.reads.length by omega]
    simp only [flTo, e]
    exact ih.set (flTo_len s k) (by omega) (bothP_sb (ih _ (by omega)))
end Go.S
