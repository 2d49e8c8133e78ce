/- Rains, and what they leave; the hull: the plain words, step by step as the reference goes. Nothing of Go stands here. -/
import Derived.Test.YtknflipongbngaaDoorP2
namespace Go.S
open Go.X (G)
def rnsTo (s : Sp) (L : List Int) : Nat → List Int
  | 0 => []
  | k + 1 => if lvB s L (s.w0 + k) then rnsTo s L k ++ [s.w0 + (k : Int)] else rnsTo s L k
def rnN (s : Sp) : Nat := (s.w1 + 1 - s.w0).toNat
def rnsL (s : Sp) (L : List Int) : List Int := rnsTo s L (rnN s)
def lvsL (s : Sp) (L : List Int) (rs : List Int) : List (List Int) := rs.map (lvL s L)
theorem rnsTo_yes {s : Sp} {L : List Int} {k : Nat} (h : lvB s L (s.w0 + k)) : rnsTo s L (k + 1) = rnsTo s L k ++ [s.w0 + (k : Int)] := if_pos h
theorem rnsTo_no {s : Sp} {L : List Int} {k : Nat} (h : ¬lvB s L (s.w0 + k)) : rnsTo s L (k + 1) = rnsTo s L k := if_neg h
theorem rnsTo_len (s : Sp) (L : List Int) : ∀ k, (rnsTo s L k).length ≤ k
  | 0 => Nat.le_refl _
  | k + 1 => by
    have := rnsTo_len s L k
    simp only [rnsTo]
    split <;> simp <;> omega
/-- The error of a spring and a week. -/
def toldE (s : Sp) (week : Int) : Int := if ¬SpP s then 10 else if ¬Wi week 0 (s.weeks - 1) then 11 else if rnsL s (baseL s) = [] then 8 else 0
def toldL (s : Sp) (week : Int) : List Int := if toldE s week = 0 then rnsL s (baseL s) else []
def toldA (s : Sp) (week : Int) : List (List Int) := lvsL s (baseL s) (toldL s week)
def hLoTo (A : List (List Int)) (w : Nat) : Nat → Int
  | 0 => G (A.getD 0 []) w
  | k + 1 => min (hLoTo A w k) (G (A.getD k []) w)
def hHiTo (A : List (List Int)) (w : Nat) : Nat → Int
  | 0 => G (A.getD 0 []) (10 + w)
  | k + 1 => max (hHiTo A w k) (G (A.getD k []) (10 + w))
def hLo (A : List (List Int)) (w : Nat) : Int := hLoTo A w A.length
def hHi (A : List (List Int)) (w : Nat) : Int := hHiTo A w A.length
end Go.S
namespace Go.S
open Go.X (G)
theorem lvsL_len {s : Sp} {L : List Int} (hL : Bd L) (hv : SpP s) (rs : List Int) : ∀ x ∈ lvsL s L rs, x.length = 20 := by
  intro x hx
  obtain ⟨r, _, rfl⟩ := List.mem_map.1 hx
  exact (hL.lv hv r).len
theorem baseL_Bd {s : Sp} (hv : SpP s) : Bd (baseL s) := by
  have h := hv.1; unfold HeadP at h
  exact Bd.base h.2.1 _ (by omega)
theorem toldA_len {s : Sp} (week : Int) : ∀ x ∈ toldA s week, x.length = 20 := by
  unfold toldA toldL
  by_cases h : toldE s week = 0
  · rw [if_pos h]
    have hv : SpP s := by
      by_cases hv : SpP s
      · exact hv
      · rw [toldE, if_pos hv] at h; cases h
    exact lvsL_len (baseL_Bd hv) hv _
  · rw [if_neg h]; intro x hx; simp [lvsL] at hx
theorem toldE_bad {s : Sp} {week : Int} (h : ¬SpP s) : toldE s week = 10 := if_pos h
theorem toldE_week {s : Sp} {week : Int} (h : SpP s) (h2 : ¬Wi week 0 (s.weeks - 1)) : toldE s week = 11 := by rw [toldE, if_neg (by simpa using h), if_pos h2]
theorem toldE_none {s : Sp} {week : Int} (h : SpP s) (h2 : Wi week 0 (s.weeks - 1)) (h3 : rnsL s (baseL s) = []) : toldE s week = 8 := by rw [toldE, if_neg (by simpa using h), if_neg (by simpa using h2), if_pos h3]
theorem toldE_ok {s : Sp} {week : Int} (h : SpP s) (h2 : Wi week 0 (s.weeks - 1)) (h3 : rnsL s (baseL s) ≠ []) : toldE s week = 0 := by rw [toldE, if_neg (by simpa using h), if_neg (by simpa using h2), if_neg h3]
theorem toldL_bad {s : Sp} {week e : Int} (h : toldE s week = e) (he : e ≠ 0) : toldL s week = [] := if_neg (by rw [h]; exact he)
theorem toldL_ok {s : Sp} {week : Int} (h : toldE s week = 0) : toldL s week = rnsL s (baseL s) := if_pos h
theorem toldE_valid {s : Sp} {week : Int} (h : toldE s week = 0) : SpP s ∧ Wi week 0 (s.weeks - 1) ∧ rnsL s (baseL s) ≠ [] := by
  unfold toldE at h
  split at h
  · cases h
  split at h
  · cases h
  split at h
  · cases h
  rename_i h1 h2 h3
  exact ⟨by simpa using h1, by simpa using h2, h3⟩
end Go.S
namespace Go.S
abbrev TrueP (s : Sp) : Prop := rnsL s (baseL s) ≠ []
theorem len_pos_iff {α : Type} (l : List α) : (0 : Int) < (l.length : Int) ↔ l ≠ [] := by
  cases l <;> simp
def givesE (s : Sp) (week : Int) : Int := toldE s week
def givesLo (s : Sp) (week : Int) : Int := if toldE s week = 0 then hLo (toldA s week) week.toNat else 0
def givesHi (s : Sp) (week : Int) : Int := if toldE s week = 0 then hHi (toldA s week) week.toNat else 0
def knownV (s : Sp) (week need : Int) : Int := if toldE s week ≠ 0 then 0 else if need ≤ givesLo s week then 2 else if givesHi s week < need then 0 else 1
end Go.S
namespace Go.S
theorem rnsL_max {s : Sp} (hv : SpP s) (L : List Int) : (rnsL s L).length ≤ 21 := by
  have h := hv.1; unfold HeadP at h
  have := rnsTo_len s L (rnN s)
  have e : rnN s = (s.w1 + 1 - s.w0).toNat := rfl
  unfold rnsL
  omega
theorem toldA_max {s : Sp} {week : Int} (h : toldE s week = 0) : (toldA s week).length ≤ 21 := by
  obtain ⟨hv, _, _⟩ := toldE_valid h
  rw [toldA, toldL_ok h, lvsL, List.length_map]
  exact rnsL_max hv _
end Go.S
