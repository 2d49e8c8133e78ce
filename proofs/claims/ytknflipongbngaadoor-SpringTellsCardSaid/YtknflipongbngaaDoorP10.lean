/- The end of the package spring's reckoning. Nothing of Go stands here. -/
import Derived.Test.YtknflipongbngaaDoorP9
namespace Go.S
open Go.X (G)
theorem mu_less {f : Int} {M W : List Int} (hM : M.length = 20) (hS : Sb M) (hne : W ≠ M) (k : Nat) (hk : k ≤ 9) :
    2 * (sumW (psTo f M k) 10).toNat + (if M = psTo f M k then 0 else 1) < 2 * (sumW M 10).toNat + (if W = M then 0 else 1) := by
  rw [if_neg hne]
  obtain ⟨h1, h2⟩ := ps_less (f := f) hM hS k hk
  have p1 := sumW_nonneg h1 10 (Nat.le_refl _)
  have p2 := sumW_nonneg hS 10 (Nat.le_refl _)
  rcases h2 with ⟨_, h2⟩ | h2
  · rw [h2, if_pos rfl]; omega
  · split <;> omega
theorem after_end {s : Sp} (hv : SpP s) {R L : List Int} (hW : RelW s R L) {rain : Int} {W : List Int} (hM : KeepP s.weeks.toNat s.fall (slTo s R rain s.book.length) W)
    (hWM : (∀ j, j < 10 → Lo W j = 0 ∧ Hi W j = 0) ∨ (Sb W ∧ W = psTo s.fall W (s.weeks.toNat - 1) ∧ Alive s.fall W (s.weeks.toNat - 1))) :
    ((∀ w, w < s.weeks.toNat → ¬NoneAt W w) ↔ lvB s L rain) ∧ (lvB s L rain → W = ilv (lvL s L rain)) := by
  have h1 := hv.1; unfold HeadP at h1
  obtain ⟨a1, a2⟩ := after_ok hv hW.lr hW.ll.len hW.sb hW.rel hW.rest rain
  have hnn : (∀ w, w < s.weeks.toNat → ¬NoneAt W w) → lvB s L rain ∧ W = ilv (lvL s L rain) := by
    intro hnn
    have hne : ∀ w, w < s.weeks.toNat → Lo W w ≤ Hi W w := fun w hw => by
      have := hM.sb w (by omega)
      have h3 := hnn w hw
      unfold NoneAt at h3
      omega
    refine a1 W hM ?_ hne
    rcases hWM with hz | ⟨hS, he, _⟩
    · exact stp_zero (by omega) fun w hw => hz w (by omega)
    · obtain ⟨_, h2⟩ := ps_less (f := s.fall) hM.len hS (s.weeks.toNat - 1) (by omega)
      rcases h2 with ⟨h2, _⟩ | h2
      · exact stp_of_same hM.len hS (by omega) (by omega) (fun j hj => ⟨(h2 j (by omega)).1, (h2 j (by omega)).2.1⟩) hne
      · rw [← he] at h2; omega
  have hall : lvB s L rain → ∀ w, w < s.weeks.toNat → ¬NoneAt W w := fun hb w hw hN => a2 W hM w hw hN hb
  exact ⟨⟨fun h => (hnn h).1, hall⟩, fun h => (hnn (hall h)).2⟩
end Go.S
