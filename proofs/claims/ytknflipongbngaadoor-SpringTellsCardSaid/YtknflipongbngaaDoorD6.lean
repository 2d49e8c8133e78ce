/- What the package spring is asked, handed back. -/
import Derived.Test.YtknflipongbngaaDoorXW
import Derived.Test.YtknflipongbngaaDoorD5
import Derived.Test.YtknflipongbngaaDoorP11
namespace Go.S
open Go Go.X
def askE (s : Sp) (p : Prop) [Decidable p] (e : Int) : Int := if ¬SpP s then 10 else if ¬p then e else if TrueP s then 0 else 8
def outA (s : Sp) : List Int := outL s.weeks.toNat (lvsL s (baseL s) (rnsL s (baseL s)))
structure AskR (s : Sp) (bo ro : Option Addr) (bc rc : Nat) (p : Prop) [Decidable p] (e : Int) (v : Value) : Prop where
  ex : ∃ W O, W.length = 29 ∧ W.all isOne = true ∧ O.length = 20 ∧ v = .tuple ⟨[.agg ⟨W⟩, .agg ⟨ints O⟩, .int .i64 (askE s p e)]⟩ ∧ (SpP s → p → TrueP s → W = watC s bo ro bc rc (flL s) ∧ O = outA s)
end Go.S
namespace Go.S
open Go Go.X
theorem askE_told {s : Sp} {week : Int} {p : Prop} [Decidable p] (hp : SpP s → (p ↔ Wi week 0 (s.weeks - 1))) : askE s p 11 = toldE s week := by
  unfold askE toldE TrueP
  by_cases hv : SpP s
  · have hq := hp hv
    by_cases h : p
    · have hw := hq.1 h
      by_cases ht : rnsL s (baseL s) = []
      · rw [if_neg (c := ¬SpP s) (fun hn => hn hv), if_neg (c := ¬SpP s) (fun hn => hn hv), if_neg (c := ¬p) (fun hn => hn h), if_neg (c := ¬Wi week 0 (s.weeks - 1)) (fun hn => hn hw), if_pos ht, if_neg (fun hn => hn ht)]
      · rw [if_neg (c := ¬SpP s) (fun hn => hn hv), if_neg (c := ¬SpP s) (fun hn => hn hv), if_neg (c := ¬p) (fun hn => hn h), if_neg (c := ¬Wi week 0 (s.weeks - 1)) (fun hn => hn hw), if_neg ht, if_pos ht]
    · have hw : ¬Wi week 0 (s.weeks - 1) := fun hn => h (hq.2 hn)
      rw [if_neg (c := ¬SpP s) (fun hn => hn hv), if_neg (c := ¬SpP s) (fun hn => hn hv), if_pos h, if_pos hw]
  · rw [if_pos hv, if_pos hv]
theorem outA_at {s : Sp} {week : Int} (h : toldE s week = 0) : Lo (outA s) week.toNat = givesLo s week ∧ Hi (outA s) week.toNat = givesHi s week := by
  obtain ⟨hv, hw, ht⟩ := toldE_valid h
  have h1 := hv.1; unfold HeadP at h1
  obtain ⟨a, b⟩ := mk20_at (oLo s.weeks.toNat (lvsL s (baseL s) (rnsL s (baseL s)))) (oHi s.weeks.toNat (lvsL s (baseL s) (rnsL s (baseL s)))) (w := week.toNat) (by omega)
  have hA : ¬(lvsL s (baseL s) (rnsL s (baseL s)) = [] ∨ s.weeks.toNat ≤ week.toNat) := by
    rintro (h | h)
    · exact ht (by simpa [lvsL] using h)
    · omega
  unfold outA outL
  rw [a, b, givesLo, givesHi, if_pos h, if_pos h, toldA, toldL_ok h, oLo, oHi, if_neg hA, if_neg hA]
  exact ⟨rfl, rfl⟩
end Go.S
