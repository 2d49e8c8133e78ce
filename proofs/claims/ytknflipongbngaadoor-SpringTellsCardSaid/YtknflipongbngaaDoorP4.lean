/- What the package spring asks of a spring: the plain words. Nothing of Go stands here. -/
import Derived.Test.YtknflipongbngaaDoorP3
namespace Go.S
def lastN (s : Sp) : Nat → Int
  | 0 => 0
  | k + 1 => (s.reads.getD k default).num
def ckP (s : Sp) : Nat → Prop
  | 0 => Wi s.weeks 1 10 ∧ (Wi s.most 0 100 ∧ Wi s.fall 0 100)
  | 1 => Spn s.a0 s.a1 1 600 ∧ Spn s.w0 s.w1 0 20
  | 2 => (s.book.length : Int) ≤ 8 ∧ (s.reads.length : Int) ≤ 12
  | 3 => BookP s
  | _ => ReadsP s
instance (s : Sp) : ∀ k, Decidable (ckP s k)
  | 0 => inferInstanceAs (Decidable (Wi s.weeks 1 10 ∧ (Wi s.most 0 100 ∧ Wi s.fall 0 100)))
  | 1 => inferInstanceAs (Decidable (Spn s.a0 s.a1 1 600 ∧ Spn s.w0 s.w1 0 20))
  | 2 => inferInstanceAs (Decidable ((s.book.length : Int) ≤ 8 ∧ (s.reads.length : Int) ≤ 12))
  | 3 => inferInstanceAs (Decidable (BookP s))
  | _ + 4 => inferInstanceAs (Decidable (ReadsP s))
theorem in_iff (l : List Int) (lo hi : Int) : (¬∃ k, k < l.length ∧ (l.getD k 0 < lo ∨ hi < l.getD k 0)) ↔ ∀ x ∈ l, Wi x lo hi := by
  constructor
  · intro h x hx
    obtain ⟨k, hk, rfl⟩ := List.getElem_of_mem hx
    refine Decidable.byContradiction fun hn => h ⟨k, hk, ?_⟩
    simp only [List.getD_eq_getElem?_getD, List.getElem?_eq_getElem hk, Option.getD_some]
    omega
  · rintro h ⟨k, hk, hc⟩
    have := h _ (List.getElem_mem hk)
    simp only [List.getD_eq_getElem?_getD, List.getElem?_eq_getElem hk, Option.getD_some] at hc
    omega
theorem book_iff (s : Sp) : (¬∃ k, k < s.book.length ∧ ¬LnP (s.book.getD k default) s.weeks) ↔ BookP s := by
  constructor
  · intro h i hi
    refine Decidable.byContradiction fun hn => h ⟨i, hi, ?_⟩
    simpa [hi] using hn
  · rintro h ⟨k, hk, hc⟩
    exact hc (by simpa [hk] using h k hk)
theorem reads_iff (s : Sp) : ReadsP s ↔ ∀ i, i < s.reads.length → RdP (s.reads.getD i default) s.weeks ∧ lastN s i < (s.reads.getD i default).num := by
  have hg : ∀ i (hi : i < s.reads.length), s.reads.getD i default = s.reads[i] := fun i hi => by simp [hi]
  constructor
  · intro h i hi
    have h1 := h i hi
    rw [hg i hi]
    refine ⟨h1.1, ?_⟩
    cases i with
    | zero => have := h1.1; simp only [lastN]; omega
    | succ i => have := h1.2 (by omega); simpa [lastN] using this
  · intro h i hi
    have h1 := h i hi
    rw [hg i hi] at h1
    refine ⟨h1.1, fun h0 => ?_⟩
    cases i with
    | zero => omega
    | succ i => simpa [lastN] using h1.2
theorem ck_iff (s : Sp) : SpP s ↔ ∀ k, k < 5 → ckP s k := by
  constructor
  · rintro ⟨h1, h2, h3⟩ k hk
    unfold HeadP at h1
    match k, hk with
    | 0, _ => simp only [ckP]; omega
    | 1, _ => simp only [ckP]; omega
    | 2, _ => simp only [ckP]; omega
    | 3, _ => exact h2
    | 4, _ => exact h3
  · intro h
    have h0 := h 0 (by omega); have h1 := h 1 (by omega); have h2 := h 2 (by omega)
    simp only [ckP] at h0 h1 h2
    refine ⟨?_, h 3 (by omega), h 4 (by omega)⟩
    unfold HeadP
    omega
end Go.S
