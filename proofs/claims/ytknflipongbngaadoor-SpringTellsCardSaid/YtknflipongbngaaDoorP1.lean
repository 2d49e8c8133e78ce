/- Springs, lines, readings: the plain words. Nothing of Go stands here. -/
namespace Go.S
structure Ln where
  (r0 r1 wk g0 g1 : Int)
  deriving DecidableEq, Inhabited
structure Rd where
  (num wk bu s0 s1 : Int)
  deriving DecidableEq, Inhabited
structure Sp where
  (weeks most fall a0 a1 w0 w1 : Int)
  book : List Ln
  reads : List Rd
  deriving DecidableEq, Inhabited

abbrev Wi (n lo hi : Int) : Prop := lo ≤ n ∧ n ≤ hi
/-- A span (a, b) of numbers from lo to hi. -/
abbrev Spn (a b lo hi : Int) : Prop := Wi b lo hi ∧ Wi a lo b
abbrev RdP (x : Rd) (weeks : Int) : Prop := (((Wi x.num 1 9999 ∧ Wi x.wk 0 (weeks - 1)) ∧ Wi x.bu 1 40) ∧ Spn x.s0 x.s1 0 99) ∧ 0 < x.s1
abbrev LnP (x : Ln) (weeks : Int) : Prop := (Spn x.r0 x.r1 0 20 ∧ Wi x.wk 0 (weeks - 1)) ∧ Spn x.g0 x.g1 0 100
def HeadP (s : Sp) : Prop := Wi s.weeks 1 10 ∧ Wi s.most 0 100 ∧ Wi s.fall 0 100 ∧ Spn s.a0 s.a1 1 600 ∧ Spn s.w0 s.w1 0 20 ∧ s.book.length ≤ 8 ∧ s.reads.length ≤ 12
def BookP (s : Sp) : Prop := ∀ i, (h : i < s.book.length) → LnP s.book[i] s.weeks
def ReadsP (s : Sp) : Prop := ∀ i, (h : i < s.reads.length) → RdP s.reads[i] s.weeks ∧ (0 < i → (s.reads.getD (i - 1) default).num < s.reads[i].num)
instance (s : Sp) : Decidable (HeadP s) := by unfold HeadP; infer_instance
instance (s : Sp) : Decidable (BookP s) := by unfold BookP; infer_instance
instance (s : Sp) : Decidable (ReadsP s) := by unfold ReadsP; infer_instance
/-- A valid spring. -/
def SpP (s : Sp) : Prop := HeadP s ∧ BookP s ∧ ReadsP s
instance (s : Sp) : Decidable (SpP s) := by unfold SpP; infer_instance
/-- A reading is true if it gives so much. -/
abbrev Right (s : Sp) (x : Rd) (n : Int) : Prop := (0 < n ∧ x.s0 * s.a0 * n ≤ 3600 * x.bu) ∧ 3600 * x.bu ≤ x.s1 * s.a1 * n
theorem mul3 {a b c A B D : Int} (h0 : 0 ≤ a) (h1 : a ≤ A) (h2 : 0 ≤ b) (h3 : b ≤ B) (h4 : 0 ≤ c) (h5 : c ≤ D) : 0 ≤ a * b ∧ a * b ≤ A * B ∧ 0 ≤ a * b * c ∧ a * b * c ≤ A * B * D := by
  have e1 : 0 ≤ a * b := Int.mul_nonneg h0 h2
  have e2 : a * b ≤ A * B := Int.mul_le_mul h1 h3 h2 (by omega)
  exact ⟨e1, e2, Int.mul_nonneg e1 h4, Int.mul_le_mul e2 h5 h4 (by omega)⟩
end Go.S
