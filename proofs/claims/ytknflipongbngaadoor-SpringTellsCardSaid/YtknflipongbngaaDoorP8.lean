/- Both ways of reckoning what readings, lines and a rain leave. Nothing of Go stands here. -/
import Derived.Test.YtknflipongbngaaDoorP7
namespace Go.S
open Go.X (G)
/-- The same spans, or none on both sides. -/
def RelC (n : Nat) (R L : List Int) : Prop := ∀ w, w < n → (Lo R w = G L w ∧ Hi R w = G L (10 + w)) ∨ (Hi R w < Lo R w ∧ G L (10 + w) < G L w)
theorem RelC.tr {n : Nat} {f : Int} {R L : List Int} (h : RelC n R L) (t : Nat → Int) : Tr n f (Lo R) (Hi R) t ↔ Tr n f (fun w => G L w) (fun w => G L (10 + w)) t := by
  constructor
  · intro ht w hw
    have h1 := ht w hw
    refine ⟨?_, ?_, h1.2.2⟩ <;> rcases h w hw with ⟨a, b⟩ | ⟨a, b⟩ <;> simp only <;> omega
  · intro ht w hw
    have h1 := ht w hw
    simp only at h1
    refine ⟨?_, ?_, h1.2.2⟩ <;> rcases h w hw with ⟨a, b⟩ | ⟨a, b⟩ <;> omega
/-- Lines, as the package spring reckons them. -/
def slTo (s : Sp) (R : List Int) (rain : Int) : Nat → List Int
  | 0 => R
  | k + 1 => let x := s.book.getD k default
    if Wi rain x.r0 x.r1 then set2 (slTo s R rain k) x.wk.toNat (bothP (Lo (slTo s R rain k) x.wk.toNat) (Hi (slTo s R rain k) x.wk.toNat) x.g0 x.g1) else slTo s R rain k
@[simp] theorem slTo_len (s : Sp) (R : List Int) (rain : Int) : ∀ k, (slTo s R rain k).length = R.length
  | 0 => rfl
  | k + 1 => by
    have ih := slTo_len s R rain k
    simp only [slTo]
    split <;> simp [ih]
theorem bookD {s : Sp} (hb : BookP s) {k : Nat} (hk : k < s.book.length) : LnP (s.book.getD k default) s.weeks := by
  simpa [hk] using hb k hk
theorem slTo_sb {s : Sp} (hv : SpP s) {R : List Int} (hR : R.length = 20) (hS : Sb R) (rain : Int) : ∀ k, k ≤ s.book.length → Sb (slTo s R rain k)
  | 0, _ => hS
  | k + 1, hk => by
    have ih := slTo_sb hv hR hS rain k (by omega)
    have h1 := hv.1; unfold HeadP at h1
    have hl := bookD hv.2.1 (k := k) (by omega)
    simp only [slTo]
    split
    · exact ih.set (by simp [hR]) (by omega) (bothP_sb (ih _ (by omega)))
    · exact ih
theorem linesTo_len {s : Sp} {L : List Int} (rain : Int) : ∀ k, (linesTo s L rain k).length = L.length
  | 0 => rfl
  | k + 1 => by
    have ih := linesTo_len (s := s) (L := L) rain k
    simp only [linesTo]
    split
    · simp only [lineStep]
      split <;> simp [ih]
    · exact ih
theorem lines_rel {s : Sp} (hv : SpP s) {R L : List Int} (hR : R.length = 20) (hL : L.length = 20) (hS : Sb R) (h : RelC s.weeks.toNat R L) (h0 : ∀ w, w < 10 → s.weeks.toNat ≤ w → Lo R w = G L w ∧ Hi R w = G L (10 + w)) (rain : Int) :
    ∀ k, k ≤ s.book.length → RelC s.weeks.toNat (slTo s R rain k) (linesTo s L rain k) ∧ (∀ w, w < 10 → s.weeks.toNat ≤ w → Lo (slTo s R rain k) w = G (linesTo s L rain k) w ∧ Hi (slTo s R rain k) w = G (linesTo s L rain k) (10 + w))
  | 0, _ => ⟨h, h0⟩
  | k + 1, hk => by
    obtain ⟨i1, i2⟩ := lines_rel hv hR hL hS h h0 rain k (by omega)
    have h1 := hv.1; unfold HeadP at h1
    have hl := bookD hv.2.1 (k := k) (by omega)
    have hsb := slTo_sb hv hR hS rain k (by omega)
    have he : s.book[k]? = some (s.book.getD k default) := by simp [show k < s.book.length by omega]
    simp only [slTo, linesTo, he, lineStep]
    by_cases hc : Wi rain (s.book.getD k default).r0 (s.book.getD k default).r1
    · rw [if_pos hc, if_pos hc]
      have a1 := fun (j : Nat) (hj : j < 10) => set2_at (M := slTo s R rain k) (by simp [hR]) (i := (s.book.getD k default).wk.toNat) (j := j) (by omega) hj (bothP (Lo (slTo s R rain k) (s.book.getD k default).wk.toNat) (Hi (slTo s R rain k) (s.book.getD k default).wk.toNat) (s.book.getD k default).g0 (s.book.getD k default).g1)
      have a2 := fun (j : Nat) (hj : j < 10) => setA_at (M := linesTo s L rain k) (by rw [linesTo_len]; exact hL) (i := (s.book.getD k default).wk.toNat) (j := j) (by omega) hj (max (G (linesTo s L rain k) (s.book.getD k default).wk.toNat) (s.book.getD k default).g0) (min (G (linesTo s L rain k) (10 + (s.book.getD k default).wk.toNat)) (s.book.getD k default).g1)
      refine ⟨fun w hw => ?_, fun w h10 hw => ?_⟩
      · have b1 := a1 w (by omega); have b2 := a2 w (by omega)
        rw [b1.1, b1.2, b2.1, b2.2]
        by_cases e : (s.book.getD k default).wk.toNat = w
        · rw [if_pos e, if_pos e, if_pos e, if_pos e, e]
          have hr := i1 w hw
          have hs := hsb w (by omega)
          unfold bothP
          split <;> simp only <;> omega
        · rw [if_neg e, if_neg e, if_neg e, if_neg e]
          exact i1 w hw
      · have b1 := a1 w h10; have b2 := a2 w h10
        rw [b1.1, b1.2, b2.1, b2.2, if_neg (by omega), if_neg (by omega), if_neg (by omega), if_neg (by omega)]
        exact i2 w h10 hw
    · rw [if_neg hc, if_neg hc]
      exact ⟨i1, i2⟩
/-- Ends beside each other. -/
def ilv (X : List Int) : List Int := (List.range 20).map fun i => if i % 2 = 0 then G X (i / 2) else G X (10 + i / 2)
@[simp] theorem ilv_len (X : List Int) : (ilv X).length = 20 := by simp [ilv]
theorem ilv_at (X : List Int) {w : Nat} (hw : w < 10) : Lo (ilv X) w = G X w ∧ Hi (ilv X) w = G X (10 + w) := by
  unfold Lo Hi ilv
  constructor
  · have : w * 2 < 20 := by omega
    simp [G, this]
  · have h1 : w * 2 + 1 < 20 := by omega
    have h2 : (w * 2 + 1) % 2 = 1 := by omega
    have h3 : (w * 2 + 1) / 2 = w := by omega
    simp [G, h1, h2, h3]
/-- **What the package spring comes to is what the reference comes to.** -/
theorem after_ok {s : Sp} (hv : SpP s) {R L : List Int} (hR : R.length = 20) (hL : L.length = 20) (hS : Sb R) (h : RelC s.weeks.toNat R L) (h0 : ∀ w, w < 10 → s.weeks.toNat ≤ w → Lo R w = G L w ∧ Hi R w = G L (10 + w)) (rain : Int) :
    (∀ M, KeepP s.weeks.toNat s.fall (slTo s R rain s.book.length) M → Stp s.weeks.toNat s.fall (Lo M) (Hi M) → (∀ w, w < s.weeks.toNat → Lo M w ≤ Hi M w) → lvB s L rain ∧ M = ilv (lvL s L rain)) ∧
    (∀ M, KeepP s.weeks.toNat s.fall (slTo s R rain s.book.length) M → ∀ w, w < s.weeks.toNat → NoneAt M w → ¬lvB s L rain) := by
  have h1 := hv.1; unfold HeadP at h1
  obtain ⟨r1, r2⟩ := lines_rel hv hR hL hS h h0 rain s.book.length (Nat.le_refl _)
  have hC : (linesTo s L rain s.book.length).length = 20 := by rw [linesTo_len]; exact hL
  have href : RefP s.weeks.toNat s.fall (linesTo s L rain s.book.length) (lvL s L rain) := ref_ok hC (by omega) (by omega) (by omega)
  have hlv : lvB s L rain → Tr s.weeks.toNat s.fall (fun w => G (linesTo s L rain s.book.length) w) (fun w => G (linesTo s L rain s.book.length) (10 + w)) (fun w => G (lvL s L rain) w) ∧ Tr s.weeks.toNat s.fall (fun w => G (linesTo s L rain s.book.length) w) (fun w => G (linesTo s L rain s.book.length) (10 + w)) (fun w => G (lvL s L rain) (10 + w)) :=
    fun hb => ends_true href.stp (fun w hw => href.sub w (by omega)) hb
  have hno : ∀ t, Tr s.weeks.toNat s.fall (fun w => G (linesTo s L rain s.book.length) w) (fun w => G (linesTo s L rain s.book.length) (10 + w)) t → lvB s L rain := fun t ht w hw => by
    have := href.wn t ht w hw
    simp only at this
    omega
  refine ⟨fun M hM hst hne => ?_, fun M hM w hw hN hb => hM.none hw hN ⟨_, (r1.tr _).2 (hlv hb).1⟩⟩
  have hMt := ends_true (lo := Lo (slTo s R rain s.book.length)) (hi := Hi (slTo s R rain s.book.length)) hst (fun w hw => hM.sub w hw (hne w hw)) hne
  have hMt' := And.intro ((r1.tr _).1 hMt.1) ((r1.tr _).1 hMt.2)
  have hb := hno _ hMt'.1
  refine ⟨hb, ?_⟩
  have hwn : Wn s.weeks.toNat s.fall (fun w => G (linesTo s L rain s.book.length) w) (fun w => G (linesTo s L rain s.book.length) (10 + w)) (Lo M) (Hi M) := fun t ht => hM.wn t ((r1.tr t).2 ht)
  have hu := hull_unique hwn href.wn hMt' (hlv hb)
  refine list_ext20 hM.len (by simp) fun w hw => ?_
  obtain ⟨e1, e2⟩ := ilv_at (lvL s L rain) hw
  rw [e1, e2]
  by_cases hwn2 : w < s.weeks.toNat
  · exact hu w hwn2
  · have a := hM.rest w hw (by omega); have b := r2 w hw (by omega); have c := href.rest w hw (by omega)
    rw [a.1, a.2, b.1, b.2]
    exact ⟨c.1.symm, c.2.symm⟩
theorem keep_start {n : Nat} {f : Int} {C : List Int} (hl : C.length = 20) (hS : Sb C) : KeepP n f C C := ⟨hl, hS, fun w _ _ => ⟨Int.le_refl _, Int.le_refl _⟩, fun t ht w hw => ⟨(ht w hw).1, (ht w hw).2.1⟩, fun w _ _ => ⟨rfl, rfl⟩⟩
end Go.S
