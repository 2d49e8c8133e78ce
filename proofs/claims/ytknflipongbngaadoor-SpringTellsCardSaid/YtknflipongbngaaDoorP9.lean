/- What readings leave: both ways of reckoning. Nothing of Go stands here. -/
import Derived.Test.YtknflipongbngaaDoorP8
namespace Go.S
open Go.X (G)
theorem both_mem {a b c d n : Int} (h : a ≤ b ∨ (a = 1 ∧ b = 0)) : ((bothP a b c d).1 ≤ n ∧ n ≤ (bothP a b c d).2) ↔ ((a ≤ n ∧ n ≤ b) ∧ c ≤ n ∧ n ≤ d) := by
  unfold bothP
  split <;> simp only <;> omega
theorem both_mem' {a b c d n : Int} : ((bothP a b c d).1 ≤ n ∧ n ≤ (bothP a b c d).2) ↔ ((a ≤ n ∧ n ≤ b) ∧ c ≤ n ∧ n ≤ d) := by
  unfold bothP
  split <;> simp only <;> omega
/-- A reading's span is of the numbers with which it is true. -/
theorem reads_mem {s : Sp} {x : Rd} (h1 : Spn s.a0 s.a1 1 600) (h2 : Spn x.s0 x.s1 0 99) (h3 : Wi x.bu 1 40) (h4 : 0 < x.s1) {n : Int} (hn : 0 ≤ n ∧ n ≤ s.most) : ((readsP s x).1 ≤ n ∧ n ≤ (readsP s x).2) ↔ Right s x n := by
  have hs : 0 < x.s1 * s.a1 := Int.mul_pos h4 (by omega)
  have hq : 0 ≤ x.s0 * s.a0 := Int.mul_nonneg (by omega) (by omega)
  unfold readsP
  rw [both_mem']
  have e1 : (3600 * x.bu + x.s1 * s.a1 - 1) / (x.s1 * s.a1) ≤ n ↔ 3600 * x.bu ≤ x.s1 * s.a1 * n := by
    rw [← Int.lt_add_one_iff, Int.ediv_lt_iff_lt_mul hs, Int.add_mul, Int.one_mul, Int.mul_comm n]
    generalize x.s1 * s.a1 * n = p
    generalize x.s1 * s.a1 = q
    omega
  have e2 : n ≤ (if 0 < x.s0 * s.a0 then min s.most (3600 * x.bu / (x.s0 * s.a0)) else s.most) ↔ x.s0 * s.a0 * n ≤ 3600 * x.bu := by
    split
    · rename_i hp
      have e3 : n ≤ 3600 * x.bu / (x.s0 * s.a0) ↔ x.s0 * s.a0 * n ≤ 3600 * x.bu := by
        rw [Int.le_ediv_iff_mul_le hp, Int.mul_comm n]
      rw [← e3]
      omega
    · have : x.s0 * s.a0 = 0 := by omega
      rw [this, Int.zero_mul]
      omega
  have e4 : 3600 * x.bu ≤ x.s1 * s.a1 * n → 0 < n := by
    intro h
    refine Decidable.byContradiction fun hn0 => ?_
    have : n = 0 := by omega
    rw [this, Int.mul_zero] at h
    omega
  constructor
  · rintro ⟨⟨a, b⟩, _⟩
    exact ⟨⟨e4 (e1.1 a), e2.1 b⟩, e1.1 a⟩
  · rintro ⟨⟨_, a⟩, b⟩
    exact ⟨⟨e1.2 b, e2.2 a⟩, hn.1, hn.2⟩
theorem okTo_succ' {s : Sp} {w : Nat} {n : Int} {i : Nat} (hlt : i < s.reads.length) : OkTo s w n (i + 1) ↔ (OkTo s w n i ∧ ((s.reads.getD i default).wk ≠ w ∨ Right s (s.reads.getD i default) n)) := by
  have he : s.reads.getD i default = s.reads[i] := by simp [hlt]
  rw [he]
  constructor
  · intro h
    exact ⟨fun k hk h' => h k (by omega) h', h i (by omega) hlt⟩
  · rintro ⟨h1, h2⟩ k hk h
    by_cases e : k = i
    · subst e; exact h2
    · exact h1 k (by omega) h
theorem fl0_at {s : Sp} : ∀ k, k ≤ 10 → ∀ w, w < 10 → Lo (fl0 s k) w = 0 ∧ Hi (fl0 s k) w = (if w < k then s.most else 0)
  | 0, _, w, hw => by
    have h : ∀ i, i < 10 → G (List.replicate 20 (0 : Int)) (i * 2) = 0 ∧ G (List.replicate 20 (0 : Int)) (i * 2 + 1) = 0 := by decide
    have := h w hw
    simp only [fl0, Lo, Hi, this.1, this.2]
    simp
  | k + 1, hk, w, hw => by
    have ih := fl0_at (s := s) k (by omega) w hw
    obtain ⟨h1, h2⟩ := set2_at (fl0_len s k) (i := k) (j := w) (by omega) hw (0, s.most)
    simp only [fl0, h1, h2]
    by_cases e : k = w
    · subst e; rw [if_pos rfl, if_pos rfl, if_pos (by omega)]; exact ⟨rfl, rfl⟩
    · rw [if_neg e, if_neg e, ih.1, ih.2]
      refine ⟨rfl, ?_⟩
      by_cases e2 : w < k
      · rw [if_pos e2, if_pos (by omega)]
      · rw [if_neg e2, if_neg (by omega)]
theorem flTo_mem {s : Sp} (hv : SpP s) : ∀ k, k ≤ s.reads.length → ∀ w, w < s.weeks.toNat → (∀ n : Int, 0 ≤ n → n ≤ s.most → (OkTo s w n k ↔ (Lo (flTo s k) w ≤ n ∧ n ≤ Hi (flTo s k) w))) ∧ (Lo (flTo s k) w ≤ Hi (flTo s k) w → 0 ≤ Lo (flTo s k) w ∧ Hi (flTo s k) w ≤ s.most)
  | 0, _, w, hw => by
    have h1 := hv.1; unfold HeadP at h1
    obtain ⟨a, b⟩ := fl0_at (s := s) s.weeks.toNat (by omega) w (by omega)
    rw [if_pos hw] at b
    simp only [flTo, a, b]
    refine ⟨fun n h0 h1 => ⟨fun _ => ⟨h0, h1⟩, fun _ i hi => absurd hi (Nat.not_lt_zero _)⟩, fun _ => ⟨Int.le_refl _, Int.le_refl _⟩⟩
  | k + 1, hk, w, hw => by
    have h1 := hv.1; unfold HeadP at h1
    obtain ⟨i1, i2⟩ := flTo_mem hv k (by omega) w hw
    have hr := ((reads_iff s).1 hv.2.2 k (by omega)).1
    obtain ⟨a, b⟩ := set2_at (flTo_len s k) (i := (s.reads.getD k default).wk.toNat) (j := w) (by omega) (by omega) (bothP (Lo (flTo s k) (s.reads.getD k default).wk.toNat) (Hi (flTo s k) (s.reads.getD k default).wk.toNat) (readsP s (s.reads.getD k default)).1 (readsP s (s.reads.getD k default)).2)
    simp only [flTo, a, b]
    by_cases e : (s.reads.getD k default).wk.toNat = w
    · rw [if_pos e, if_pos e, e]
      refine ⟨fun n h0 hm => ?_, fun hne => ?_⟩
      · rw [okTo_succ' (by omega), both_mem', i1 n h0 hm, reads_mem h1.2.2.2.1 (by omega) (by omega) (by omega) ⟨h0, hm⟩]
        have : (s.reads.getD k default).wk = (w : Int) := by omega
        constructor
        · rintro ⟨p, q⟩
          exact ⟨p, q.resolve_left (fun hh => hh this)⟩
        · rintro ⟨p, q⟩
          exact ⟨p, .inr q⟩
      · have := both_sub hne
        have := i2 (by omega)
        omega
    · rw [if_neg e, if_neg e]
      refine ⟨fun n h0 hm => ?_, i2⟩
      rw [okTo_succ' (by omega), i1 n h0 hm]
      have : (s.reads.getD k default).wk ≠ (w : Int) := by omega
      constructor
      · rintro ⟨p, _⟩; exact p
      · intro p; exact ⟨p, .inl this⟩
theorem okP_iff {s : Sp} {w : Nat} {n : Int} : OkP s w n ↔ OkTo s w n s.reads.length := ⟨fun h i _ h' => h i h', fun h i h' => h i h' h'⟩
/-- What week w comes to, number by number: the least and the greatest that are right. -/
theorem weekTo_mem {s : Sp} (hm : Wi s.most 0 100) {L : List Int} (hL : L.length = 20) {w : Nat} (hw : w < 10) {lo hi : Int} (hok : ∀ n : Int, 0 ≤ n → n ≤ s.most → (OkP s w n ↔ (lo ≤ n ∧ n ≤ hi))) (hb : lo ≤ hi → 0 ≤ lo ∧ hi ≤ s.most) :
    ∀ j, j ≤ s.most.toNat + 1 → (weekTo s L w j).length = 20 ∧ (∀ v, v < 10 → v ≠ w → G (weekTo s L w j) v = G L v ∧ G (weekTo s L w j) (10 + v) = G L (10 + v)) ∧
      ((lo ≤ hi ∧ lo < j ∧ G (weekTo s L w j) w = lo ∧ G (weekTo s L w j) (10 + w) = min hi (j - 1)) ∨ ((¬lo ≤ hi ∨ (j : Int) ≤ lo) ∧ G (weekTo s L w j) w = s.most + 1 ∧ G (weekTo s L w j) (10 + w) = -1))
  | 0, _ => by
    have a := fun (v : Nat) (hv : v < 10) => setA_at hL hw hv (s.most + 1) (-1)
    refine ⟨by simp [weekTo, hL], fun v hv hne => ?_, .inr ⟨?_, ?_, ?_⟩⟩
    · have := a v hv
      simp only [weekTo]
      rw [this.1, this.2, if_neg (Ne.symm hne), if_neg (Ne.symm hne)]; exact ⟨rfl, rfl⟩
    · by_cases e : lo ≤ hi
      · right; have := hb e; omega
      · exact .inl e
    · simp only [weekTo]; rw [(a w hw).1, if_pos rfl]
    · simp only [weekTo]; rw [(a w hw).2, if_pos rfl]
  | j + 1, hj => by
    obtain ⟨i1, i2, i3⟩ := weekTo_mem hm hL hw hok hb j (by omega)
    have hokj := hok j (by omega) (by omega)
    simp only [weekTo, bstep]
    by_cases hc : OkP s w j
    · rw [if_pos hc]
      have a := fun (v : Nat) (hv : v < 10) => setA_at i1 hw hv (min (G (weekTo s L w j) w) (j : Int)) (j : Int)
      have hin := hokj.1 hc
      refine ⟨by simp [i1], fun v hv hne => ?_, ?_⟩
      · have := a v hv
        rw [this.1, this.2, if_neg (Ne.symm hne), if_neg (Ne.symm hne)]; exact i2 v hv hne
      · rw [(a w hw).1, (a w hw).2, if_pos rfl, if_pos rfl]
        left
        rcases i3 with ⟨p1, p2, p3, p4⟩ | ⟨p1, p2, p3⟩
        · rw [p3]; omega
        · rw [p2]; omega
    · rw [if_neg hc]
      refine ⟨i1, i2, ?_⟩
      have hin : ¬(lo ≤ (j : Int) ∧ (j : Int) ≤ hi) := fun h => hc (hokj.2 h)
      rcases i3 with ⟨p1, p2, p3, p4⟩ | ⟨p1, p2, p3⟩
      · left; rw [p3, p4]; omega
      · by_cases e : lo ≤ hi
        · right
          refine ⟨.inr ?_, p2, p3⟩
          omega
        · exact .inr ⟨.inl e, p2, p3⟩
theorem base_rel {s : Sp} (hv : SpP s) : ∀ k, k ≤ s.weeks.toNat → (baseTo s k).length = 20 ∧ (∀ w, w < k → ((Lo (flL s) w = G (baseTo s k) w ∧ Hi (flL s) w = G (baseTo s k) (10 + w)) ∨ (Hi (flL s) w < Lo (flL s) w ∧ G (baseTo s k) (10 + w) < G (baseTo s k) w))) ∧ (∀ w, w < 10 → k ≤ w → G (baseTo s k) w = 0 ∧ G (baseTo s k) (10 + w) = 0)
  | 0, _ => by
    refine ⟨by simp [baseTo], fun w hw => absurd hw (Nat.not_lt_zero _), fun w hw _ => ?_⟩
    have h : ∀ i, i < 10 → G (List.replicate 20 (0 : Int)) i = 0 ∧ G (List.replicate 20 (0 : Int)) (10 + i) = 0 := by decide
    exact h w hw
  | k + 1, hk => by
    have h1 := hv.1; unfold HeadP at h1
    obtain ⟨i1, i2, i3⟩ := base_rel hv k (by omega)
    obtain ⟨m1, m2⟩ := flTo_mem hv s.reads.length (Nat.le_refl _) k (by omega)
    obtain ⟨w1, w2, w3⟩ := weekTo_mem h1.2.1 i1 (w := k) (by omega) (lo := Lo (flL s) k) (hi := Hi (flL s) k) (fun n h0 hm => by rw [okP_iff]; exact m1 n h0 hm) m2 (s.most.toNat + 1) (Nat.le_refl _)
    refine ⟨w1, fun w hw => ?_, fun w h10 hw => ?_⟩
    · simp only [baseTo]
      by_cases e : w = k
      · subst e
        rcases w3 with ⟨p1, p2, p3, p4⟩ | ⟨p1, p2, p3⟩
        · left
          rw [p3, p4]
          have := m2 p1
          have : Hi (flL s) w ≤ s.most := this.2
          omega
        · right
          rw [p2, p3]
          refine ⟨?_, by omega⟩
          rcases p1 with p1 | p1
          · omega
          · refine Decidable.byContradiction fun hne => ?_
            have h5 : Lo (flL s) w ≤ Hi (flL s) w := by omega
            have h6 := m2 h5
            have h7 : 0 ≤ Lo (flL s) w ∧ Hi (flL s) w ≤ s.most := h6
            omega
      · have := w2 w (by omega) e
        rw [this.1, this.2]
        exact i2 w (by omega)
    · simp only [baseTo]
      have := w2 w h10 (by omega)
      rw [this.1, this.2]
      exact i3 w h10 (by omega)
theorem flTo_rest {s : Sp} (hv : SpP s) : ∀ k, k ≤ s.reads.length → ∀ w, w < 10 → s.weeks.toNat ≤ w → Lo (flTo s k) w = 0 ∧ Hi (flTo s k) w = 0
  | 0, _, w, h10, hw => by
    have h1 := hv.1; unfold HeadP at h1
    obtain ⟨a, b⟩ := fl0_at (s := s) s.weeks.toNat (by omega) w h10
    rw [if_neg (by omega)] at b
    exact ⟨a, b⟩
  | k + 1, hk, w, h10, hw => by
    have h1 := hv.1; unfold HeadP at h1
    have ih := flTo_rest hv k (by omega) w h10 hw
    have hr := ((reads_iff s).1 hv.2.2 k (by omega)).1
    obtain ⟨a, b⟩ := set2_at (flTo_len s k) (i := (s.reads.getD k default).wk.toNat) (j := w) (by omega) h10 (bothP (Lo (flTo s k) (s.reads.getD k default).wk.toNat) (Hi (flTo s k) (s.reads.getD k default).wk.toNat) (readsP s (s.reads.getD k default)).1 (readsP s (s.reads.getD k default)).2)
    simp only [flTo, a, b]
    rw [if_neg (by omega), if_neg (by omega)]
    exact ih
/-- R and L say the same of a valid spring's weeks. -/
structure RelW (s : Sp) (R L : List Int) : Prop where
  lr : R.length = 20
  ll : Bd L
  sb : Sb R
  rel : RelC s.weeks.toNat R L
  rest : ∀ w, w < 10 → s.weeks.toNat ≤ w → Lo R w = G L w ∧ Hi R w = G L (10 + w)
theorem relW {s : Sp} (hv : SpP s) : RelW s (flL s) (baseL s) := by
  obtain ⟨a, b, c⟩ := base_rel hv s.weeks.toNat (Nat.le_refl _)
  refine ⟨flTo_len s _, baseL_Bd hv, flTo_sb hv _ (Nat.le_refl _), b, fun w h10 hw => ?_⟩
  have d := c w h10 hw
  have e := flTo_rest hv s.reads.length (Nat.le_refl _) w h10 hw
  unfold baseL
  rw [d.1, d.2]
  exact e
end Go.S
