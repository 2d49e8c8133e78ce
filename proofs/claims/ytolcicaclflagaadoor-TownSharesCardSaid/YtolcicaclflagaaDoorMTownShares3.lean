/- Texts of the proof, merged: T14, TD5, KT2, S1, S2, S3, S4, S5, S6, U1. -/
import Derived.Test.YtolcicaclflagaaDoorMTownShares2
/- The pulls: who draws how much from where. Nothing of Go stands here. -/
namespace Go.T
open Go.S
theorem opnB_draws {u v : Su} (hd : ∀ j, (u.streets.getD j default).draws = (v.streets.getD j default).draws) (b : Nat) (d : Int) (k : Nat) : opnB u b d k ↔ opnB v b d k := by
  rw [opens_iff, opens_iff]; simp only [hd]
theorem CanP.draws {u v : Su} {w l : List Int} (hf : u.founts = v.founts) (hn : u.streets.length = v.streets.length) (hd : ∀ j, (u.streets.getD j default).draws = (v.streets.getD j default).draws) (h : CanP u w l) : CanP v w l := by
  have e : ∀ b k, thrTo u b w k = thrTo v b w k := fun b k => by
    induction k with
    | zero => rfl
    | succ k ih => simp only [thrTo]; rw [ih, hf, hn]; simp only [opnB_draws hd]
  intro b hb
  have h1 := h b hb
  unfold thr at *
  rw [← hf, ← e]; exact h1
theorem getD_out {l : List Int} {j : Nat} (h : l.length ≤ j) : l.getD j 0 = 0 := by
  rw [List.getD_eq_getElem?_getD, List.getElem?_eq_none h]; rfl
/-- Who gets nothing may draw from anywhere. -/
theorem canP_zk {w l : List Int} (hw : ∀ k, 0 ≤ w.getD k 0) : ∀ (k : Nat) {u v : Su}, u.founts = v.founts → u.streets.length = v.streets.length → l.length = u.streets.length →
    (∀ j, k ≤ j → (u.streets.getD j default).draws = (v.streets.getD j default).draws) → (∀ j, l.getD j 0 ≠ 0 → (u.streets.getD j default).draws = (v.streets.getD j default).draws) → CanP u w l → CanP v w l
  | 0, u, v, hf, hn, _, ha, _, h => h.draws hf hn fun j => ha j (Nat.zero_le _)
  | k + 1, u, v, hf, hn, hl, ha, hz, h => by
    by_cases hk : k < u.streets.length
    · by_cases h0 : l.getD k 0 = 0
      · refine canP_zk hw k (u := withD u k (v.streets.getD k default).draws) hf ((withD_len _ _ _).trans hn) (hl.trans (withD_len _ _ _).symm) (fun j hj => ?_) (fun j hj => ?_) (h.any_draws _ hk hl hw h0)
        · by_cases e : j = k
          · subst e; exact withD_at _ hk
          · rw [withD_ne _ e]; exact ha j (by omega)
        · by_cases e : j = k
          · subst e; exact absurd h0 hj
          · rw [withD_ne _ e]; exact hz j hj
      · exact canP_zk hw k hf hn hl (fun j hj => by
          by_cases e : j = k
          · subst e; exact hz j h0
          · exact ha j (by omega)) hz h
    · exact canP_zk hw k hf hn hl (fun j hj => by
        rw [List.getD_eq_getElem?_getD, List.getElem?_eq_none (by omega), List.getD_eq_getElem?_getD, List.getElem?_eq_none (by omega)]) hz h
theorem canP_z {u v : Su} {w l : List Int} (hw : ∀ k, 0 ≤ w.getD k 0) (hf : u.founts = v.founts) (hn : u.streets.length = v.streets.length) (hl : l.length = u.streets.length)
    (hz : ∀ j, l.getD j 0 ≠ 0 → (u.streets.getD j default).draws = (v.streets.getD j default).draws) : CanP u w l ↔ CanP v w l :=
  ⟨canP_zk hw u.streets.length hf hn hl (fun j hj => by
      rw [List.getD_eq_getElem?_getD, List.getElem?_eq_none (by omega), List.getD_eq_getElem?_getD, List.getElem?_eq_none (by omega)]) hz,
   canP_zk hw u.streets.length hf.symm hn.symm (hl.trans hn) (fun j hj => by
      rw [List.getD_eq_getElem?_getD, List.getElem?_eq_none (by omega), List.getD_eq_getElem?_getD, List.getElem?_eq_none (by omega)]) fun j hj => (hz j hj).symm⟩
theorem sumTo_one (i : Nat) (l : List Int) : ∀ k, sumTo (2 ^ i) l k = if i < k then l.getD i 0 else 0
  | 0 => rfl
  | k + 1 => by
    have ih := sumTo_one i l k
    have ht : hasI (2 ^ i) k ↔ i = k := by
      have : hasI (2 ^ i) k ↔ (2 ^ i).testBit k = true := by rw [Nat.testBit_eq_decide_div_mod_eq]; simp
      rw [this, Nat.testBit_two_pow]; simp
    simp only [sumTo]; rw [ih]
    by_cases e : i = k
    · subst e; rw [if_pos (ht.2 rfl), if_neg (by omega), if_pos (by omega)]; omega
    · rw [if_neg (fun h => e (ht.1 h))]
      by_cases h : i < k
      · rw [if_pos h, if_pos (by omega)]
      · rw [if_neg h, if_neg (by omega)]
/-- A street that draws from nowhere gets nothing. -/
theorem canP_nil {u : Su} {w l : List Int} {i : Nat} (hl : l.length = u.streets.length) (hi : i < u.streets.length) (hd : (u.streets.getD i default).draws = []) (h : CanP u w l) : l.getD i 0 ≤ 0 := by
  have h1 := h (2 ^ i) (Nat.pow_lt_pow_right (by omega) (by omega))
  have ho : ∀ d, ¬opnB u (2 ^ i) d u.streets.length := fun d hx => by
    rw [opens_iff] at hx
    obtain ⟨j, _, h3, h4⟩ := hx
    have : i = j := by
      have ht : (2 ^ i).testBit j = true := by rw [Nat.testBit_eq_decide_div_mod_eq]; simpa using h3
      rw [Nat.testBit_two_pow] at ht; simpa using ht
    subst this; rw [hd] at h4; cases h4
  have e : ∀ k, thrTo u (2 ^ i) w k = 0 := fun k => by
    induction k with
    | zero => rfl
    | succ k ih => simp only [thrTo]; rw [if_neg (ho _), ih]
  unfold sumB thr at h1
  rw [sumTo_one, if_pos (by omega), e] at h1; exact h1
/-! ### the largest of those up to a number -/
def lgst (P : Nat → Prop) [DecidablePred P] : Nat → Nat
  | 0 => 0
  | m + 1 => if P (m + 1) then m + 1 else lgst P m
def bst (P : Nat → Prop) [DecidablePred P] : Nat → Int
  | 0 => -1
  | k + 1 => if P k then k else bst P k
section
variable {P : Nat → Prop} [DecidablePred P]
theorem lgst_le : ∀ m, lgst P m ≤ m
  | 0 => Nat.le_refl _
  | m + 1 => by have := lgst_le m; simp only [lgst]; split <;> omega
theorem lgst_ok {n : Nat} (hp : P n) : ∀ m, n ≤ m → P (lgst P m)
  | 0, h => by obtain rfl : n = 0 := by omega
               exact hp
  | m + 1, h => by
    simp only [lgst]; split
    · assumption
    · rename_i hm
      by_cases e : n = m + 1
      · subst e; exact absurd hp hm
      · exact lgst_ok hp m (by omega)
theorem lgst_self {n : Nat} (h : n = 0 ∨ P n) : lgst P n = n := by
  cases n with
  | zero => rfl
  | succ n => rcases h with h | h
              · omega
              · exact if_pos h
theorem bst_max : ∀ m, max 0 (bst P (m + 1)) = (lgst P m : Int)
  | 0 => by simp only [bst, lgst]; split <;> omega
  | m + 1 => by
    have ih := bst_max m
    rw [bst, lgst]; split
    · omega
    · exact ih
end
theorem lgst_congr {P Q : Nat → Prop} [DecidablePred P] [DecidablePred Q] : ∀ m, (∀ n, n ≤ m → (P n ↔ Q n)) → lgst P m = lgst Q m
  | 0, _ => rfl
  | m + 1, h => by
    have e := h (m + 1) (Nat.le_refl _)
    have ih := lgst_congr m fun n hn => h n (by omega)
    simp only [lgst]; rw [ih]; simp only [e]
/-! ### the pulls -/
structure Pul where
  (street fount n : Int)
  deriving DecidableEq, Inhabited
structure PS where
  (w l : List Int)
  out : List Pul
/-- What a street draws from behind its first k. -/
abbrev dropD (u : Su) (i k : Nat) : List Int := (u.streets.getD i default).draws.drop k
abbrev drawI (u : Su) (i k : Nat) : Int := (u.streets.getD i default).draws.getD k 0
abbrev fouN (u : Su) (i k : Nat) : Nat := (fountI u (drawI u i k)).toNat
abbrev PullP (u : Su) (i k : Nat) (w l : List Int) (n : Nat) : Prop := CanP (withD u i (dropD u i (k + 1))) (w.set (fouN u i k) (w.getD (fouN u i k) 0 - n)) (l.set i (l.getD i 0 - n))
def pulN (u : Su) (i k : Nat) (w l : List Int) : Nat := lgst (PullP u i k w l) (min (l.getD i 0) (w.getD (fouN u i k) 0)).toNat
def pull1 (u : Su) (i k : Nat) (s : PS) : PS :=
  let n := pulN u i k s.w s.l
  ⟨s.w.set (fouN u i k) (s.w.getD (fouN u i k) 0 - n), s.l.set i (s.l.getD i 0 - n), if n = 0 then s.out else s.out ++ [⟨(u.streets.getD i default).id, drawI u i k, n⟩]⟩
def pulD (u : Su) (i : Nat) (s : PS) : Nat → PS
  | 0 => s
  | k + 1 => pull1 u i k (pulD u i s k)
def pulS (u : Su) (s : PS) : Nat → PS
  | 0 => s
  | i + 1 => pulD u i (pulS u s i) (u.streets.getD i default).draws.length
structure PI (u : Su) (i k : Nat) (s : PS) : Prop where
  lw : s.w.length = u.founts.length
  ll : s.l.length = u.streets.length
  w_ : ∀ j, 0 ≤ s.w.getD j 0 ∧ s.w.getD j 0 ≤ 100
  l_ : ∀ j, 0 ≤ s.l.getD j 0 ∧ s.l.getD j 0 ≤ 100
  z : ∀ j, j < i → s.l.getD j 0 = 0
  can : CanP (withD u i (dropD u i k)) s.w s.l
theorem drop_cons {l : List Int} {k : Nat} (hk : k < l.length) : l.drop k = l.getD k 0 :: l.drop (k + 1) := by
  rw [List.drop_eq_getElem_cons hk, List.getD_eq_getElem?_getD, List.getElem?_eq_getElem hk]; rfl
theorem withD_withD (u : Su) (i : Nat) (a b : List Int) : withD (withD u i a) i b = withD u i b := by
  by_cases h : i < u.streets.length
  · simp [withD, List.getD_eq_getElem?_getD, h]
  · simp [withD, List.set_eq_of_length_le (show u.streets.length ≤ i by omega)]
theorem set_self {l : List Int} {a : Nat} : l.set a (l.getD a 0) = l := by
  by_cases h : a < l.length
  · rw [List.getD_eq_getElem?_getD, List.getElem?_eq_getElem h]; simp
  · exact List.set_eq_of_length_le (by omega)
theorem pulN_le (u : Su) (i k : Nat) (w l : List Int) : pulN u i k w l ≤ (min (l.getD i 0) (w.getD (fouN u i k) 0)).toNat := lgst_le _
theorem fou_at {u : Su} (hv : SuP u) {i k : Nat} (hi : i < u.streets.length) (hk : k < (u.streets.getD i default).draws.length) :
    0 ≤ fountI u (drawI u i k) ∧ fouN u i k < u.founts.length ∧ (u.founts.getD (fouN u i k) default).id = drawI u i k := by
  have h0 : 0 ≤ fountI u (drawI u i k) := fountI_has.2 (((hv.2.2 i hi).2.2.2 k hk).2)
  exact ⟨h0, idxF_lt h0⟩
theorem less_in {l : List Int} (h : ∀ j, 0 ≤ l.getD j 0 ∧ l.getD j 0 ≤ 100) {a n : Nat} (hn : (n : Int) ≤ l.getD a 0) (j : Nat) : 0 ≤ (l.set a (l.getD a 0 - n)).getD j 0 ∧ (l.set a (l.getD a 0 - n)).getD j 0 ≤ 100 := by
  have := h j
  by_cases e : j = a
  · subst e
    by_cases hj : j < l.length
    · rw [getD_set_self _ hj]; omega
    · rw [List.set_eq_of_length_le (by omega)]; exact this
  · rw [getD_set_ne _ e]; exact this
theorem PI.step {u : Su} (hv : SuP u) {i k : Nat} {s : PS} (h : PI u i k s) (hi : i < u.streets.length) (hk : k < (u.streets.getD i default).draws.length) : PI u i (k + 1) (pull1 u i k s) := by
  obtain ⟨h0, ha, hid⟩ := fou_at hv hi hk
  have hle := pulN_le u i k s.w s.l
  have hwa := h.w_ (fouN u i k)
  have hli := h.l_ i
  refine ⟨by simp only [pull1, List.length_set]; exact h.lw, by simp only [pull1, List.length_set]; exact h.ll, less_in h.w_ (by omega), less_in h.l_ (by omega), fun j hj => ?_, ?_⟩
  · simp only [pull1]; rw [getD_set_ne _ (by omega)]; exact h.z j hj
  · have hdr : dropD u i k = drawI u i k :: dropD u i (k + 1) := drop_cons hk
    obtain ⟨n, hn0, hn1, hc⟩ := pull_step (u := withD u i (dropD u i k)) (i := i) (a := fouN u i k) (ds := dropD u i (k + 1)) (w := s.w) (l := s.l) (by rw [withD_len]; exact hi) (by rw [withD_at _ hi, hdr, withD_founts, hid])
      (fun j hj e => hv.2.1.inj hj ha e) ha (by rw [h.lw]; exact ha) (by rw [withD_len]; exact h.ll) (fun j => (h.w_ j).1) hli.1 h.can
    rw [withD_withD] at hc
    obtain ⟨m, rfl⟩ : ∃ m : Nat, n = m := ⟨n.toNat, by omega⟩
    exact lgst_ok (P := PullP u i k s.w s.l) hc _ (by omega)
theorem PI.next {u : Su} {i : Nat} {s : PS} (h : PI u i (u.streets.getD i default).draws.length s) (hi : i < u.streets.length) : PI u (i + 1) 0 s := by
  have h0 : s.l.getD i 0 ≤ 0 := canP_nil (by rw [withD_len]; exact h.ll) (by rw [withD_len]; exact hi) (by rw [withD_at _ hi]; exact List.drop_length) h.can
  have h1 := h.l_ i
  refine ⟨h.lw, h.ll, h.w_, h.l_, fun j hj => ?_, ?_⟩
  · by_cases e : j = i
    · subst e; omega
    · exact h.z j (by omega)
  · refine (canP_z (fun j => (h.w_ j).1) ?_ ?_ ?_ fun j hj => ?_).1 h.can
    · rfl
    · rw [withD_len, withD_len]
    · rw [withD_len]; exact h.ll
    · have e : j ≠ i := fun e => hj (by subst e; omega)
      rw [withD_ne _ e]
      by_cases e2 : j = i + 1
      · subst e2
        by_cases hj2 : i + 1 < u.streets.length
        · rw [withD_at _ hj2]; exact List.drop_zero.symm
        · exact absurd (getD_out (by rw [h.ll]; omega)) hj
      · rw [withD_ne _ e2]
theorem withD_self (u : Su) (i j : Nat) : ((withD u i (dropD u i 0)).streets.getD j default).draws = (u.streets.getD j default).draws := by
  by_cases e : j = i
  · subst e
    by_cases h : j < u.streets.length
    · rw [withD_at _ h]; exact List.drop_zero
    · simp only [withD, List.set_eq_of_length_le (show u.streets.length ≤ j by omega)]
  · rw [withD_ne _ e]
theorem PI.start {u : Su} {w l : List Int} (lw : w.length = u.founts.length) (ll : l.length = u.streets.length) (w_ : ∀ j, 0 ≤ w.getD j 0 ∧ w.getD j 0 ≤ 100) (l_ : ∀ j, 0 ≤ l.getD j 0 ∧ l.getD j 0 ≤ 100) (hc : CanP u w l) : PI u 0 0 ⟨w, l, []⟩ :=
  ⟨lw, ll, w_, l_, fun j hj => absurd hj (Nat.not_lt_zero _), CanP.draws (u := u) (v := withD u 0 (dropD u 0 0)) rfl (withD_len _ _ _).symm (fun j => (withD_self u 0 j).symm) hc⟩
theorem PI.drawn {u : Su} (hv : SuP u) {i : Nat} {s : PS} (h : PI u i 0 s) (hi : i < u.streets.length) : ∀ k, k ≤ (u.streets.getD i default).draws.length → PI u i k (pulD u i s k)
  | 0, _ => h
  | k + 1, hk => (PI.drawn hv h hi k (by omega)).step hv hi (by omega)
theorem PI.streets {u : Su} (hv : SuP u) {s : PS} (h : PI u 0 0 s) : ∀ i, i ≤ u.streets.length → PI u i 0 (pulS u s i)
  | 0, _ => h
  | i + 1, hi => ((PI.streets hv h i (by omega)).drawn hv (by omega) _ (Nat.le_refl _)).next (by omega)
theorem pull1_no {u : Su} {i k : Nat} {s : PS} (h : pulN u i k s.w s.l = 0) : pull1 u i k s = s := by
  have h1 : s.w.set (fouN u i k) (s.w.getD (fouN u i k) 0 - ((0 : Nat) : Int)) = s.w := by rw [show s.w.getD (fouN u i k) 0 - ((0 : Nat) : Int) = s.w.getD (fouN u i k) 0 by omega]; exact set_self
  have h2 : s.l.set i (s.l.getD i 0 - ((0 : Nat) : Int)) = s.l := by rw [show s.l.getD i 0 - ((0 : Nat) : Int) = s.l.getD i 0 by omega]; exact set_self
  simp only [pull1]; rw [h, h1, h2]; rfl
theorem pull1_yes {u : Su} {i k n : Nat} {s : PS} (h : pulN u i k s.w s.l = n) (h0 : n ≠ 0) : pull1 u i k s = ⟨s.w.set (fouN u i k) (s.w.getD (fouN u i k) 0 - n), s.l.set i (s.l.getD i 0 - n), s.out ++ [⟨(u.streets.getD i default).id, drawI u i k, n⟩]⟩ := by
  simp only [pull1]; rw [h, if_neg h0]
theorem pull1_z {u : Su} {i k : Nat} {s : PS} (h : pulN u i k s.w s.l = 0) : pull1 u i k s = ⟨s.w.set (fouN u i k) (s.w.getD (fouN u i k) 0 - (pulN u i k s.w s.l : Nat)), s.l.set i (s.l.getD i 0 - (pulN u i k s.w s.l : Nat)), s.out⟩ := by
  simp only [pull1]; rw [if_pos h]
theorem pull1_p {u : Su} {i k : Nat} {s : PS} (h : pulN u i k s.w s.l ≠ 0) : pull1 u i k s = ⟨s.w.set (fouN u i k) (s.w.getD (fouN u i k) 0 - (pulN u i k s.w s.l : Nat)), s.l.set i (s.l.getD i 0 - (pulN u i k s.w s.l : Nat)), s.out ++ [Pul.mk (u.streets.getD i default).id (drawI u i k) (pulN u i k s.w s.l : Nat)]⟩ := by
  simp only [pull1]; rw [if_neg h]
theorem pulD_len (u : Su) (i : Nat) (s : PS) : ∀ k, (pulD u i s k).out.length ≤ s.out.length + k
  | 0 => Nat.le_refl _
  | k + 1 => by
    have ih := pulD_len u i s k
    simp only [pulD, pull1]; split
    · omega
    · rw [List.length_append, List.length_singleton]; omega
theorem pulS_len {u : Su} {s : PS} (h : ∀ j, j < u.streets.length → (u.streets.getD j default).draws.length ≤ 20) : ∀ i, i ≤ u.streets.length → (pulS u s i).out.length ≤ s.out.length + 20 * i
  | 0, _ => Nat.le_refl _
  | i + 1, hi => by
    have ih := pulS_len (s := s) h i (by omega)
    have h1 := pulD_len u i (pulS u s i) (u.streets.getD i default).draws.length
    have h2 := h i (by omega)
    simp only [pulS]; omega
/-! ### the program's supply, of which street by street is struck out -/
abbrev dD (u : Su) (i k j : Nat) : List Int := if j < i then [] else if j = i then dropD u i k else (u.streets.getD j default).draws
def uD (u : Su) (i k : Nat) : Su := { u with streets := (List.range u.streets.length).map fun j => { u.streets.getD j default with draws := dD u i k j } }
theorem uD_len (u : Su) (i k : Nat) : (uD u i k).streets.length = u.streets.length := by simp [uD]
theorem uD_at {u : Su} {i k j : Nat} (hj : j < u.streets.length) : (uD u i k).streets.getD j default = { u.streets.getD j default with draws := dD u i k j } := by
  simp [uD, List.getD_eq_getElem?_getD, hj]
theorem PI.uD {u : Su} {i k : Nat} {s : PS} (h : PI u i k s) (hi : i < u.streets.length) {n : Nat} (hn : (n : Int) ≤ min (s.l.getD i 0) (s.w.getD (fouN u i k) 0)) :
    CanP (uD u i (k + 1)) (s.w.set (fouN u i k) (s.w.getD (fouN u i k) 0 - n)) (s.l.set i (s.l.getD i 0 - n)) ↔ PullP u i k s.w s.l n := by
  refine canP_z (fun j => (less_in h.w_ (by omega) j).1) rfl (by rw [uD_len, withD_len]) (by rw [uD_len, List.length_set]; exact h.ll) fun j hj => ?_
  by_cases hjn : j < u.streets.length
  · rw [uD_at hjn]
    have hz := h.z j
    show dD u i (k + 1) j = _
    by_cases e : j = i
    · subst e; rw [withD_at _ hjn]; simp [dD]
    · rw [withD_ne _ e]
      by_cases e2 : j < i
      · rw [getD_set_ne _ e] at hj; exact absurd (hz e2) hj
      · simp [dD, e, e2]
  · exact absurd (getD_out (by rw [List.length_set, h.ll]; omega)) hj
theorem dD_next (u : Su) (i j : Nat) : dD u i (u.streets.getD i default).draws.length j = dD u (i + 1) 0 j := by
  unfold dD
  by_cases h1 : j < i
  · rw [if_pos h1, if_pos (by omega)]
  · by_cases h2 : j = i
    · subst h2; rw [if_neg h1, if_pos rfl, if_pos (by omega)]; exact List.drop_length
    · rw [if_neg h1, if_neg h2, if_neg (by omega)]
      by_cases h3 : j = i + 1
      · subst h3; rw [if_pos rfl]; exact List.drop_zero.symm
      · rw [if_neg h3]
theorem uD_next (u : Su) (i : Nat) : uD u i (u.streets.getD i default).draws.length = uD u (i + 1) 0 := by
  unfold uD; simp only [dD_next u i]
theorem askT_congr {u : Su} {week e : Int} {p q : Prop} [Decidable p] [Decidable q] (h : p ↔ q) : askT u week p e = askT u week q e := by
  unfold askT; simp only [h]
theorem uD_start (u : Su) : uD u 0 0 = u := by
  have e : ∀ j, dD u 0 0 j = (u.streets.getD j default).draws := fun j => by
    unfold dD
    rw [if_neg (Nat.not_lt_zero _)]; split
    · rename_i h; subst h; exact List.drop_zero
    · rfl
  have e2 : (uD u 0 0).streets = u.streets := by
    unfold uD; simp only [e]
    refine List.ext_getElem (by simp) fun j h1 h2 => ?_
    simp only [List.getElem_map, List.getElem_range, List.getD_eq_getElem?_getD, List.getElem?_eq_getElem h2]; rfl
  show (⟨(uD u 0 0).founts, (uD u 0 0).streets⟩ : Su) = ⟨u.founts, u.streets⟩
  rw [e2]; rfl
/-! ### what Pulls tells -/
abbrev ShaP (u : Su) (m : List Int) : Prop := (∀ x ∈ m, Wi x 0 100) ∧ m.length = u.streets.length
def puE (u : Su) (week : Int) (best : Bool) (m : List Int) : Int := if askT u week (ShaP u m) 94 ≠ 0 then askT u week (ShaP u m) 94 else if CanP u (waterL u week best) m then 0 else 6
def puL (u : Su) (week : Int) (best : Bool) (m : List Int) : List Pul := if puE u week best m = 0 then (pulS u ⟨waterL u week best, m, []⟩ u.streets.length).out else []
theorem pu_err {u : Su} {week : Int} {best : Bool} {m : List Int} (he : askT u week (ShaP u m) 94 ≠ 0) : puE u week best m = askT u week (ShaP u m) 94 ∧ puL u week best m = [] := by
  have e : puE u week best m = askT u week (ShaP u m) 94 := if_pos he
  exact ⟨e, by rw [puL, e, if_neg he]⟩
theorem pu_none {u : Su} {week : Int} {best : Bool} {m : List Int} (he : askT u week (ShaP u m) 94 = 0) (hc : ¬CanP u (waterL u week best) m) : puE u week best m = 6 ∧ puL u week best m = [] := by
  have e : puE u week best m = 6 := by rw [puE, if_neg (fun h => h he), if_neg hc]
  exact ⟨e, by rw [puL, e]; rfl⟩
theorem pu_some {u : Su} {week : Int} {best : Bool} {m : List Int} (he : askT u week (ShaP u m) 94 = 0) (hc : CanP u (waterL u week best) m) : puE u week best m = 0 ∧ puL u week best m = (pulS u ⟨waterL u week best, m, []⟩ u.streets.length).out := by
  have e : puE u week best m = 0 := by rw [puE, if_neg (fun h => h he), if_pos hc]
  exact ⟨e, by rw [puL, if_pos e]⟩
theorem sha_in {u : Su} {m : List Int} (h : ShaP u m) (j : Nat) : 0 ≤ m.getD j 0 ∧ m.getD j 0 ≤ 100 := by
  by_cases hj : j < m.length
  · rw [List.getD_eq_getElem?_getD, List.getElem?_eq_getElem hj]; exact h.1 _ (List.getElem_mem hj)
  · rw [getD_out (by omega)]; omega
end Go.T

/- Pulls in memory; a twin whose blocks are known; streets that are struck out. -/
namespace Go.T
open Go Go.X Go.S Go.RowKit
theorem rowsCut1 {w : World} {ao : Option Addr} {l : List Int} (h : RowsAt w ao 1 (ones l)) {i c : Nat} (hc : l.length ≤ c) : RowsAt w (cutAddr ao i c 1) 1 (ones (l.drop i)) := by
  by_cases hi : l.length ≤ i
  · left
    simp [ones, List.drop_eq_nil_of_le hi]
  · rcases h with h | ⟨b, o, rfl, h2⟩
    · have hl : l = [] := by simpa [ones] using h
      simp [hl] at hi
    · right
      unfold cutAddr
      rw [if_neg (by omega)]
      refine ⟨b, o + i * 1, by simp [addr_add], fun k r hr j u hj => ?_⟩
      have hr' : (ones l)[i + k]? = .some r := by
        rw [← hr]
        simp [ones]
      have := h2 (i + k) r hr' j u hj
      rwa [show o + (i + k) * 1 + j = o + i * 1 + k * 1 + j by omega] at this
def pulC (x : Pul) : List Value := [.int .i64 x.street, .int .i64 x.fount, .int .i64 x.n]
def pulRows (l : List Pul) : List (List Value) := l.map pulC
theorem pulRows_get {l : List Pul} {i : Nat} (hi : i < l.length) : (pulRows l)[i]? = some (pulC (l.getD i default)) := by simp [pulRows, hi]
theorem pulRows_add (l : List Pul) (x : Pul) : (pulRows (l ++ [x])).flatten = (pulRows l).flatten ++ pulC x := by simp [pulRows]
theorem pulRows3 (l : List Pul) : ∀ q ∈ pulRows l, q.length = 3 := by intro q hq; obtain ⟨x, _, rfl⟩ := List.mem_map.1 hq; rfl
theorem pul_ext {x y : Pul} (h : [x.street, x.fount, x.n] = [y.street, y.fount, y.n]) : x = y := by
  cases x; cases y; simpa using h
theorem Ok.puls {r : Sl} {n : Nat} {l : List Pul} (h : r.Ok n 3 (pulRows l).flatten) : n = l.length := by
  have h1 := h.len
  rw [length_flatten (k := 3) (pulRows3 l)] at h1; simp [pulRows] at h1; omega
/-- A list of pulls and an error. -/
structure LpR (l : List Pul) (e : Int) (v : Value) (own : X.Own) : Prop where
  ex : ∃ r : Sl, r.Ok l.length 3 (pulRows l).flatten ∧ v = .tuple ⟨[r.val l.length, .int .i64 e]⟩ ∧ own = [r.ent 100 (pulRows l).flatten]
theorem LpR.errs {l : List Pul} {e e' : Int} (h : l = []) (he : e' = e) : LpR l e (.tuple ⟨[.slice none 0 0, .int .i64 e']⟩) [Sl.nil.ent 100 []] := by
  subst h he; exact ⟨Sl.nil, .none _, rfl, rfl⟩
/-- The slices of what streets draw from are as long as they can be said to be. -/
def CapD (u : Su) (sa : Nat → DA) (n : Nat) : Prop := ∀ i, i < n → (u.streets.getD i default).draws.length ≤ (sa i).2
theorem CapD.add {u : Su} {sa : Nat → DA} {k : Nat} (h : CapD u sa k) {r : Sl} (o : r.Ok (u.streets.getD k default).draws.length 1 (ints (u.streets.getD k default).draws)) : CapD u (upd sa k (r.addr, r.cap)) (k + 1) := by
  intro i hi
  by_cases e : i = k
  · subst e; rw [upd_self]; exact o.cap
  · rw [upd_ne _ _ e]; exact h i (by omega)
/-- A supply in new memory, of which the blocks are known. -/
structure TwX (u : Su) (v : Value) (own : X.Own) : Prop where
  ex : ∃ (q1 q2 : Sl) (fa : Nat → FA) (sa : Nat → DA) (B : X.Own), q1.Ok u.founts.length 10 (foRowsN u fa u.founts.length).flatten ∧ q2.Ok u.streets.length 5 (srRowsN u sa u.streets.length).flatten ∧ SpHas B u fa u.founts.length ∧ DrHas B u sa u.streets.length ∧ CapD u sa u.streets.length ∧
    v = .agg ⟨[q1.val u.founts.length, q2.val u.streets.length]⟩ ∧ own = [q1.ent 70 (foRowsN u fa u.founts.length).flatten, q2.ent 73 (srRowsN u sa u.streets.length).flatten] ++ B
theorem _root_.Go.X.Sl.Ok.cells {r : Sl} {n s : Nat} {m l : List Value} (h : r.Ok n s m) (e : l.length = m.length) : r.Ok n s l :=
  ⟨by rw [e]; exact h.len, h.cap, h.max, h.nil, fun b hb => by rw [e]; exact h.full b hb⟩
/-- The blocks behind a cut of a list: one new, kept. -/
theorem Sel.pull {A B own : X.Own} {x y : Nat × Obj} (h : A ++ ((B ++ [x]) ++ [y]) = own) : Sel (A ++ ((B ++ [x]) ++ [y])) own := by subst h; exact Sel.refl _
theorem rows_set {f g : Nat → List Value} {i k s : Nat} {x : Value} (hl : ∀ j, (f j).length = s) (hne : ∀ j, j ≠ i → g j = f j) (hg : g i = (f i).set k x) (hk : k < s) : ∀ n, i < n → (((List.range n).map f).flatten).set (i * s + k) x = ((List.range n).map g).flatten
  | 0, h => by omega
  | n + 1, h => by
    have hlen : ((List.range n).map f).flatten.length = n * s := by
      rw [length_flatten (k := s) (by intro r hr; obtain ⟨j, _, rfl⟩ := List.mem_map.1 hr; exact hl j)]; simp
    rw [List.range_succ, List.map_append, List.map_append, List.flatten_append, List.flatten_append]
    simp only [List.map_cons, List.map_nil, List.flatten_cons, List.flatten_nil, List.append_nil]
    by_cases e : i = n
    · subst e
      rw [List.set_append_right _ _ (by omega), hlen, hg, show i * s + k - i * s = k by omega]
      congr 2
      refine List.map_congr_left fun j hj => ?_
      rw [hne j (by have := List.mem_range.1 hj; omega)]
    · have h2 : (i + 1) * s ≤ n * s := Nat.mul_le_mul_right s (by omega)
      rw [Nat.add_mul, Nat.one_mul] at h2
      rw [List.set_append_left _ _ (by omega), rows_set hl hne hg hk n (by omega), hne n (fun x => e x.symm)]
/-- A street of a list is given what else it draws from. -/
theorem srRowsN_set {u v : Su} {sa : Nat → DA} {i n : Nat} {a : DA} {m : Nat} (hi : i < n) (hne : ∀ j, j ≠ i → v.streets.getD j default = u.streets.getD j default) (hv : v.streets.getD i default = { u.streets.getD i default with draws := (v.streets.getD i default).draws }) (hm : (v.streets.getD i default).draws.length = m) :
    (srRowsN u sa n).flatten.set (i * 5 + 4) (.slice a.1 m a.2) = (srRowsN v (upd sa i a) n).flatten := by
  subst hm
  refine rows_set (s := 5) (fun _ => rfl) (fun j hj => ?_) ?_ (by omega) n hi
  · rw [hne j hj, upd_ne _ _ hj]
  · rw [upd_self, hv]; rfl
theorem srRowsN5 (u : Su) (sa : Nat → DA) (n : Nat) : ∀ r ∈ srRowsN u sa n, r.length = 5 := by intro r hr; obtain ⟨i, _, rfl⟩ := List.mem_map.1 hr; rfl
/-- A supply, of which the streets lie in a block of one's own. -/
theorem suAtS {w0 w : World} {own : X.Own} {v : Su} (hI : Inv w0 own w) {fo : Option Addr} {fa : Nat → FA} {sa : Nat → DA} (hf : RowsAt w0 fo 10 (foRows v fa)) (hsp : ∀ i, i < v.founts.length → SpAt w0 (v.founts.getD i default).sp (fa i).bo (fa i).ro)
    {q : Sl} {i n : Nat} (hn : n = v.streets.length) (hq : q.Ok n 5 (srRowsN v sa n).flatten) (hi : own[i]? = some (q.ent 73 (srRowsN v sa n).flatten)) (hd : ∀ i, i < n → RowsAt w0 (sa i).1 1 (ones (v.streets.getD i default).draws)) : SuAt w v fo q.addr fa sa := by
  subst hn
  exact ⟨hf.inv hI, fun i hi => (hsp i hi).inv hI, Sl.rows hI (by omega) hq hi (srRowsN5 _ _ _), fun i hi => (hd i hi).inv hI⟩
theorem welC_put1 {a b c nv : Value} {W : List Int} (hW : W.length = 4) : putAt (welC a b W nv) 1 [c] = some (welC a c W nv) := by
  rw [putAt_one _ (by simp [welC, ints, hW])]; rfl
theorem pad4_set {l : List Int} {a : Nat} (ha : a < l.length) (x : Int) : (pad4 l).set a x = pad4 (l.set a x) := by
  unfold pad4; rw [List.set_append_left _ _ ha, List.length_set]
/-! ### the program's supply -/
theorem uD_draws {u : Su} {i k j : Nat} (hj : j < u.streets.length) : ((uD u i k).streets.getD j default).draws = dD u i k j := by rw [uD_at hj]
theorem dD_len {u : Su} (hl : LitP u) {i k j : Nat} (hj : j < u.streets.length) : (dD u i k j).length ≤ 20 := by
  have h1 := hl.2.2 j hj
  unfold dD; split
  · simp
  · split
    · rename_i h; subst h; unfold dropD; rw [List.length_drop]; omega
    · exact h1
theorem uD_lit {u : Su} (hl : LitP u) (i k : Nat) : LitP (uD u i k) :=
  ⟨⟨hl.1.1, by rw [uD_len]; exact hl.1.2⟩, hl.2.1, fun j hj => by rw [uD_len] at hj; rw [uD_draws hj]; exact dD_len hl hj⟩
theorem uD_size {u : Su} (h : SizeP u) (i k : Nat) : SizeP (uD u i k) := ⟨h.1, by rw [uD_len]; exact h.2⟩
theorem uD_set {u : Su} {sa : Nat → DA} {i k : Nat} {a : DA} {m : Nat} (hi : i < u.streets.length) (hm : (dropD u i (k + 1)).length = m) :
    (srRowsN (uD u i k) sa u.streets.length).flatten.set (i * 5 + 4) (.slice a.1 m a.2) = (srRowsN (uD u i (k + 1)) (upd sa i a) u.streets.length).flatten := by
  refine (srRowsN_set (u := uD u i k) (v := uD u i (k + 1)) hi (fun j hj => ?_) ?_ ?_)
  · by_cases h : j < u.streets.length
    · rw [uD_at h, uD_at h]; simp [dD, hj]
    · rw [List.getD_eq_getElem?_getD, List.getElem?_eq_none (by rw [uD_len]; omega), List.getD_eq_getElem?_getD, List.getElem?_eq_none (by rw [uD_len]; omega)]
  · rw [uD_at hi, uD_at hi]
  · rw [uD_draws hi]; simpa [dD] using hm
theorem dD_ne {u : Su} {i k k' j : Nat} (h : j ≠ i) : dD u i k j = dD u i k' j := by simp [dD, h]
theorem drawsCut {w : World} {u : Su} {sa ta : Nat → DA} {i k n c : Nat} (hd : ∀ j, j < n → RowsAt w (ta j).1 1 (ones (dD u i k j))) (hs : RowsAt w (sa i).1 1 (ones (u.streets.getD i default).draws)) (hc : (u.streets.getD i default).draws.length ≤ (sa i).2) :
    ∀ j, j < n → RowsAt w (upd ta i (cutAddr (sa i).1 (k + 1) (sa i).2 1, c) j).1 1 (ones (dD u i (k + 1) j)) := fun j hj => by
  by_cases e : j = i
  · subst e
    rw [upd_self, show dD u j (k + 1) j = (u.streets.getD j default).draws.drop (k + 1) from (if_neg (Nat.lt_irrefl j)).trans (if_pos rfl)]
    exact rowsCut1 hs hc
  · rw [upd_ne _ _ e, dD_ne e (k' := k)]; exact hd j hj
theorem srRowsN_one (u : Su) (sa : Nat → DA) (n : Nat) : (srRowsN u sa n).flatten.all isOne = true := by
  rw [List.all_eq_true]; intro x hx
  obtain ⟨r, hr, hx⟩ := List.mem_flatten.1 hx
  obtain ⟨i, _, rfl⟩ := List.mem_map.1 hr
  simp only [srC, List.mem_cons, List.not_mem_nil, or_false] at hx
  rcases hx with rfl | rfl | rfl | rfl | rfl <;> rfl
/-- Streets handed back. -/
structure IsSr (u : Su) (sa : Nat → DA) (v : Value) (own : X.Own) : Prop where
  ex : ∃ r : Sl, r.Ok u.streets.length 5 (srRowsN u sa u.streets.length).flatten ∧ v = r.val u.streets.length ∧ own = [r.ent 73 (srRowsN u sa u.streets.length).flatten]
theorem withD_set {u : Su} {sa : Nat → DA} {i k : Nat} {a : DA} {m : Nat} (hi : i < u.streets.length) (hm : (dropD u i (k + 1)).length = m) :
    (srRowsN (withD u i (dropD u i k)) sa u.streets.length).flatten.set (i * 5 + 4) (.slice a.1 m a.2) = (srRowsN (withD u i (dropD u i (k + 1))) (upd sa i a) u.streets.length).flatten := by
  have e : ∀ ds : List Int, (withD u i ds).streets.getD i default = { u.streets.getD i default with draws := ds } := fun ds => by
    simp [withD, List.getD_eq_getElem?_getD, hi]
  refine (srRowsN_set (u := withD u i (dropD u i k)) (v := withD u i (dropD u i (k + 1))) hi (fun j hj => ?_) ?_ ?_)
  · rw [withD_ne _ hj, withD_ne _ hj]
  · rw [e, e]
  · rw [withD_at _ hi]; exact hm
theorem withD_lit {u : Su} (hl : LitP u) (i k : Nat) : LitP (withD u i (dropD u i k)) :=
  ⟨⟨hl.1.1, by rw [withD_len]; exact hl.1.2⟩, hl.2.1, fun j hj => by
    rw [withD_len] at hj
    have h1 := hl.2.2 j hj
    by_cases e : j = i
    · subst e; rw [withD_at _ hj]; unfold dropD; rw [List.length_drop]; omega
    · rw [withD_ne _ e]; exact h1⟩
theorem withD_id {u : Su} {i : Nat} (hi : i < u.streets.length) : withD u i (dropD u i 0) = u := by
  have e : u.streets.set i { u.streets.getD i default with draws := dropD u i 0 } = u.streets := by
    rw [show dropD u i 0 = (u.streets.getD i default).draws from List.drop_zero]
    rw [List.getD_eq_getElem?_getD, List.getElem?_eq_getElem hi]
    exact List.set_getElem_self hi
  unfold withD; rw [e]
/-- The pulled streets of the reference: one list more in the blocks. -/
theorem DrHas.cut {u : Su} {B : X.Own} {sa : Nat → DA} {i k n : Nat} (hi : i < u.streets.length) (h : DrHas B (withD u i (dropD u i k)) sa n) {r : Sl} {m : Nat} (o : r.Ok m 1 (ints (dropD u i (k + 1)))) :
    DrHas (B ++ [r.ent 3 (ints (dropD u i (k + 1)))]) (withD u i (dropD u i (k + 1))) (upd sa i (r.addr, r.cap)) n := by
  intro j hj
  by_cases e : j = i
  · subst e; rw [upd_self, withD_at _ hi]
    intro w0 w hI
    exact slOnes (hI.weaken (List.sublist_append_right B _)) o (i := 0) rfl
  · rw [upd_ne _ _ e, withD_ne _ e]
    have := (h j hj).of (Sel.pre B [r.ent 3 (ints (dropD u i (k + 1)))])
    rwa [withD_ne _ e] at this
theorem suAtT {w0 w : World} {own B : X.Own} {v : Su} (hI : Inv w0 own w) (hB : Inv w0 B w) {fa : Nat → FA} {sa : Nat → DA} {q1 q2 : Sl} {i j n m : Nat} (hm : m = v.founts.length) (hn : n = v.streets.length) (h1 : q1.Ok m 10 (foRowsN v fa m).flatten) (h2 : q2.Ok n 5 (srRowsN v sa n).flatten)
    (hi : own[i]? = some (q1.ent 70 (foRowsN v fa m).flatten)) (hj : own[j]? = some (q2.ent 73 (srRowsN v sa n).flatten)) (hs : SpHas B v fa m) (hd : DrHas B v sa n) : SuAt w v q1.addr q2.addr fa sa := by
  subst hm hn
  exact ⟨Sl.rows hI (by omega) h1 hi (by intro r hr; obtain ⟨i, _, rfl⟩ := List.mem_map.1 hr; rfl), fun i hi => hs i hi w0 w hB, Sl.rows hI (by omega) h2 hj (srRowsN5 _ _ _), fun i hi => hd i hi w0 w hB⟩
/-! ### how long the lists are -/
theorem FairR.len {u : Su} {W l r : List Int} (h : FairR u W l r) : r.length = l.length := by
  induction h with
  | done _ => rfl
  | step _ _ ih => rw [ih, List.length_set]
theorem fairR_ex {u : Su} {W : List Int} : ∀ (n : Nat) (l : List Int), InP u l → roomTo u l u.streets.length ≤ n → ∃ r, FairR u W l r := by
  intro n
  induction n with
  | zero =>
    intro l hin hr
    cases h : poorTo (UpP u W l) l u.streets.length with
    | none => exact ⟨l, .done h⟩
    | some a =>
      have ha := poorTo_lt h
      have hu := (((poorTo_spec _ l u.streets.length).2 a).1 h).2.1.1
      have h1 := roomTo_set (u := u) (l := l) (a := a) (by rw [hin.len]; exact ha) hu u.streets.length ha
      omega
  | succ n ih =>
    intro l hin hr
    cases h : poorTo (UpP u W l) l u.streets.length with
    | none => exact ⟨l, .done h⟩
    | some a =>
      have ha := poorTo_lt h
      have hu := (((poorTo_spec _ l u.streets.length).2 a).1 h).2.1.1
      have h1 := roomTo_set (u := u) (l := l) (a := a) (by rw [hin.len]; exact ha) hu u.streets.length ha
      obtain ⟨r, hr2⟩ := ih _ (hin.up ha hu) (by omega)
      exact ⟨r, .step h hr2⟩
theorem faL_len {u : Su} {week : Int} {best : Bool} : (faL u week best).length ≤ 1000000 := by
  unfold faL; split
  · rename_i h
    have he : askT u week True 0 = 0 := Classical.byContradiction fun hx => by
      rw [faE, if_pos hx] at h; exact hx h
    obtain ⟨hv, _⟩ := askT_ok (fun h => absurd trivial h) he
    obtain ⟨r, hr⟩ := fairR_ex (W := waterL u week best) _ _ (InP.leasts hv) (Nat.le_refl _)
    rw [hr.eq, hr.len, leasts_len]
    have := hv.1.2; omega
  · exact Nat.zero_le _
theorem puL_len {u : Su} {week : Int} {best : Bool} {m : List Int} (hl : LitP u) : (puL u week best m).length ≤ 1000000 := by
  unfold puL; split
  · have h1 := pulS_len (s := ⟨waterL u week best, m, []⟩) hl.2.2 u.streets.length (Nat.le_refl _)
    have h2 := hl.1.2
    simp only [List.length_nil] at h1
    omega
  · exact Nat.zero_le _
/-- A supply in new memory, and that its slices are as long as they can be said to be. -/
structure TwC (u : Su) (v : Value) (own : X.Own) : Prop where
  ex : ∃ (q1 q2 : Sl) (fa : Nat → FA) (sa : Nat → DA), v = .agg ⟨[q1.val u.founts.length, q2.val u.streets.length]⟩ ∧ (Own.Has own fun w => SuAt w u q1.addr q2.addr fa sa) ∧ CapD u sa u.streets.length
theorem TwX.c {u : Su} {v : Value} {own : X.Own} (h : TwX u v own) : TwC u v own := by
  obtain ⟨q1, q2, fa, sa, B, o1, o2, h1, h2, hC, rfl, rfl⟩ := h
  exact ⟨q1, q2, fa, sa, rfl, fun w0 w hI => suAtT hI (hI.weaken (List.sublist_append_right _ B)) rfl rfl o1 o2 (i := 0) (j := 1) rfl rfl h1 h2, hC⟩
end Go.T

/- What the rows' arguments give of supplies: that slices are no longer than they can be said to be. -/
namespace Go.Proofs.YtolcicaclflagaaDoor
open Go Go.X Go.S Go.T Go.RowKit Go.ChangeShapes Go.WideShapes Go.ChangeAt
theorem ints_of_fit2 {w : World} {n : Nat} {v : Value} (h : FitY w (Fits w (n + 1)) (.s [.i .i64]) v) : ∃ ao c l, v = .slice ao (l : List Int).length c ∧ RowsAt w ao 1 (ones l) ∧ l.length ≤ c := by
  obtain ⟨ao, len, cap, rows, rfl, h1, h2, e, m, f⟩ := h
  obtain ⟨l, rfl⟩ := ints_of_fits f
  have : l.length = len := by simpa [ones] using e
  subst this
  exact ⟨ao, cap, l, rfl, m, by omega⟩
theorem sr_of_fits2 {w : World} {cs : List Value} (h : Fits w 9 srLay cs) : ∃ x : Sr × DA, cs = srC x.1 x.2 ∧ RowsAt w x.2.1 1 (ones x.1.draws) ∧ x.1.draws.length ≤ x.2.2 := by
  obtain ⟨_, r, rfl, h0, h⟩ := FitL.un h
  obtain ⟨_, r, rfl, h1, h⟩ := FitL.un h
  obtain ⟨_, r, rfl, h2, h⟩ := FitL.un h
  obtain ⟨_, r, rfl, h3, h⟩ := FitL.un h
  obtain ⟨_, r, rfl, h4, h⟩ := FitL.un h
  obtain rfl := FitL.end_ h
  obtain ⟨a0, rfl, _⟩ := fit_i64 h0
  obtain ⟨a1, rfl, _⟩ := fit_i64 h1
  obtain ⟨a2, rfl, _⟩ := fit_i64 h2
  obtain ⟨a3, rfl, _⟩ := fit_i64 h3
  obtain ⟨ao, c, l, rfl, m, hc⟩ := ints_of_fit2 h4
  exact ⟨(⟨a0, a1, a2, a3, l⟩, (ao, c)), rfl, m, hc⟩
theorem su_of_fits2 {w : World} {cs : List Value} (h : Fits w 10 suLay cs) : ∃ u fo so fc sc fa sa, cs = [.slice fo (u : Su).founts.length fc, .slice so u.streets.length sc] ∧ SuAt w u fo so fa sa ∧ CapD u sa u.streets.length := by
  obtain ⟨_, r, rfl, h0, h⟩ := FitL.un h
  obtain ⟨_, r, rfl, h1, h⟩ := FitL.un h
  obtain rfl := FitL.end_ h
  obtain ⟨fo, n1, c1, rows1, rfl, _, _, e1, m1, f1⟩ := h0
  obtain ⟨so, n2, c2, rows2, rfl, _, _, e2, m2, f2⟩ := h1
  obtain ⟨l1, rfl, p1⟩ := exists_mapP fun r hr => fo_of_fits (f1 r hr)
  obtain ⟨l2, rfl, p2⟩ := exists_mapP fun r hr => sr_of_fits2 (f2 r hr)
  rw [List.length_map] at e1 e2
  subst e1 e2
  refine ⟨⟨l1.map (·.1), l2.map (·.1)⟩, fo, so, c1, c2, fun i => (l1.getD i default).2, fun i => (l2.getD i default).2, by simp, ⟨?_, ?_, ?_, ?_⟩, ?_⟩
  · have e : l1.map (fun x => foC x.1 x.2) = foRows ⟨l1.map (·.1), l2.map (·.1)⟩ (fun i => (l1.getD i default).2) := by
      refine List.ext_getElem (by simp [foRows]) fun i hi hi2 => ?_
      simp only [List.length_map] at hi
      simp [foRows, List.getD_eq_getElem?_getD, hi]
    rw [← e]; exact m1
  · intro i hi
    simp only [List.length_map] at hi
    have := p1 l1[i] (List.getElem_mem hi)
    simpa [List.getD_eq_getElem?_getD, hi] using this
  · have e : l2.map (fun x => srC x.1 x.2) = srRows ⟨l1.map (·.1), l2.map (·.1)⟩ (fun i => (l2.getD i default).2) := by
      refine List.ext_getElem (by simp [srRows]) fun i hi hi2 => ?_
      simp only [List.length_map] at hi
      simp [srRows, List.getD_eq_getElem?_getD, hi]
    rw [← e]; exact m2
  · intro i hi
    simp only [List.length_map] at hi
    have := (p2 l2[i] (List.getElem_mem hi)).1
    simpa [List.getD_eq_getElem?_getD, hi] using this
  · intro i hi
    simp only [List.length_map] at hi
    have := (p2 l2[i] (List.getElem_mem hi)).2
    simpa [List.getD_eq_getElem?_getD, hi] using this
end Go.Proofs.YtolcicaclflagaaDoor

/- The walks of functions. -/
namespace Go.Proofs.YtolcicaclflagaaDoor
open Go.X Go.S Go.RowKit
theorem indexFuncInts (l : List Int) (ao : Option Addr) (c : Nat) (F : Nat) (first capt : List Value) (p : Nat → Prop) [DecidablePred p] (hF : fnOk Tryd.prog F = true) (hmx : l.length ≤ 1000000) (w : World) (h : RowsAt w ao 1 (ones l)) (hc : ∀ k, k < l.length → ∀ w', Below w.heap.size w w' → CallsR Tryd.prog F (first ++ [.int .i64 (l.getD k 0)] ++ capt) w' (fun v _ => v = .bool (decide (p k)))) :
    CallsR Tryd.prog 98 [.slice ao l.length c, .func (.func F) ⟨first⟩ ⟨capt⟩] w (fun v _ => v = .int .i64 (idxF p l.length)) := by
  refine CallsR.of_SX (n := 19) (rs := [.tmp 4]) Tryd.func98 rfl rfl rfl rfl ?_
  show SX _ _ _ ⟨[(0, .slice ao l.length c), (1, .func (.func F) ⟨first⟩ ⟨capt⟩)], [], []⟩
  refine SX.seq ?_
  refine SX.region ?_
  refine SXL.assign rfl ?_
  refine SXL.nil ?_
  refine thenQ.normal ?_
  refine SX.seq ?_
  refine SX.seq ?_
  refine SX.region ?_
  refine SXL.move rfl ?_
  refine SXL.len is_33 rfl ?_
  refine SXL.move rfl ?_
  refine SXL.nil ?_
  refine thenQ.normal ?_
  refine SX.block ?_
  refine SX.loopG (α := Nat) [0, 1, 4, 7] rfl (fun k => [(8, .int .i64 ((k : Int)))]) (fun k => []) (fun k => k ≤ l.length ∧ ∀ i, i < k → ¬p i) (fun k => l.length - k) 0 ⟨Nat.zero_le _, fun _ h => absurd h (Nat.not_lt_zero _)⟩ ⟨rfl, trivial⟩ rfl ?_
  rintro k ⟨hk, hall⟩
  refine SX.seq ?_
  refine SX.region ?_
  refine SXL.lss rfl rfl ?_
  refine SXL.nil ?_
  refine thenQ.normal ?_
  refine SX.seq ?_
  refine SX.condP rfl (fun c9 => ?_) (fun c9 => ?_)
  · refine SX.skip ?_
    refine thenQ.normal ?_
    refine SX.seq ?_
    refine SX.block ?_
    refine SX.seq ?_
    refine SX.region ?_
    refine SXL.move rfl ?_
    refine SXL.assign rfl ?_
    refine SXL.nil ?_
    refine thenQ.normal ?_
    refine SX.seq ?_
    obtain ⟨b, o, ha, hm⟩ := oneI h (i := k) (by omega)
    refine SX.region ?_
    refine SXL.move rfl ?_
    refine SXL.move rfl ?_
    refine SXL.move rfl ?_
    refine SXL.indexR el_33 rfl rfl ha (by omega) ?_
    refine SXL.load1 sh_3 rfl (hm _) ?_
    refine SXL.call1V (.bool (decide (p k))) hF rfl rfl (fun w hI => hc k (by omega) _ hI.below) ?_
    refine SXL.nil ?_
    refine thenQ.normal ?_
    refine SX.condP rfl (fun c16 => ?_) (fun c16 => ?_)
    · refine SX.seq ?_
      refine SX.region ?_
      refine SXL.move rfl ?_
      refine SXL.assign rfl ?_
      refine SXL.nil ?_
      refine thenQ.normal ?_
      refine SX.ret ?_
      refine blockQ.ret ?_
      refine thenQ.ret ?_
      refine thenQ.ret ?_
      refine blockQ.ret ?_
      refine thenQ.ret ?_
      refine retQ.one (ResAt.tmp rfl) ?_
      exact congrArg (Value.int .i64) (idxF_some (by omega) c16 hall).symm
    · refine SX.skip ?_
      refine blockQ.normal ?_
      refine thenQ.normal ?_
      refine SX.region ?_
      refine SXL.add rfl rfl (by omega) ?_
      refine SXL.move rfl ?_
      refine SXL.nil ?_
      refine thenQ.normal ?_
      refine ⟨k + 1, Meets.mk _ ⟨rfl, trivial⟩ ⟨rfl, rfl, rfl, rfl, trivial⟩ rfl, ?_, (by omega)⟩
      refine ⟨by omega, fun i hi => ?_⟩
      by_cases e : i = k
      · subst e; exact c16
      · exact hall i (by omega)
  · refine SX.exit ?_
    refine thenQ.exit ?_
    refine thenQ.exit ?_
    refine blockQ.exit ?_
    refine thenQ.normal ?_
    refine SX.seq ?_
    refine SX.region ?_
    refine SXL.assign rfl ?_
    refine SXL.nil ?_
    refine thenQ.normal ?_
    refine SX.ret ?_
    refine retQ.one (ResAt.tmp rfl) ?_
    exact congrArg (Value.int .i64) (idxF_none fun i hi => hall i (by omega)).symm
theorem containsFuncInts (l : List Int) (ao : Option Addr) (c : Nat) (F : Nat) (first capt : List Value) (p : Nat → Prop) [DecidablePred p] (hF : fnOk Tryd.prog F = true) (hmx : l.length ≤ 1000000) (w : World) (h : RowsAt w ao 1 (ones l)) (hc : ∀ k, k < l.length → ∀ w', Below w.heap.size w w' → CallsR Tryd.prog F (first ++ [.int .i64 (l.getD k 0)] ++ capt) w' (fun v _ => v = .bool (decide (p k)))) :
    CallsR Tryd.prog 82 [.slice ao l.length c, .func (.func F) ⟨first⟩ ⟨capt⟩] w (fun v _ => v = .bool (decide (0 ≤ idxF p l.length))) := by
  refine CallsR.of_SX (n := 9) (rs := [.tmp 4]) Tryd.func82 rfl rfl rfl rfl ?_
  show SX _ _ _ ⟨[(0, .slice ao l.length c), (1, .func (.func F) ⟨first⟩ ⟨capt⟩)], [], []⟩
  refine SX.seq ?_
  refine SX.region ?_
  refine SXL.assign rfl ?_
  refine SXL.nil ?_
  refine thenQ.normal ?_
  refine SX.seq ?_
  refine SX.region ?_
  refine SXL.move rfl ?_
  refine SXL.move rfl ?_
  refine SXL.call1 (.int .i64 (idxF p l.length)) fn_98 rfl (fun w hI => indexFuncInts l ao c F first capt p hF hmx w (h.inv hI) (fun k hk w' hb => hc k hk w' (belowT hI hb))) ?_
  refine SXL.geq rfl rfl ?_
  refine SXL.assign rfl ?_
  refine SXL.nil ?_
  refine thenQ.normal ?_
  refine SX.ret ?_
  refine retQ.one (ResAt.tmp rfl) ?_
  first | rfl | assumption
theorem indexFuncLines (s : Sp) (ao : Option Addr) (c : Nat) (F : Nat) (first capt : List Value) (p : Nat → Prop) [DecidablePred p] (hF : fnOk Tryd.prog F = true) (hmx : s.book.length ≤ 1000000) (w : World) (h : RowsAt w ao 5 (s.book.map Ln.cells)) (hc : ∀ k, k < s.book.length → ∀ w', Below w.heap.size w w' → CallsR Tryd.prog F (first ++ [.agg ⟨(s.book.getD k default).cells⟩] ++ capt) w' (fun v _ => v = .bool (decide (p k)))) :
    CallsR Tryd.prog 156 [.slice ao s.book.length c, .func (.func F) ⟨first⟩ ⟨capt⟩] w (fun v _ => v = .int .i64 (idxF p s.book.length)) := by
  refine CallsR.of_SX (n := 19) (rs := [.tmp 4]) Tryd.func156 rfl rfl rfl rfl ?_
  show SX _ _ _ ⟨[(0, .slice ao s.book.length c), (1, .func (.func F) ⟨first⟩ ⟨capt⟩)], [], []⟩
  refine SX.seq ?_
  refine SX.region ?_
  refine SXL.assign rfl ?_
  refine SXL.nil ?_
  refine thenQ.normal ?_
  refine SX.seq ?_
  refine SX.seq ?_
  refine SX.region ?_
  refine SXL.move rfl ?_
  refine SXL.len is_65 rfl ?_
  refine SXL.move rfl ?_
  refine SXL.nil ?_
  refine thenQ.normal ?_
  refine SX.block ?_
  refine SX.loopG (α := Nat) [0, 1, 4, 7] rfl (fun k => [(8, .int .i64 ((k : Int)))]) (fun k => []) (fun k => k ≤ s.book.length ∧ ∀ i, i < k → ¬p i) (fun k => s.book.length - k) 0 ⟨Nat.zero_le _, fun _ h => absurd h (Nat.not_lt_zero _)⟩ ⟨rfl, trivial⟩ rfl ?_
  rintro k ⟨hk, hall⟩
  refine SX.seq ?_
  refine SX.region ?_
  refine SXL.lss rfl rfl ?_
  refine SXL.nil ?_
  refine thenQ.normal ?_
  refine SX.seq ?_
  refine SX.condP rfl (fun c9 => ?_) (fun c9 => ?_)
  · refine SX.skip ?_
    refine thenQ.normal ?_
    refine SX.seq ?_
    refine SX.block ?_
    refine SX.seq ?_
    refine SX.region ?_
    refine SXL.move rfl ?_
    refine SXL.assign rfl ?_
    refine SXL.nil ?_
    refine thenQ.normal ?_
    refine SX.seq ?_
    obtain ⟨b, o, ha, hm⟩ := h.get (i := k) (r := (s.book.getD k default).cells) (by have hk2 : k < s.book.length := (by omega); simp [hk2])
    refine SX.region ?_
    refine SXL.move rfl ?_
    refine SXL.move rfl ?_
    refine SXL.move rfl ?_
    refine SXL.indexR el_65 rfl rfl ha (by omega) ?_
    refine SXL.loadN sh_129 rfl (hm _) rfl ?_
    refine SXL.call1V (.bool (decide (p k))) hF rfl rfl (fun w hI => hc k (by omega) _ hI.below) ?_
    refine SXL.nil ?_
    refine thenQ.normal ?_
    refine SX.condP rfl (fun c16 => ?_) (fun c16 => ?_)
    · refine SX.seq ?_
      refine SX.region ?_
      refine SXL.move rfl ?_
      refine SXL.assign rfl ?_
      refine SXL.nil ?_
      refine thenQ.normal ?_
      refine SX.ret ?_
      refine blockQ.ret ?_
      refine thenQ.ret ?_
      refine thenQ.ret ?_
      refine blockQ.ret ?_
      refine thenQ.ret ?_
      refine retQ.one (ResAt.tmp rfl) ?_
      exact congrArg (Value.int .i64) (idxF_some (by omega) c16 hall).symm
    · refine SX.skip ?_
      refine blockQ.normal ?_
      refine thenQ.normal ?_
      refine SX.region ?_
      refine SXL.add rfl rfl (by omega) ?_
      refine SXL.move rfl ?_
      refine SXL.nil ?_
      refine thenQ.normal ?_
      refine ⟨k + 1, Meets.mk _ ⟨rfl, trivial⟩ ⟨rfl, rfl, rfl, rfl, trivial⟩ rfl, ?_, (by omega)⟩
      refine ⟨by omega, fun i hi => ?_⟩
      by_cases e : i = k
      · subst e; exact c16
      · exact hall i (by omega)
  · refine SX.exit ?_
    refine thenQ.exit ?_
    refine thenQ.exit ?_
    refine blockQ.exit ?_
    refine thenQ.normal ?_
    refine SX.seq ?_
    refine SX.region ?_
    refine SXL.assign rfl ?_
    refine SXL.nil ?_
    refine thenQ.normal ?_
    refine SX.ret ?_
    refine retQ.one (ResAt.tmp rfl) ?_
    exact congrArg (Value.int .i64) (idxF_none fun i hi => hall i (by omega)).symm
theorem containsFuncLines (s : Sp) (ao : Option Addr) (c : Nat) (F : Nat) (first capt : List Value) (p : Nat → Prop) [DecidablePred p] (hF : fnOk Tryd.prog F = true) (hmx : s.book.length ≤ 1000000) (w : World) (h : RowsAt w ao 5 (s.book.map Ln.cells)) (hc : ∀ k, k < s.book.length → ∀ w', Below w.heap.size w w' → CallsR Tryd.prog F (first ++ [.agg ⟨(s.book.getD k default).cells⟩] ++ capt) w' (fun v _ => v = .bool (decide (p k)))) :
    CallsR Tryd.prog 152 [.slice ao s.book.length c, .func (.func F) ⟨first⟩ ⟨capt⟩] w (fun v _ => v = .bool (decide (0 ≤ idxF p s.book.length))) := by
  refine CallsR.of_SX (n := 9) (rs := [.tmp 4]) Tryd.func152 rfl rfl rfl rfl ?_
  show SX _ _ _ ⟨[(0, .slice ao s.book.length c), (1, .func (.func F) ⟨first⟩ ⟨capt⟩)], [], []⟩
  refine SX.seq ?_
  refine SX.region ?_
  refine SXL.assign rfl ?_
  refine SXL.nil ?_
  refine thenQ.normal ?_
  refine SX.seq ?_
  refine SX.region ?_
  refine SXL.move rfl ?_
  refine SXL.move rfl ?_
  refine SXL.call1 (.int .i64 (idxF p s.book.length)) fn_156 rfl (fun w hI => indexFuncLines s ao c F first capt p hF hmx w (h.inv hI) (fun k hk w' hb => hc k hk w' (belowT hI hb))) ?_
  refine SXL.geq rfl rfl ?_
  refine SXL.assign rfl ?_
  refine SXL.nil ?_
  refine thenQ.normal ?_
  refine SX.ret ?_
  refine retQ.one (ResAt.tmp rfl) ?_
  first | rfl | assumption
theorem in1c_any (n lo hi : Int) (b3 b4 : Nat) (w : World) (h3 : w.cell? ⟨b3, 0, none⟩ = some (.int .i64 lo)) (h4 : w.cell? ⟨b4, 0, none⟩ = some (.int .i64 hi)) :
    CallsR Tryd.prog 115 [.int .i64 n, .pointer (some ⟨b3, 0, none⟩), .pointer (some ⟨b4, 0, none⟩)] w (fun v _ => v = .bool (decide (n < lo ∨ hi < n))) := by
  refine CallsR.of_SX (n := 13) (rs := [.tmp 4]) Tryd.func115 rfl rfl rfl rfl ?_
  show SX _ _ _ ⟨[(0, .int .i64 n), (1, .pointer (some ⟨b3, 0, none⟩)), (2, .pointer (some ⟨b4, 0, none⟩))], [], []⟩
  refine SX.seq ?_
  refine SX.region ?_
  refine SXL.assign rfl ?_
  refine SXL.nil ?_
  refine thenQ.normal ?_
  refine SX.seq ?_
  refine SX.region ?_
  refine SXL.move rfl ?_
  refine SXL.load1 sh_3 rfl (Mem.out1 h3) ?_
  refine SXL.lss rfl rfl ?_
  refine SXL.move rfl ?_
  apply SXL.orG 3
  case hl => exact rfl
  case hd => exact rfl
  case hg => exact rfl
  case ht =>
    intro g1
    refine SXL.pass rfl rfl rfl ?_
    refine SXL.pass rfl rfl rfl ?_
    refine SXL.pass rfl rfl rfl ?_
    exact SXL.nil (segQ.mk (.skip rfl (.skip rfl (.skip rfl (.skip rfl (EnvSub.refl _))))) rfl rfl rfl)
  case hf =>
    intro g1
    refine SXL.move rfl ?_
    refine SXL.load1 sh_3 rfl (Mem.out1 h4) ?_
    refine SXL.gtr rfl rfl ?_
    exact SXL.nil (segQ.mk (.skip rfl (.skip rfl (.skip rfl (.skip rfl (EnvSub.refl _))))) rfl rfl ⟨rfl, rfl⟩)
  refine SXL.assign rfl ?_
  refine SXL.nil ?_
  refine thenQ.normal ?_
  refine SX.ret ?_
  refine retQ.one (ResAt.tmp rfl) ?_
  first | rfl | assumption
theorem in_any (l : List Int) (lo hi : Int) (ao : Option Addr) (c : Nat) (hmx : l.length ≤ 1000000) (w : World) (h : RowsAt w ao 1 (ones l)) :
    CallsR Tryd.prog 109 [.int .i64 lo, .int .i64 hi, .slice ao l.length c] w (fun v _ => v = .bool (decide (∀ x ∈ l, Wi x lo hi))) := by
  refine CallsR.of_SX (n := 11) (rs := [.tmp 6]) Tryd.func109 rfl rfl rfl rfl ?_
  show SX _ _ _ ⟨[(0, .int .i64 lo), (1, .int .i64 hi), (2, .slice ao l.length c)], [], []⟩
  refine SX.seq ?_
  refine SX.region ?_
  refine SXL.box rfl rfl ?_; intro b0
  refine SXL.box rfl rfl ?_; intro b1
  refine SXL.assign rfl ?_
  refine SXL.nil ?_
  refine thenQ.normal ?_
  refine SX.seq ?_
  refine SX.region ?_
  refine SXL.move rfl ?_
  refine SXL.makeFunc rfl rfl ?_
  refine SXL.call1 (.bool (decide (0 ≤ idxF (fun k => l.getD k 0 < lo ∨ hi < l.getD k 0) l.length))) fn_82 rfl (fun w hI => containsFuncInts l ao c 115 [] [.pointer (some ⟨b0, 0, none⟩), .pointer (some ⟨b1, 0, none⟩)] (fun k => l.getD k 0 < lo ∨ hi < l.getD k 0) fn_115 hmx w (h.inv hI) (fun k hk w' hb => in1c_any _ lo hi b0 b1 w' (ownCell (hI.ext hb) (i := 0) rfl rfl) (ownCell (hI.ext hb) (i := 1) rfl rfl))) ?_
  refine SXL.not rfl ?_
  refine SXL.assign rfl ?_
  refine SXL.nil ?_
  refine thenQ.normal ?_
  refine SX.ret ?_
  refine retQ.one (ResAt.tmp rfl) ?_
  exact congrArg Value.bool (decide_eq_decide.2 (by rw [idxF_nonneg]; exact in_iff l lo hi))
theorem in1_own {w0 w : World} {own : X.Own} (hI : Inv w0 own w) (i : Nat) {b : Nat} (x lo hi : Int) {E : TypeId} {fz : Nat × Nat} (he : own[i]? = some (b, .cells ⟨ints [x]⟩ E fz)) :
    CallsR Tryd.prog 109 [.int .i64 lo, .int .i64 hi, .slice (some ⟨b, 0, none⟩) 1 1] w (fun v _ => v = .bool (decide (Wi x lo hi))) :=
  (in_any [x] lo hi _ 1 (by simp) w (ownOnes hI [x] he)).iff (by simp)
theorem in2_own {w0 w : World} {own : X.Own} (hI : Inv w0 own w) (i : Nat) {b : Nat} (x y lo hi : Int) {E : TypeId} {fz : Nat × Nat} (he : own[i]? = some (b, .cells ⟨ints [x, y]⟩ E fz)) :
    CallsR Tryd.prog 109 [.int .i64 lo, .int .i64 hi, .slice (some ⟨b, 0, none⟩) 2 2] w (fun v _ => v = .bool (decide (Wi x lo hi ∧ Wi y lo hi))) :=
  (in_any [x, y] lo hi _ 2 (by simp) w (ownOnes hI [x, y] he)).iff (by simp)
theorem span_any (a b lo hi : Int) (w : World) :
    CallsR Tryd.prog 149 [.agg ⟨[.int .i64 a, .int .i64 b]⟩, .int .i64 lo, .int .i64 hi] w (fun v _ => v = .bool (decide (Spn a b lo hi))) := by
  refine CallsR.of_SX (n := 22) (rs := [.tmp 6]) Tryd.func149 rfl rfl rfl rfl ?_
  show SX _ _ _ ⟨[(0, .agg ⟨[.int .i64 a, .int .i64 b]⟩), (1, .int .i64 lo), (2, .int .i64 hi)], [], []⟩
  refine SX.seq ?_
  refine SX.region ?_
  refine SXL.box rfl rfl ?_; intro b0
  refine SXL.assign rfl ?_
  refine SXL.nil ?_
  refine thenQ.normal ?_
  refine SX.seq ?_
  refine SX.region ?_
  refine SXL.move rfl ?_
  refine SXL.move rfl ?_
  refine SXL.fieldAddr fp_55_0 rfl ?_
  refine SXL.load1o 0 sh_3 rfl rfl rfl ?_
  refine SXL.fieldAddr fp_55_1 rfl ?_
  refine SXL.load1o 0 sh_3 rfl rfl rfl ?_
  refine SXL.buildSlice et_33 zp_3 rfl rfl rfl rfl ?_; intro b1
  refine SXL.call1 (.bool (decide (Wi (a) (lo) (hi) ∧ Wi (b) (lo) (hi)))) fn_109 rfl (fun w hI => in2_own hI 1 (a) (b) (lo) (hi) rfl) ?_
  refine SXL.move rfl ?_
  apply SXL.andG 5
  case hl => exact rfl
  case hd => exact rfl
  case hg => exact rfl
  case ht =>
    intro g1
    refine SXL.fieldAddr fp_55_0 rfl ?_
    refine SXL.load1o 0 sh_3 rfl rfl rfl ?_
    refine SXL.fieldAddr fp_55_1 rfl ?_
    refine SXL.load1o 0 sh_3 rfl rfl rfl ?_
    refine SXL.leq rfl rfl ?_
    exact SXL.nil (segQ.mk (.skip rfl (.skip rfl (.skip rfl (.skip rfl (.skip rfl (.skip rfl (EnvSub.refl _))))))) rfl rfl ⟨rfl, rfl⟩)
  case hf =>
    intro g1
    refine SXL.pass rfl rfl rfl ?_
    refine SXL.pass rfl rfl rfl ?_
    refine SXL.pass rfl rfl rfl ?_
    refine SXL.pass rfl rfl rfl ?_
    refine SXL.pass rfl rfl rfl ?_
    exact SXL.nil (segQ.mk (.skip rfl (.skip rfl (.skip rfl (.skip rfl (.skip rfl (.skip rfl (EnvSub.refl _))))))) rfl rfl rfl)
  refine SXL.assign rfl ?_
  refine SXL.nil ?_
  refine thenQ.normal ?_
  refine SX.ret ?_
  refine retQ.one (ResAt.tmp rfl) ?_
  exact congrArg Value.bool (decide_eq_decide.2 (by omega))
theorem readable_any (x : Rd) (weeks : Int) (hw : -9223372036854775807 ≤ weeks ∧ weeks ≤ 9223372036854775807) (w : World) :
    CallsR Tryd.prog 155 [.agg ⟨x.cells⟩, .int .i64 weeks] w (fun v _ => v = .bool (decide (RdP x weeks))) := by
  refine CallsR.of_SX (n := 34) (rs := [.tmp 4]) Tryd.func155 rfl rfl rfl rfl ?_
  show SX _ _ _ ⟨[(0, .agg ⟨x.cells⟩), (1, .int .i64 weeks)], [], []⟩
  refine SX.seq ?_
  refine SX.region ?_
  refine SXL.box rfl rfl ?_; intro b0
  refine SXL.assign rfl ?_
  refine SXL.nil ?_
  refine thenQ.normal ?_
  refine SX.seq ?_
  refine SX.region ?_
  refine SXL.fieldAddr fp_131_0 rfl ?_
  refine SXL.load1o 0 sh_3 rfl rfl rfl ?_
  refine SXL.buildSlice et_33 zp_3 rfl rfl rfl rfl ?_; intro b1
  refine SXL.call1 (.bool (decide (Wi (x.num) (1) (9999)))) fn_109 rfl (fun w hI => in1_own hI 1 (x.num) (1) (9999) rfl) ?_
  refine SXL.move rfl ?_
  apply SXL.andG 6
  case hl => exact rfl
  case hd => exact rfl
  case hg => exact rfl
  case ht =>
    intro g1
    refine SXL.move rfl ?_
    refine SXL.sub rfl rfl (by omega) ?_
    refine SXL.fieldAddr fp_131_1 rfl ?_
    refine SXL.load1o 0 sh_3 rfl rfl rfl ?_
    refine SXL.buildSlice et_33 zp_3 rfl rfl rfl rfl ?_; intro b2
    refine SXL.call1 (.bool (decide (Wi (x.wk) (0) (weeks - 1)))) fn_109 rfl (fun w hI => in1_own hI 2 (x.wk) (0) (weeks - 1) rfl) ?_
    exact SXL.ownPre (SXL.nil (segQ.mk (.skip rfl (.skip rfl (.skip rfl (.skip rfl (.skip rfl (.skip rfl (.skip rfl (EnvSub.refl _)))))))) rfl rfl ⟨rfl, rfl⟩)) rfl
  case hf =>
    intro g1
    refine SXL.pass rfl rfl rfl ?_
    refine SXL.pass rfl rfl rfl ?_
    refine SXL.pass rfl rfl rfl ?_
    refine SXL.pass rfl rfl rfl ?_
    refine SXL.pass rfl rfl rfl ?_
    refine SXL.pass rfl rfl rfl ?_
    exact SXL.nil (segQ.mk (.skip rfl (.skip rfl (.skip rfl (.skip rfl (.skip rfl (.skip rfl (.skip rfl (EnvSub.refl _)))))))) rfl rfl rfl)
  refine SXL.move rfl ?_
  apply SXL.andG 4
  case hl => exact rfl
  case hd => exact rfl
  case hg => exact rfl
  case ht =>
    intro g2
    refine SXL.fieldAddr fp_131_2 rfl ?_
    refine SXL.load1o 0 sh_3 rfl rfl rfl ?_
    refine SXL.buildSlice et_33 zp_3 rfl rfl rfl rfl ?_; intro b2
    refine SXL.call1 (.bool (decide (Wi (x.bu) (1) (40)))) fn_109 rfl (fun w hI => in1_own hI 2 (x.bu) (1) (40) rfl) ?_
    exact SXL.ownPre (SXL.nil (segQ.mk (.skip rfl (.skip rfl (.skip rfl (.skip rfl (.skip rfl (EnvSub.refl _)))))) rfl rfl ⟨rfl, rfl⟩)) rfl
  case hf =>
    intro g2
    refine SXL.pass rfl rfl rfl ?_
    refine SXL.pass rfl rfl rfl ?_
    refine SXL.pass rfl rfl rfl ?_
    refine SXL.pass rfl rfl rfl ?_
    exact SXL.nil (segQ.mk (.skip rfl (.skip rfl (.skip rfl (.skip rfl (.skip rfl (EnvSub.refl _)))))) rfl rfl rfl)
  refine SXL.move rfl ?_
  apply SXL.andG 3
  case hl => exact rfl
  case hd => exact rfl
  case hg => exact rfl
  case ht =>
    intro g3
    refine SXL.fieldAddr fp_131_3 rfl ?_
    refine SXL.loadNo 0 sh_55 rfl rfl rfl ?_
    refine SXL.call1 (.bool (decide (Spn x.s0 x.s1 0 99))) fn_149 rfl (fun w hI => span_any _ _ _ _ _) ?_
    exact SXL.nil (segQ.mk (.skip rfl (.skip rfl (.skip rfl (.skip rfl (EnvSub.refl _))))) rfl rfl ⟨rfl, rfl⟩)
  case hf =>
    intro g3
    refine SXL.pass rfl rfl rfl ?_
    refine SXL.pass rfl rfl rfl ?_
    refine SXL.pass rfl rfl rfl ?_
    exact SXL.nil (segQ.mk (.skip rfl (.skip rfl (.skip rfl (.skip rfl (EnvSub.refl _))))) rfl rfl rfl)
  refine SXL.move rfl ?_
  apply SXL.andG 4
  case hl => exact rfl
  case hd => exact rfl
  case hg => exact rfl
  case ht =>
    intro g4
    refine SXL.fieldAddr fp_131_3 rfl ?_
    refine SXL.fieldAddr fp_55_1 rfl ?_
    refine SXL.load1o 0 sh_3 rfl rfl rfl ?_
    refine SXL.gtr rfl rfl ?_
    exact SXL.nil (segQ.mk (.skip rfl (.skip rfl (.skip rfl (.skip rfl (.skip rfl (EnvSub.refl _)))))) rfl rfl ⟨rfl, rfl⟩)
  case hf =>
    intro g4
    refine SXL.pass rfl rfl rfl ?_
    refine SXL.pass rfl rfl rfl ?_
    refine SXL.pass rfl rfl rfl ?_
    refine SXL.pass rfl rfl rfl ?_
    exact SXL.nil (segQ.mk (.skip rfl (.skip rfl (.skip rfl (.skip rfl (.skip rfl (EnvSub.refl _)))))) rfl rfl rfl)
  refine SXL.assign rfl ?_
  refine SXL.nil ?_
  refine thenQ.normal ?_
  refine SX.ret ?_
  refine retQ.one (ResAt.tmp rfl) ?_
  first | rfl | assumption
theorem chk0_any (s : Sp) (bo ro : Option Addr) (bc rc : Nat) (w : World) :
    CallsR Tryd.prog 147 [.agg ⟨[.int .i64 s.weeks, .int .i64 s.most, .int .i64 s.fall, .int .i64 s.a0, .int .i64 s.a1, .int .i64 s.w0, .int .i64 s.w1, (.slice bo s.book.length bc), (.slice ro s.reads.length rc)]⟩] w (fun v _ => v = .bool (decide (ckP s 0))) := by
  refine CallsR.of_SX (n := 15) (rs := [.tmp 2]) Tryd.func147 rfl rfl rfl rfl ?_
  show SX _ _ _ ⟨[(0, .agg ⟨[.int .i64 s.weeks, .int .i64 s.most, .int .i64 s.fall, .int .i64 s.a0, .int .i64 s.a1, .int .i64 s.w0, .int .i64 s.w1, (.slice bo s.book.length bc), (.slice ro s.reads.length rc)]⟩)], [], []⟩
  refine SX.seq ?_
  refine SX.region ?_
  refine SXL.box rfl rfl ?_; intro b0
  refine SXL.assign rfl ?_
  refine SXL.nil ?_
  refine thenQ.normal ?_
  refine SX.seq ?_
  refine SX.region ?_
  refine SXL.fieldAddr fp_68_0 rfl ?_
  refine SXL.load1o 0 sh_3 rfl rfl rfl ?_
  refine SXL.buildSlice et_33 zp_3 rfl rfl rfl rfl ?_; intro b1
  refine SXL.call1 (.bool (decide (Wi (s.weeks) (1) (10)))) fn_109 rfl (fun w hI => in1_own hI 1 (s.weeks) (1) (10) rfl) ?_
  refine SXL.move rfl ?_
  apply SXL.andG 6
  case hl => exact rfl
  case hd => exact rfl
  case hg => exact rfl
  case ht =>
    intro g1
    refine SXL.fieldAddr fp_68_1 rfl ?_
    refine SXL.load1o 0 sh_3 rfl rfl rfl ?_
    refine SXL.fieldAddr fp_68_2 rfl ?_
    refine SXL.load1o 0 sh_3 rfl rfl rfl ?_
    refine SXL.buildSlice et_33 zp_3 rfl rfl rfl rfl ?_; intro b2
    refine SXL.call1 (.bool (decide (Wi (s.most) (0) (100) ∧ Wi (s.fall) (0) (100)))) fn_109 rfl (fun w hI => in2_own hI 2 (s.most) (s.fall) (0) (100) rfl) ?_
    exact SXL.ownPre (SXL.nil (segQ.mk (.skip rfl (.skip rfl (.skip rfl (.skip rfl (.skip rfl (.skip rfl (.skip rfl (EnvSub.refl _)))))))) rfl rfl ⟨rfl, rfl⟩)) rfl
  case hf =>
    intro g1
    refine SXL.pass rfl rfl rfl ?_
    refine SXL.pass rfl rfl rfl ?_
    refine SXL.pass rfl rfl rfl ?_
    refine SXL.pass rfl rfl rfl ?_
    refine SXL.pass rfl rfl rfl ?_
    refine SXL.pass rfl rfl rfl ?_
    exact SXL.nil (segQ.mk (.skip rfl (.skip rfl (.skip rfl (.skip rfl (.skip rfl (.skip rfl (.skip rfl (EnvSub.refl _)))))))) rfl rfl rfl)
  refine SXL.assign rfl ?_
  refine SXL.nil ?_
  refine thenQ.normal ?_
  refine SX.ret ?_
  refine retQ.one (ResAt.tmp rfl) ?_
  first | rfl | assumption
theorem chk1_any (s : Sp) (bo ro : Option Addr) (bc rc : Nat) (w : World) :
    CallsR Tryd.prog 148 [.agg ⟨[.int .i64 s.weeks, .int .i64 s.most, .int .i64 s.fall, .int .i64 s.a0, .int .i64 s.a1, .int .i64 s.w0, .int .i64 s.w1, (.slice bo s.book.length bc), (.slice ro s.reads.length rc)]⟩] w (fun v _ => v = .bool (decide (ckP s 1))) := by
  refine CallsR.of_SX (n := 11) (rs := [.tmp 2]) Tryd.func148 rfl rfl rfl rfl ?_
  show SX _ _ _ ⟨[(0, .agg ⟨[.int .i64 s.weeks, .int .i64 s.most, .int .i64 s.fall, .int .i64 s.a0, .int .i64 s.a1, .int .i64 s.w0, .int .i64 s.w1, (.slice bo s.book.length bc), (.slice ro s.reads.length rc)]⟩)], [], []⟩
  refine SX.seq ?_
  refine SX.region ?_
  refine SXL.box rfl rfl ?_; intro b0
  refine SXL.assign rfl ?_
  refine SXL.nil ?_
  refine thenQ.normal ?_
  refine SX.seq ?_
  refine SX.region ?_
  refine SXL.fieldAddr fp_68_3 rfl ?_
  refine SXL.loadNo 0 sh_55 rfl rfl rfl ?_
  refine SXL.call1 (.bool (decide (Spn s.a0 s.a1 1 600))) fn_149 rfl (fun w hI => span_any _ _ _ _ _) ?_
  refine SXL.move rfl ?_
  apply SXL.andG 3
  case hl => exact rfl
  case hd => exact rfl
  case hg => exact rfl
  case ht =>
    intro g1
    refine SXL.fieldAddr fp_68_4 rfl ?_
    refine SXL.loadNo 0 sh_55 rfl rfl rfl ?_
    refine SXL.call1 (.bool (decide (Spn s.w0 s.w1 0 20))) fn_149 rfl (fun w hI => span_any _ _ _ _ _) ?_
    exact SXL.nil (segQ.mk (.skip rfl (.skip rfl (.skip rfl (.skip rfl (EnvSub.refl _))))) rfl rfl ⟨rfl, rfl⟩)
  case hf =>
    intro g1
    refine SXL.pass rfl rfl rfl ?_
    refine SXL.pass rfl rfl rfl ?_
    refine SXL.pass rfl rfl rfl ?_
    exact SXL.nil (segQ.mk (.skip rfl (.skip rfl (.skip rfl (.skip rfl (EnvSub.refl _))))) rfl rfl rfl)
  refine SXL.assign rfl ?_
  refine SXL.nil ?_
  refine thenQ.normal ?_
  refine SX.ret ?_
  refine retQ.one (ResAt.tmp rfl) ?_
  first | rfl | assumption
theorem chk2_any (s : Sp) (bo ro : Option Addr) (bc rc : Nat) (w : World) :
    CallsR Tryd.prog 150 [.agg ⟨[.int .i64 s.weeks, .int .i64 s.most, .int .i64 s.fall, .int .i64 s.a0, .int .i64 s.a1, .int .i64 s.w0, .int .i64 s.w1, (.slice bo s.book.length bc), (.slice ro s.reads.length rc)]⟩] w (fun v _ => v = .bool (decide (ckP s 2))) := by
  refine CallsR.of_SX (n := 13) (rs := [.tmp 2]) Tryd.func150 rfl rfl rfl rfl ?_
  show SX _ _ _ ⟨[(0, .agg ⟨[.int .i64 s.weeks, .int .i64 s.most, .int .i64 s.fall, .int .i64 s.a0, .int .i64 s.a1, .int .i64 s.w0, .int .i64 s.w1, (.slice bo s.book.length bc), (.slice ro s.reads.length rc)]⟩)], [], []⟩
  refine SX.seq ?_
  refine SX.region ?_
  refine SXL.box rfl rfl ?_; intro b0
  refine SXL.assign rfl ?_
  refine SXL.nil ?_
  refine thenQ.normal ?_
  refine SX.seq ?_
  refine SX.region ?_
  refine SXL.fieldAddr fp_68_5 rfl ?_
  refine SXL.load1o 0 sh_65 rfl rfl rfl ?_
  refine SXL.len is_65 rfl ?_
  refine SXL.leq rfl rfl ?_
  refine SXL.move rfl ?_
  apply SXL.andG 4
  case hl => exact rfl
  case hd => exact rfl
  case hg => exact rfl
  case ht =>
    intro g1
    refine SXL.fieldAddr fp_68_6 rfl ?_
    refine SXL.load1o 0 sh_66 rfl rfl rfl ?_
    refine SXL.len is_66 rfl ?_
    refine SXL.leq rfl rfl ?_
    exact SXL.nil (segQ.mk (.skip rfl (.skip rfl (.skip rfl (.skip rfl (.skip rfl (EnvSub.refl _)))))) rfl rfl ⟨rfl, rfl⟩)
  case hf =>
    intro g1
    refine SXL.pass rfl rfl rfl ?_
    refine SXL.pass rfl rfl rfl ?_
    refine SXL.pass rfl rfl rfl ?_
    refine SXL.pass rfl rfl rfl ?_
    exact SXL.nil (segQ.mk (.skip rfl (.skip rfl (.skip rfl (.skip rfl (.skip rfl (EnvSub.refl _)))))) rfl rfl rfl)
  refine SXL.assign rfl ?_
  refine SXL.nil ?_
  refine thenQ.normal ?_
  refine SX.ret ?_
  refine retQ.one (ResAt.tmp rfl) ?_
  first | rfl | assumption
theorem line_any (x : Ln) (weeks : Int) (b : Nat) (hw : Wi weeks 1 10) (w : World) (h : w.cell? ⟨b, 0, none⟩ = some (.int .i64 weeks)) :
    CallsR Tryd.prog 153 [.agg ⟨x.cells⟩, .pointer (some ⟨b, 0, none⟩)] w (fun v _ => v = .bool (decide (¬LnP x weeks))) := by
  refine CallsR.of_SX (n := 24) (rs := [.tmp 3]) Tryd.func153 rfl rfl rfl rfl ?_
  show SX _ _ _ ⟨[(0, .agg ⟨x.cells⟩), (1, .pointer (some ⟨b, 0, none⟩))], [], []⟩
  refine SX.seq ?_
  refine SX.region ?_
  refine SXL.box rfl rfl ?_; intro b0
  refine SXL.assign rfl ?_
  refine SXL.nil ?_
  refine thenQ.normal ?_
  refine SX.seq ?_
  refine SX.region ?_
  refine SXL.fieldAddr fp_129_0 rfl ?_
  refine SXL.loadNo 0 sh_55 rfl rfl rfl ?_
  refine SXL.call1 (.bool (decide (Spn x.r0 x.r1 0 20))) fn_149 rfl (fun w hI => span_any _ _ _ _ _) ?_
  refine SXL.not rfl ?_
  refine SXL.move rfl ?_
  apply SXL.orG 8
  case hl => exact rfl
  case hd => exact rfl
  case hg => exact rfl
  case ht =>
    intro g1
    refine SXL.pass rfl rfl rfl ?_
    refine SXL.pass rfl rfl rfl ?_
    refine SXL.pass rfl rfl rfl ?_
    refine SXL.pass rfl rfl rfl ?_
    refine SXL.pass rfl rfl rfl ?_
    refine SXL.pass rfl rfl rfl ?_
    refine SXL.pass rfl rfl rfl ?_
    refine SXL.pass rfl rfl rfl ?_
    exact SXL.nil (segQ.mk (.skip rfl (.skip rfl (.skip rfl (.skip rfl (.skip rfl (.skip rfl (.skip rfl (.skip rfl (.skip rfl (EnvSub.refl _)))))))))) rfl rfl rfl)
  case hf =>
    intro g1
    refine SXL.fieldAddr fp_68_0 rfl ?_
    refine SXL.load1 sh_3 rfl (Mem.out1 h) ?_
    refine SXL.sub rfl rfl (by omega) ?_
    refine SXL.fieldAddr fp_129_1 rfl ?_
    refine SXL.load1o 0 sh_3 rfl rfl rfl ?_
    refine SXL.buildSlice et_33 zp_3 rfl rfl rfl rfl ?_; intro b1
    refine SXL.call1 (.bool (decide (Wi (x.wk) (0) (weeks - 1)))) fn_109 rfl (fun w hI => in1_own hI 1 (x.wk) (0) (weeks - 1) rfl) ?_
    refine SXL.not rfl ?_
    exact SXL.ownPre (SXL.nil (segQ.mk (.skip rfl (.skip rfl (.skip rfl (.skip rfl (.skip rfl (.skip rfl (.skip rfl (.skip rfl (.skip rfl (EnvSub.refl _)))))))))) rfl rfl ⟨rfl, rfl⟩)) rfl
  refine SXL.move rfl ?_
  apply SXL.orG 4
  case hl => exact rfl
  case hd => exact rfl
  case hg => exact rfl
  case ht =>
    intro g2
    refine SXL.pass rfl rfl rfl ?_
    refine SXL.pass rfl rfl rfl ?_
    refine SXL.pass rfl rfl rfl ?_
    refine SXL.pass rfl rfl rfl ?_
    exact SXL.nil (segQ.mk (.skip rfl (.skip rfl (.skip rfl (.skip rfl (.skip rfl (EnvSub.refl _)))))) rfl rfl rfl)
  case hf =>
    intro g2
    refine SXL.fieldAddr fp_129_2 rfl ?_
    refine SXL.loadNo 0 sh_55 rfl rfl rfl ?_
    refine SXL.call1 (.bool (decide (Spn x.g0 x.g1 0 100))) fn_149 rfl (fun w hI => span_any _ _ _ _ _) ?_
    refine SXL.not rfl ?_
    exact SXL.nil (segQ.mk (.skip rfl (.skip rfl (.skip rfl (.skip rfl (.skip rfl (EnvSub.refl _)))))) rfl rfl ⟨rfl, rfl⟩)
  refine SXL.assign rfl ?_
  refine SXL.nil ?_
  refine thenQ.normal ?_
  refine SX.ret ?_
  refine retQ.one (ResAt.tmp rfl) ?_
  exact congrArg Value.bool (decide_eq_decide.2 (by unfold LnP Spn; omega))
theorem chk3_any (s : Sp) (bo ro : Option Addr) (bc rc : Nat) (hw : Wi s.weeks 1 10) (hb : s.book.length ≤ 1000000) (w : World) (hs : SpAt w s bo ro) :
    CallsR Tryd.prog 151 [.agg ⟨[.int .i64 s.weeks, .int .i64 s.most, .int .i64 s.fall, .int .i64 s.a0, .int .i64 s.a1, .int .i64 s.w0, .int .i64 s.w1, (.slice bo s.book.length bc), (.slice ro s.reads.length rc)]⟩] w (fun v _ => v = .bool (decide (ckP s 3))) := by
  refine CallsR.of_SX (n := 8) (rs := [.tmp 2]) Tryd.func151 rfl rfl rfl rfl ?_
  show SX _ _ _ ⟨[(0, .agg ⟨[.int .i64 s.weeks, .int .i64 s.most, .int .i64 s.fall, .int .i64 s.a0, .int .i64 s.a1, .int .i64 s.w0, .int .i64 s.w1, (.slice bo s.book.length bc), (.slice ro s.reads.length rc)]⟩)], [], []⟩
  refine SX.seq ?_
  refine SX.region ?_
  refine SXL.box rfl rfl ?_; intro b0
  refine SXL.assign rfl ?_
  refine SXL.nil ?_
  refine thenQ.normal ?_
  refine SX.seq ?_
  refine SX.region ?_
  refine SXL.fieldAddr fp_68_5 rfl ?_
  refine SXL.load1o 0 sh_65 rfl rfl rfl ?_
  refine SXL.makeFunc rfl rfl ?_
  refine SXL.call1 (.bool (decide (0 ≤ idxF (fun k => ¬LnP (s.book.getD k default) s.weeks) s.book.length))) fn_152 rfl (fun w hI => containsFuncLines s bo bc 153 [] [.pointer (some ⟨b0, 0, none⟩)] (fun k => ¬LnP (s.book.getD k default) s.weeks) fn_153 hb w (hs.book.inv hI) (fun k hk w' hb => line_any _ s.weeks b0 hw w' (ownCell (hI.ext hb) (i := 0) rfl rfl))) ?_
  refine SXL.not rfl ?_
  refine SXL.assign rfl ?_
  refine SXL.nil ?_
  refine thenQ.normal ?_
  refine SX.ret ?_
  refine retQ.one (ResAt.tmp rfl) ?_
  exact congrArg Value.bool (decide_eq_decide.2 (by rw [idxF_nonneg]; exact book_iff s))
theorem chk4_any (s : Sp) (bo ro : Option Addr) (bc rc : Nat) (hw : Wi s.weeks 1 10) (hr : s.reads.length ≤ 1000000) (w : World) (hs : SpAt w s bo ro) :
    CallsR Tryd.prog 154 [.agg ⟨[.int .i64 s.weeks, .int .i64 s.most, .int .i64 s.fall, .int .i64 s.a0, .int .i64 s.a1, .int .i64 s.w0, .int .i64 s.w1, (.slice bo s.book.length bc), (.slice ro s.reads.length rc)]⟩] w (fun v _ => v = .bool (decide (ckP s 4))) := by
  refine CallsR.of_SX (n := 27) (rs := [.tmp 2]) Tryd.func154 rfl rfl rfl rfl ?_
  show SX _ _ _ ⟨[(0, .agg ⟨[.int .i64 s.weeks, .int .i64 s.most, .int .i64 s.fall, .int .i64 s.a0, .int .i64 s.a1, .int .i64 s.w0, .int .i64 s.w1, (.slice bo s.book.length bc), (.slice ro s.reads.length rc)]⟩)], [], []⟩
  refine SX.seq ?_
  refine SX.region ?_
  refine SXL.box rfl rfl ?_; intro b0
  refine SXL.assign rfl ?_
  refine SXL.nil ?_
  refine thenQ.normal ?_
  refine SX.seq ?_
  refine SX.region ?_
  refine SXL.assign rfl ?_
  refine SXL.nil ?_
  refine thenQ.normal ?_
  refine SX.seq ?_
  refine SX.seq ?_
  refine SX.region ?_
  refine SXL.fieldAddr fp_68_6 rfl ?_
  refine SXL.load1o 0 sh_66 rfl rfl rfl ?_
  refine SXL.len is_66 rfl ?_
  refine SXL.move rfl ?_
  refine SXL.nil ?_
  refine thenQ.normal ?_
  refine SX.block ?_
  refine SX.loopG (α := Nat) [1, 2, 7, 8] rfl (fun k => [(9, .int .i64 ((k : Int))), (3, .int .i64 ((lastN s k)))]) (fun k => []) (fun k => k ≤ s.reads.length ∧ ∀ i, i < k → RdP (s.reads.getD i default) s.weeks ∧ lastN s i < (s.reads.getD i default).num) (fun k => s.reads.length - k) 0 ⟨Nat.zero_le _, fun _ h => absurd h (Nat.not_lt_zero _)⟩ ⟨rfl, rfl, trivial⟩ rfl ?_
  rintro k ⟨hk, hall⟩
  refine SX.seq ?_
  refine SX.region ?_
  refine SXL.lss rfl rfl ?_
  refine SXL.nil ?_
  refine thenQ.normal ?_
  refine SX.seq ?_
  refine SX.condP rfl (fun c10 => ?_) (fun c10 => ?_)
  · refine SX.skip ?_
    refine thenQ.normal ?_
    refine SX.seq ?_
    refine SX.block ?_
    refine SX.seq ?_
    obtain ⟨b, o, ha, hm⟩ := hs.readD (i := k) (by omega)
    refine SX.region ?_
    refine SXL.indexR el_66 rfl rfl ha (by omega) ?_
    refine SXL.loadN sh_131 rfl (hm _) rfl ?_
    refine SXL.alloc zp_131 ?_; intro b1
    refine SXL.store 1 sz_131 rfl rfl rfl rfl rfl rfl ?_
    refine SXL.nil ?_
    refine thenQ.normal ?_
    refine SX.seq ?_
    refine SX.seq ?_
    refine SX.region ?_
    refine SXL.fieldAddr fp_131_0 rfl ?_
    refine SXL.load1o 1 sh_3 rfl rfl rfl ?_
    refine SXL.move rfl ?_
    refine SXL.leq rfl rfl ?_
    refine SXL.move rfl ?_
    apply SXL.orG 5
    case hl => exact rfl
    case hd => exact rfl
    case hg => exact rfl
    case ht =>
      intro c23
      refine SXL.pass rfl rfl rfl ?_
      refine SXL.pass rfl rfl rfl ?_
      refine SXL.pass rfl rfl rfl ?_
      refine SXL.pass rfl rfl rfl ?_
      refine SXL.pass rfl rfl rfl ?_
      exact SXL.nil (segQ.mk (.skip rfl (.skip rfl (.skip rfl (.skip rfl (.skip rfl (.skip rfl (EnvSub.refl _))))))) rfl rfl rfl)
    case hf =>
      intro c23
      refine SXL.loadNo 1 sh_131 rfl rfl rfl ?_
      refine SXL.fieldAddr fp_68_0 rfl ?_
      refine SXL.load1o 0 sh_3 rfl rfl rfl ?_
      refine SXL.call1 (.bool (decide (RdP (s.reads.getD k default) s.weeks))) fn_155 rfl (fun w hI => readable_any _ _ (by omega) _) ?_
      refine SXL.not rfl ?_
      exact SXL.nil (segQ.mk (.skip rfl (.skip rfl (.skip rfl (.skip rfl (.skip rfl (.skip rfl (EnvSub.refl _))))))) rfl rfl ⟨rfl, rfl⟩)
    refine SXL.nil ?_
    refine thenQ.normal ?_
    refine SX.condP rfl (fun c23 => ?_) (fun c23 => ?_)
    · refine SX.seq ?_
      refine SX.region ?_
      refine SXL.assign rfl ?_
      refine SXL.nil ?_
      refine thenQ.normal ?_
      refine SX.ret ?_
      refine thenQ.ret ?_
      refine blockQ.ret ?_
      refine thenQ.ret ?_
      refine thenQ.ret ?_
      refine blockQ.ret ?_
      refine thenQ.ret ?_
      refine retQ.one (ResAt.tmp rfl) ?_
      exact congrArg Value.bool (decide_eq_false (by intro h; have := (reads_iff s).1 h k (by omega); omega)).symm
    · refine SX.skip ?_
      refine thenQ.normal ?_
      refine SX.region ?_
      refine SXL.fieldAddr fp_131_0 rfl ?_
      refine SXL.load1o 1 sh_3 rfl rfl rfl ?_
      refine SXL.assign rfl ?_
      refine SXL.nil ?_
      refine blockQ.normal ?_
      refine thenQ.normal ?_
      refine SX.region ?_
      refine SXL.add rfl rfl (by omega) ?_
      refine SXL.move rfl ?_
      refine SXL.nil ?_
      refine thenQ.normal ?_
      refine ⟨k + 1, Meets.mk _ ⟨rfl, rfl, trivial⟩ ⟨rfl, rfl, rfl, rfl, trivial⟩ rfl, ?_, (by omega)⟩
      refine ⟨by omega, fun i hi => ?_⟩
      by_cases e : i = k
      · subst e; omega
      · exact hall i (by omega)
  · refine SX.exit ?_
    refine thenQ.exit ?_
    refine thenQ.exit ?_
    refine blockQ.exit ?_
    refine thenQ.normal ?_
    refine SX.seq ?_
    refine SX.region ?_
    refine SXL.assign rfl ?_
    refine SXL.nil ?_
    refine thenQ.normal ?_
    refine SX.ret ?_
    refine retQ.one (ResAt.tmp rfl) ?_
    exact congrArg Value.bool (decide_eq_true ((reads_iff s).2 fun i hi => hall i (by omega))).symm
theorem chk_any (s : Sp) (bo ro : Option Addr) (bc rc : Nat) (k : Nat) (hk : k < 5) (hall : ∀ i, i < k → ckP s i) (hb : s.book.length ≤ 1000000) (hr : s.reads.length ≤ 1000000) (w : World) (hs : SpAt w s bo ro) :
    CallsR Tryd.prog (chkId k) [.agg ⟨[.int .i64 s.weeks, .int .i64 s.most, .int .i64 s.fall, .int .i64 s.a0, .int .i64 s.a1, .int .i64 s.w0, .int .i64 s.w1, (.slice bo s.book.length bc), (.slice ro s.reads.length rc)]⟩] w (fun v _ => v = .bool (decide (ckP s k))) := by
  match k, hk with
  | 0, _ => exact chk0_any s bo ro bc rc w
  | 1, _ => exact chk1_any s bo ro bc rc w
  | 2, _ => exact chk2_any s bo ro bc rc w
  | 3, _ => exact chk3_any s bo ro bc rc (hall 0 (by omega)).1 hb w hs
  | 4, _ => exact chk4_any s bo ro bc rc (hall 0 (by omega)).1 hr w hs
theorem fn_chk (k : Nat) (hk : k < 5) : fnOk Tryd.prog (chkId k) = true := by
  match k, hk with
  | 0, _ => exact fn_147
  | 1, _ => exact fn_148
  | 2, _ => exact fn_150
  | 3, _ => exact fn_151
  | 4, _ => exact fn_154
end Go.Proofs.YtolcicaclflagaaDoor

/- The walks of functions. -/
namespace Go.Proofs.YtolcicaclflagaaDoor
open Go.X Go.S Go.RowKit
theorem scheck_any (s : Sp) (bo ro : Option Addr) (bc rc : Nat) (hb : s.book.length ≤ 1000000) (hr : s.reads.length ≤ 1000000) (w : World) (hg : Gl w) (hs : SpAt w s bo ro) :
    CallsR Tryd.prog 112 [.agg ⟨[.int .i64 s.weeks, .int .i64 s.most, .int .i64 s.fall, .int .i64 s.a0, .int .i64 s.a1, .int .i64 s.w0, .int .i64 s.w1, (.slice bo s.book.length bc), (.slice ro s.reads.length rc)]⟩] w (fun v _ => v = .int .i64 (if SpP s then 0 else 10)) := by
  refine CallsR.of_SX (n := 15) (rs := [.tmp 2]) Tryd.func112 rfl rfl rfl rfl ?_
  show SX _ _ _ ⟨[(0, .agg ⟨[.int .i64 s.weeks, .int .i64 s.most, .int .i64 s.fall, .int .i64 s.a0, .int .i64 s.a1, .int .i64 s.w0, .int .i64 s.w1, (.slice bo s.book.length bc), (.slice ro s.reads.length rc)]⟩)], [], []⟩
  refine SX.seq ?_
  refine SX.region ?_
  refine SXL.box rfl rfl ?_; intro b0
  refine SXL.assign rfl ?_
  refine SXL.nil ?_
  refine thenQ.normal ?_
  refine SX.seq ?_
  refine SX.seq ?_
  refine SX.region ?_
  refine SXL.loadN sh_166 rfl (hg.memC _) rfl ?_
  refine SXL.move rfl ?_
  refine SXL.nil ?_
  refine thenQ.normal ?_
  refine SX.block ?_
  refine SX.loopG (α := Nat) [1, 2, 5] rfl (fun k => [(6, .int .i64 ((k : Int)))]) (fun k => []) (fun k => k ≤ 5 ∧ ∀ i, i < k → ckP s i) (fun k => 5 - k) 0 ⟨Nat.zero_le _, fun _ h => absurd h (Nat.not_lt_zero _)⟩ ⟨rfl, trivial⟩ rfl ?_
  rintro k ⟨hk, hall⟩
  refine SX.seq ?_
  refine SX.region ?_
  refine SXL.lss rfl rfl ?_
  refine SXL.nil ?_
  refine thenQ.normal ?_
  refine SX.seq ?_
  refine SX.condP rfl (fun c7 => ?_) (fun c7 => ?_)
  · refine SX.skip ?_
    refine thenQ.normal ?_
    refine SX.seq ?_
    refine SX.block ?_
    refine SX.seq ?_
    refine SX.region ?_
    refine SXL.indexV ae_166 sh_165 rfl rfl (by omega) (chk_take k (by omega)) ?_
    refine SXL.alloc zp_165 ?_; intro b1
    refine SXL.store 1 sz_165 rfl rfl rfl rfl rfl rfl ?_
    refine SXL.nil ?_
    refine thenQ.normal ?_
    refine SX.seq ?_
    refine SX.region ?_
    refine SXL.fieldAddr fp_165_0 rfl ?_
    refine SXL.load1o 1 sh_71 rfl rfl rfl ?_
    refine SXL.loadNo 0 sh_68 rfl rfl rfl ?_
    refine SXL.call1V (.bool (decide (ckP s k))) (fn_chk k (by omega)) rfl rfl (fun w hI => chk_any s bo ro bc rc k (by omega) hall hb hr w (hs.inv hI)) ?_
    refine SXL.not rfl ?_
    refine SXL.nil ?_
    refine thenQ.normal ?_
    refine SX.condP rfl (fun c13 => ?_) (fun c13 => ?_)
    · refine SX.seq ?_
      refine SX.region ?_
      refine SXL.assign rfl ?_
      refine SXL.nil ?_
      refine thenQ.normal ?_
      refine SX.ret ?_
      refine blockQ.ret ?_
      refine thenQ.ret ?_
      refine thenQ.ret ?_
      refine blockQ.ret ?_
      refine thenQ.ret ?_
      refine retQ.one (ResAt.tmp rfl) ?_
      rw [if_neg (fun h => c13 ((ck_iff s).1 h k (by omega)))]
    · refine SX.skip ?_
      refine blockQ.normal ?_
      refine thenQ.normal ?_
      refine SX.region ?_
      refine SXL.add rfl rfl (by omega) ?_
      refine SXL.move rfl ?_
      refine SXL.nil ?_
      refine thenQ.normal ?_
      refine ⟨k + 1, Meets.mk _ ⟨rfl, trivial⟩ ⟨rfl, rfl, rfl, trivial⟩ rfl, ?_, (by omega)⟩
      refine ⟨by omega, fun i hi => ?_⟩
      by_cases e : i = k
      · subst e; exact Decidable.not_not.1 c13
      · exact hall i (by omega)
  · refine SX.exit ?_
    refine thenQ.exit ?_
    refine thenQ.exit ?_
    refine blockQ.exit ?_
    refine thenQ.normal ?_
    refine SX.seq ?_
    refine SX.region ?_
    refine SXL.assign rfl ?_
    refine SXL.nil ?_
    refine thenQ.normal ?_
    refine SX.ret ?_
    refine retQ.one (ResAt.tmp rfl) ?_
    rw [if_pos ((ck_iff s).2 fun i hi => hall i (by omega))]
theorem both_any (a b c d : Int) (w : World) (hg : Gl w) :
    CallsR Tryd.prog 118 [.agg ⟨[.int .i64 a, .int .i64 b]⟩, .agg ⟨[.int .i64 c, .int .i64 d]⟩] w (fun v _ => v = spanV (bothP a b c d)) := by
  refine CallsR.of_SX (n := 24) (rs := [.cell 4 55]) Tryd.func118 rfl rfl rfl rfl ?_
  show SX _ _ _ ⟨[(0, .agg ⟨[.int .i64 a, .int .i64 b]⟩), (1, .agg ⟨[.int .i64 c, .int .i64 d]⟩)], [], []⟩
  refine SX.seq ?_
  refine SX.region ?_
  refine SXL.box rfl rfl ?_; intro b0
  refine SXL.box rfl rfl ?_; intro b1
  refine SXL.alloc zp_55 ?_; intro b2
  refine SXL.nil ?_
  refine thenQ.normal ?_
  refine SX.seq ?_
  refine SX.region ?_
  refine SXL.fieldAddr fp_55_0 rfl ?_
  refine SXL.load1o 0 sh_3 rfl rfl rfl ?_
  refine SXL.fieldAddr fp_55_0 rfl ?_
  refine SXL.load1o 1 sh_3 rfl rfl rfl ?_
  refine SXL.max rfl rfl ?_
  refine SXL.fieldAddr fp_55_1 rfl ?_
  refine SXL.load1o 0 sh_3 rfl rfl rfl ?_
  refine SXL.fieldAddr fp_55_1 rfl ?_
  refine SXL.load1o 1 sh_3 rfl rfl rfl ?_
  refine SXL.min rfl rfl ?_
  refine SXL.buildS pl_55 zp_55 rfl rfl ?_
  refine SXL.alloc zp_55 ?_; intro b3
  refine SXL.store 3 sz_55 rfl rfl rfl rfl rfl rfl ?_
  refine SXL.nil ?_
  refine thenQ.normal ?_
  refine SX.seq ?_
  refine SX.seq ?_
  refine SX.region ?_
  refine SXL.fieldAddr fp_55_0 rfl ?_
  refine SXL.load1o 3 sh_3 rfl rfl rfl ?_
  refine SXL.fieldAddr fp_55_1 rfl ?_
  refine SXL.load1o 3 sh_3 rfl rfl rfl ?_
  refine SXL.gtr rfl rfl ?_
  refine SXL.nil ?_
  refine thenQ.normal ?_
  refine SX.condP rfl (fun c21 => ?_) (fun c21 => ?_)
  · refine SX.seq ?_
    refine SX.region ?_
    refine SXL.loadN sh_55 rfl (hg.memN _) rfl ?_
    refine SXL.store 2 sz_55 rfl rfl rfl rfl rfl rfl ?_
    refine SXL.nil ?_
    refine thenQ.normal ?_
    refine SX.ret ?_
    refine thenQ.ret ?_
    refine retQ.one (ResAt.cellNo 2 sh_55 rfl rfl rfl) ?_
    rw [bothP, if_pos c21]; rfl
  · refine SX.skip ?_
    refine thenQ.normal ?_
    refine SX.seq ?_
    refine SX.region ?_
    refine SXL.loadNo 3 sh_55 rfl rfl rfl ?_
    refine SXL.store 2 sz_55 rfl rfl rfl rfl rfl rfl ?_
    refine SXL.nil ?_
    refine thenQ.normal ?_
    refine SX.ret ?_
    refine retQ.one (ResAt.cellNo 2 sh_55 rfl rfl rfl) ?_
    rw [bothP, if_neg c21]; rfl
theorem reads_any (s : Sp) (bo ro : Option Addr) (bc rc : Nat) (x : Rd) (h1 : Spn s.a0 s.a1 1 600) (h2 : Spn x.s0 x.s1 0 99) (h3 : Wi x.bu 1 40) (h4 : 0 < x.s1) (_h5 : Wi s.most 0 100) (w : World) (hg : Gl w) :
    CallsR Tryd.prog 119 [.agg ⟨[.int .i64 s.weeks, .int .i64 s.most, .int .i64 s.fall, .int .i64 s.a0, .int .i64 s.a1, .int .i64 s.w0, .int .i64 s.w1, (.slice bo s.book.length bc), (.slice ro s.reads.length rc)]⟩, .agg ⟨x.cells⟩] w (fun v _ => v = spanV (readsP s x)) := by
  have m1 := mul2 (a := x.s1) (b := s.a1) (A := 99) (B := 600) (by omega) (by omega) (by omega) (by omega)
  have m2 := mul2 (a := x.s0) (b := s.a0) (A := 99) (B := 600) (by omega) (by omega) (by omega) (by omega)
  have m3 := Int.mul_pos h4 (show 0 < s.a1 by omega)
  refine CallsR.of_SX (n := 49) (rs := [.cell 4 55]) Tryd.func119 rfl rfl rfl rfl ?_
  show SX _ _ _ ⟨[(0, .agg ⟨[.int .i64 s.weeks, .int .i64 s.most, .int .i64 s.fall, .int .i64 s.a0, .int .i64 s.a1, .int .i64 s.w0, .int .i64 s.w1, (.slice bo s.book.length bc), (.slice ro s.reads.length rc)]⟩), (1, .agg ⟨x.cells⟩)], [], []⟩
  refine SX.seq ?_
  refine SX.region ?_
  refine SXL.box rfl rfl ?_; intro b0
  refine SXL.box rfl rfl ?_; intro b1
  refine SXL.alloc zp_55 ?_; intro b2
  refine SXL.nil ?_
  refine thenQ.normal ?_
  refine SX.seq ?_
  refine SX.region ?_
  refine SXL.fieldAddr fp_131_2 rfl ?_
  refine SXL.load1o 1 sh_3 rfl rfl rfl ?_
  refine SXL.mul rfl rfl (by omega) ?_
  refine SXL.assign rfl ?_
  refine SXL.nil ?_
  refine thenQ.normal ?_
  refine SX.seq ?_
  refine SX.draw 16 (by kernel_rfl) (by kernel_rfl) {} ?_
  refine SXA.take 0 16 rfl (by kernel_rfl) rfl ?_
  refine SXL.fieldAddr fp_131_3 rfl ?_
  refine SXL.fieldAddr fp_55_1 rfl ?_
  refine SXL.load1o 1 sh_3 rfl rfl rfl ?_
  refine SXL.fieldAddr fp_68_3 rfl ?_
  refine SXL.fieldAddr fp_55_1 rfl ?_
  refine SXL.load1o 0 sh_3 rfl rfl rfl ?_
  refine SXL.mul rfl rfl (by omega) ?_
  refine SXL.fieldAddr fp_131_3 rfl ?_
  refine SXL.fieldAddr fp_55_0 rfl ?_
  refine SXL.load1o 1 sh_3 rfl rfl rfl ?_
  refine SXL.fieldAddr fp_68_3 rfl ?_
  refine SXL.fieldAddr fp_55_0 rfl ?_
  refine SXL.load1o 0 sh_3 rfl rfl rfl ?_
  refine SXL.mul rfl rfl (by omega) ?_
  refine SXL.assign rfl ?_
  refine SXL.assign rfl ?_
  refine SXL.nil ⟨rfl, rfl, rfl, ?_⟩
  refine SXA.done (by kernel_rfl) ?_
  refine SXL.nil ?_
  refine thenQ.normal ?_
  refine SX.seq ?_
  refine SX.draw 10 (by kernel_rfl) (by kernel_rfl) {} ?_
  refine SXA.take 0 9 rfl (by kernel_rfl) rfl ?_
  refine SXL.move rfl ?_
  refine SXL.move rfl ?_
  refine SXL.add rfl rfl (by omega) ?_
  refine SXL.sub rfl rfl (by omega) ?_
  refine SXL.move rfl ?_
  refine SXL.quo rfl rfl (by omega) ?_
  refine SXL.fieldAddr fp_68_1 rfl ?_
  refine SXL.load1o 0 sh_3 rfl rfl rfl ?_
  refine SXL.buildS pl_55 zp_55 rfl rfl ?_
  refine SXL.nil ⟨rfl, rfl, rfl, ?_⟩
  refine SXA.all [9] (by kernel_rfl) rfl ⟨⟨?_, rfl⟩, trivial⟩
  refine (show SXL _ _ [_] _ _ from ?_)
  refine SXL.alloc zp_55 ?_; intro b3
  refine SXL.nil (stepQ.mk _ rfl rfl ?_)
  refine SXA.done (by kernel_rfl) ?_
  refine SXL.store 3 sz_55 rfl rfl rfl rfl rfl rfl ?_
  refine SXL.nil ?_
  refine thenQ.normal ?_
  refine SX.cutG (α := Unit) [2, 4, 8] rfl (fun _u => []) (fun _u => [(3, (b3, .cells ⟨[.int .i64 ((3600 * x.bu + x.s1 * s.a1 - 1) / (x.s1 * s.a1)), .int .i64 (if 0 < x.s0 * s.a0 then min s.most ((3600 * x.bu) / (x.s0 * s.a0)) else s.most)]⟩ 55 (0, 0)))]) (fun _u => True) ?_ ?_
  · refine SX.seq ?_
    refine SX.region ?_
    refine SXL.move rfl ?_
    refine SXL.gtr rfl rfl ?_
    refine SXL.nil ?_
    refine thenQ.normal ?_
    refine SX.condP rfl (fun c36 => ?_) (fun c36 => ?_)
    · refine SX.draw 7 (by kernel_rfl) (by kernel_rfl) {} ?_
      refine SXA.take 0 7 rfl (by kernel_rfl) rfl ?_
      refine SXL.fieldAddr fp_55_1 rfl ?_
      refine SXL.load1o 3 sh_3 rfl rfl rfl ?_
      refine SXL.move rfl ?_
      refine SXL.move rfl ?_
      refine SXL.quo rfl rfl (by omega) ?_
      refine SXL.min rfl rfl ?_
      refine SXL.fieldAddr fp_55_1 rfl ?_
      refine SXL.nil ⟨rfl, rfl, rfl, ?_⟩
      refine SXA.done (by kernel_rfl) ?_
      refine SXL.store 3 sz_3 rfl rfl rfl rfl rfl rfl ?_
      refine SXL.nil ?_
      refine thenQ.normal ?_
      refine ⟨(), Meets.mk _ trivial ⟨rfl, rfl, rfl, trivial⟩ (by first | (rw [if_pos c36]; rfl) | (rw [if_neg c36]; rfl)), trivial⟩
    · refine SX.skip ?_
      refine thenQ.normal ?_
      refine ⟨(), Meets.mk _ trivial ⟨rfl, rfl, rfl, trivial⟩ (by first | (rw [if_pos c36]; rfl) | (rw [if_neg c36]; rfl)), trivial⟩
  rintro _ _
  refine SX.seq ?_
  refine SX.region ?_
  refine SXL.loadNo 3 sh_55 rfl rfl rfl ?_
  refine SXL.fieldAddr fp_68_1 rfl ?_
  refine SXL.load1o 0 sh_3 rfl rfl rfl ?_
  refine SXL.buildS pl_55 zp_55 rfl rfl ?_
  refine SXL.call1 (spanV (bothP ((3600 * x.bu + x.s1 * s.a1 - 1) / (x.s1 * s.a1)) (if 0 < x.s0 * s.a0 then min s.most ((3600 * x.bu) / (x.s0 * s.a0)) else s.most) (0) (s.most))) fn_118 rfl (fun w hI => both_any _ _ _ _ _ (hg.inv hI)) ?_
  refine SXL.store 2 sz_55 rfl rfl rfl rfl rfl rfl ?_
  refine SXL.nil ?_
  refine thenQ.normal ?_
  refine SX.ret ?_
  refine retQ.one (ResAt.cellNo 2 sh_55 rfl rfl rfl) ?_
  first | rfl | assumption
theorem flowing_any (s : Sp) (bo ro : Option Addr) (bc rc : Nat) (hv : SpP s) (w : World) (hg : Gl w) (hs : SpAt w s bo ro) :
    CallsR Tryd.prog 113 [.agg ⟨[.int .i64 s.weeks, .int .i64 s.most, .int .i64 s.fall, .int .i64 s.a0, .int .i64 s.a1, .int .i64 s.w0, .int .i64 s.w1, (.slice bo s.book.length bc), (.slice ro s.reads.length rc)]⟩] w (fun v _ => v = .agg ⟨watC s bo ro bc rc (flL s)⟩) := by
  have hH := hv.1
  unfold HeadP at hH
  refine CallsR.of_SX (n := 43) (rs := [.cell 2 150]) Tryd.func113 rfl rfl rfl rfl ?_
  show SX _ _ _ ⟨[(0, .agg ⟨[.int .i64 s.weeks, .int .i64 s.most, .int .i64 s.fall, .int .i64 s.a0, .int .i64 s.a1, .int .i64 s.w0, .int .i64 s.w1, (.slice bo s.book.length bc), (.slice ro s.reads.length rc)]⟩)], [], []⟩
  refine SX.seq ?_
  refine SX.region ?_
  refine SXL.box rfl rfl ?_; intro b0
  refine SXL.alloc zp_150 ?_; intro b1
  refine SXL.nil ?_
  refine thenQ.normal ?_
  refine SX.seq ?_
  refine SX.region ?_
  refine SXL.loadNo 0 sh_68 rfl rfl rfl ?_
  refine SXL.buildS pl_150 zp_150 rfl rfl ?_
  refine SXL.alloc zp_150 ?_; intro b2
  refine SXL.store 2 sz_150 rfl rfl rfl rfl rfl rfl ?_
  refine SXL.nil ?_
  refine thenQ.normal ?_
  refine SX.seq ?_
  refine SX.seq ?_
  refine SX.region ?_
  refine SXL.fieldAddr fp_68_0 rfl ?_
  refine SXL.load1o 0 sh_3 rfl rfl rfl ?_
  refine SXL.move rfl ?_
  refine SXL.nil ?_
  refine thenQ.normal ?_
  refine SX.block ?_
  refine SX.loopG (α := Nat) [1, 2, 3, 10] rfl (fun k => [(11, .int .i64 ((k : Int)))]) (fun k => [(2, (b2, .cells ⟨watC s bo ro bc rc (fl0 s k)⟩ 150 (0, 0)))]) (fun k => k ≤ s.weeks.toNat) (fun k => s.weeks.toNat - k) 0 (Nat.zero_le _) ⟨rfl, trivial⟩ rfl ?_
  rintro k hk
  refine SX.seq ?_
  refine SX.region ?_
  refine SXL.lss rfl rfl ?_
  refine SXL.nil ?_
  refine thenQ.normal ?_
  refine SX.seq ?_
  refine SX.condP rfl (fun c1 => ?_) (fun c1 => ?_)
  · refine SX.skip ?_
    refine thenQ.normal ?_
    refine SX.seq ?_
    refine SX.block ?_
    refine SX.seq ?_
    refine SX.region ?_
    refine SXL.move rfl ?_
    refine SXL.assign rfl ?_
    refine SXL.nil ?_
    refine thenQ.normal ?_
    refine SX.region ?_
    refine SXL.move rfl ?_
    refine SXL.fieldAddr fp_68_1 rfl ?_
    refine SXL.load1o 0 sh_3 rfl rfl rfl ?_
    refine SXL.buildS pl_55 zp_55 rfl rfl ?_
    refine SXL.fieldAddr fp_150_1 rfl ?_
    refine SXL.indexA el_148 rfl rfl (by omega) ?_
    refine SXL.store 2 sz_55 rfl rfl rfl rfl rfl (putApp 9 rfl (ints_put2' (p := (0, s.most)) (i := k) rfl (by simp only [fl0_len]; omega)) (by omega)) ?_
    refine SXL.nil ?_
    refine blockQ.normal ?_
    refine thenQ.normal ?_
    refine SX.region ?_
    refine SXL.add rfl rfl (by omega) ?_
    refine SXL.move rfl ?_
    refine SXL.nil ?_
    refine thenQ.normal ?_
    refine ⟨k + 1, Meets.mk _ ⟨rfl, trivial⟩ ⟨rfl, rfl, rfl, rfl, trivial⟩ rfl, (by omega), (by omega)⟩
  · refine SX.exit ?_
    refine thenQ.exit ?_
    refine thenQ.exit ?_
    refine blockQ.exit ?_
    refine thenQ.normal ?_
    refine SX.seq ?_
    refine SX.seq ?_
    obtain rfl : k = s.weeks.toNat := by omega
    refine SX.region ?_
    refine SXL.fieldAddr fp_68_6 rfl ?_
    refine SXL.load1o 0 sh_66 rfl rfl rfl ?_
    refine SXL.len is_66 rfl ?_
    refine SXL.move rfl ?_
    refine SXL.nil ?_
    refine thenQ.normal ?_
    refine SX.block ?_
    refine SX.loopG (α := Nat) [1, 2, 3, 22, 23] rfl (fun k => [(24, .int .i64 ((k : Int)))]) (fun k => [(2, (b2, .cells ⟨watC s bo ro bc rc (flTo s k)⟩ 150 (0, 0)))]) (fun k => k ≤ s.reads.length) (fun k => s.reads.length - k) 0 (Nat.zero_le _) ⟨rfl, trivial⟩ rfl ?_
    rintro k hk2
    refine SX.seq ?_
    refine SX.region ?_
    refine SXL.lss rfl rfl ?_
    refine SXL.nil ?_
    refine thenQ.normal ?_
    refine SX.seq ?_
    refine SX.condP rfl (fun c2 => ?_) (fun c2 => ?_)
    · refine SX.skip ?_
      refine thenQ.normal ?_
      refine SX.seq ?_
      refine SX.block ?_
      refine SX.seq ?_
      obtain ⟨b, o, ha, hm⟩ := hs.readD (i := k) (by omega)
      have hrd := ((reads_iff s).1 hv.2.2 k (by omega)).1
      refine SX.region ?_
      refine SXL.indexR el_66 rfl rfl ha (by omega) ?_
      refine SXL.loadN sh_131 rfl (hm _) rfl ?_
      refine SXL.alloc zp_131 ?_; intro b3
      refine SXL.store 3 sz_131 rfl rfl rfl rfl rfl rfl ?_
      refine SXL.nil ?_
      refine thenQ.normal ?_
      refine SX.draw 13 (by kernel_rfl) (by kernel_rfl) {} ?_
      refine SXA.take 0 13 rfl (by kernel_rfl) rfl ?_
      refine SXL.fieldAddr fp_131_1 rfl ?_
      refine SXL.load1o 3 sh_3 rfl rfl rfl ?_
      refine SXL.fieldAddr fp_131_1 rfl ?_
      refine SXL.load1o 3 sh_3 rfl rfl rfl ?_
      refine SXL.fieldAddr fp_150_1 rfl ?_
      refine SXL.indexA el_148 rfl rfl (by omega) ?_
      refine SXL.loadNo 2 sh_55 rfl rfl (takeApp 9 rfl (ints_take2' (i := (s.reads.getD k default).wk.toNat) rfl (by simp only [flTo_len]; omega)) (by omega)) ?_
      refine SXL.loadNo 0 sh_68 rfl rfl rfl ?_
      refine SXL.loadNo 3 sh_131 rfl rfl rfl ?_
      refine SXL.call1 (spanV (readsP s (s.reads.getD k default))) fn_119 rfl (fun w hI => reads_any s bo ro bc rc (s.reads.getD k default) (by omega) (by omega) (by omega) (by omega) (by omega) _ (hg.inv hI)) ?_
      refine SXL.call1 (spanV (bothP (Lo (flTo s k) (s.reads.getD k default).wk.toNat) (Hi (flTo s k) (s.reads.getD k default).wk.toNat) ((readsP s (s.reads.getD k default)).1) ((readsP s (s.reads.getD k default)).2))) fn_118 rfl (fun w hI => both_any _ _ _ _ _ (hg.inv hI)) ?_
      refine SXL.fieldAddr fp_150_1 rfl ?_
      refine SXL.indexA el_148 rfl rfl (by omega) ?_
      refine SXL.nil ⟨rfl, rfl, rfl, ?_⟩
      refine SXA.done (by kernel_rfl) ?_
      refine SXL.store 2 sz_55 rfl rfl rfl rfl rfl (putApp 9 rfl (ints_put2' (p := bothP (Lo (flTo s k) (s.reads.getD k default).wk.toNat) (Hi (flTo s k) (s.reads.getD k default).wk.toNat) (readsP s (s.reads.getD k default)).1 (readsP s (s.reads.getD k default)).2) (i := (s.reads.getD k default).wk.toNat) rfl (by simp only [flTo_len]; omega)) (by omega)) ?_
      refine SXL.nil ?_
      refine blockQ.normal ?_
      refine thenQ.normal ?_
      refine SX.region ?_
      refine SXL.add rfl rfl (by omega) ?_
      refine SXL.move rfl ?_
      refine SXL.nil ?_
      refine thenQ.normal ?_
      refine ⟨k + 1, Meets.mk _ ⟨rfl, trivial⟩ ⟨rfl, rfl, rfl, rfl, rfl, trivial⟩ rfl, (by omega), (by omega)⟩
    · refine SX.exit ?_
      refine thenQ.exit ?_
      refine thenQ.exit ?_
      refine blockQ.exit ?_
      refine thenQ.normal ?_
      refine SX.seq ?_
      obtain rfl : k = s.reads.length := by omega
      refine SX.region ?_
      refine SXL.loadNo 2 sh_150 rfl rfl (takeAt_full (watC_len (by simp))) ?_
      refine SXL.store 1 sz_150 rfl rfl rfl rfl (watC_len (by simp)) (putAt_all _ _ (watC_len (by simp))) ?_ (watC_one _ _ _ _ _ _)
      refine SXL.nil ?_
      refine thenQ.normal ?_
      refine SX.ret ?_
      refine retQ.one (ResAt.cellNo 1 sh_150 rfl rfl (takeAt_full (watC_len (by simp)))) ?_
      first | rfl | assumption
end Go.Proofs.YtolcicaclflagaaDoor

/- The walks of functions. -/
namespace Go.Proofs.YtolcicaclflagaaDoor
open Go.X Go.S Go.RowKit
theorem indexSpans (M : List Int) (n : Nat) (a b : Int) (ao : Option Addr) (c : Nat) (hn : n ≤ 1000) (w : World) (h : RowsAt w ao 2 (pairs M n)) :
    CallsR Tryd.prog 124 [.slice ao n c, .agg ⟨[.int .i64 a, .int .i64 b]⟩] w (fun v _ => v = .int .i64 (idxF (fun k => [a, b] = [Lo M k, Hi M k]) n)) := by
  refine CallsR.of_SX (n := 19) (rs := [.tmp 4]) Tryd.func124 rfl rfl rfl rfl ?_
  show SX _ _ _ ⟨[(0, .slice ao n c), (1, .agg ⟨[.int .i64 a, .int .i64 b]⟩)], [], []⟩
  refine SX.seq ?_
  refine SX.region ?_
  refine SXL.box rfl rfl ?_; intro b0
  refine SXL.assign rfl ?_
  refine SXL.nil ?_
  refine thenQ.normal ?_
  refine SX.seq ?_
  refine SX.seq ?_
  refine SX.region ?_
  refine SXL.move rfl ?_
  refine SXL.len is_176 rfl ?_
  refine SXL.move rfl ?_
  refine SXL.nil ?_
  refine thenQ.normal ?_
  refine SX.block ?_
  refine SX.loopG (α := Nat) [0, 3, 4, 7] rfl (fun k => [(8, .int .i64 ((k : Int)))]) (fun k => []) (fun k => k ≤ n ∧ ∀ i, i < k → ¬[a, b] = [Lo M i, Hi M i]) (fun k => n - k) 0 ⟨Nat.zero_le _, fun _ h => absurd h (Nat.not_lt_zero _)⟩ ⟨rfl, trivial⟩ rfl ?_
  rintro k ⟨hk, hall⟩
  refine SX.seq ?_
  refine SX.region ?_
  refine SXL.lss rfl rfl ?_
  refine SXL.nil ?_
  refine thenQ.normal ?_
  refine SX.seq ?_
  refine SX.condP rfl (fun c9 => ?_) (fun c9 => ?_)
  · refine SX.skip ?_
    refine thenQ.normal ?_
    refine SX.seq ?_
    refine SX.block ?_
    refine SX.seq ?_
    refine SX.region ?_
    refine SXL.move rfl ?_
    refine SXL.assign rfl ?_
    refine SXL.nil ?_
    refine thenQ.normal ?_
    refine SX.seq ?_
    obtain ⟨b2, o, ha, hm⟩ := pairAt h (i := k) (by omega)
    refine SX.draw 6 (by kernel_rfl) (by kernel_rfl) {} ?_
    refine SXA.take 0 6 rfl (by kernel_rfl) rfl ?_
    refine SXL.loadNo 0 sh_55 rfl rfl rfl ?_
    refine SXL.move rfl ?_
    refine SXL.move rfl ?_
    refine SXL.indexR el_176 rfl rfl ha (by omega) ?_
    refine SXL.loadN sh_55 rfl (hm _) rfl ?_
    refine SXL.eqlV (p := [a, b] = [Lo M k, Hi M k]) (u := .agg ⟨ints ([a, b])⟩) (v := .agg ⟨ints ([Lo M k, Hi M k])⟩) rfl rfl (run_eql_ints eq_55 eg_55 sh_55 rfl rfl) ?_
    refine SXL.nil ⟨rfl, rfl, rfl, ?_⟩
    refine SXA.done (by kernel_rfl) ?_
    refine SXL.nil ?_
    refine thenQ.normal ?_
    refine SX.condP rfl (fun c16 => ?_) (fun c16 => ?_)
    · refine SX.seq ?_
      refine SX.region ?_
      refine SXL.move rfl ?_
      refine SXL.assign rfl ?_
      refine SXL.nil ?_
      refine thenQ.normal ?_
      refine SX.ret ?_
      refine blockQ.ret ?_
      refine thenQ.ret ?_
      refine thenQ.ret ?_
      refine blockQ.ret ?_
      refine thenQ.ret ?_
      refine retQ.one (ResAt.tmp rfl) ?_
      exact congrArg (Value.int .i64) (idxF_some (p := fun k => [a, b] = [Lo M k, Hi M k]) (by omega) c16 hall).symm
    · refine SX.skip ?_
      refine blockQ.normal ?_
      refine thenQ.normal ?_
      refine SX.region ?_
      refine SXL.add rfl rfl (by omega) ?_
      refine SXL.move rfl ?_
      refine SXL.nil ?_
      refine thenQ.normal ?_
      refine ⟨k + 1, Meets.mk _ ⟨rfl, trivial⟩ ⟨rfl, rfl, rfl, rfl, trivial⟩ rfl, ?_, (by omega)⟩
      refine ⟨by omega, fun i hi => ?_⟩
      by_cases e : i = k
      · subst e; exact c16
      · exact hall i (by omega)
  · refine SX.exit ?_
    refine thenQ.exit ?_
    refine thenQ.exit ?_
    refine blockQ.exit ?_
    refine thenQ.normal ?_
    refine SX.seq ?_
    refine SX.region ?_
    refine SXL.assign rfl ?_
    refine SXL.nil ?_
    refine thenQ.normal ?_
    refine SX.ret ?_
    refine retQ.one (ResAt.tmp rfl) ?_
    exact congrArg (Value.int .i64) (idxF_none (p := fun k => [a, b] = [Lo M k, Hi M k]) fun i hi => hall i (by omega)).symm
theorem containsSpans (M : List Int) (n : Nat) (a b : Int) (ao : Option Addr) (c : Nat) (hn : n ≤ 1000) (w : World) (h : RowsAt w ao 2 (pairs M n)) :
    CallsR Tryd.prog 123 [.slice ao n c, .agg ⟨[.int .i64 a, .int .i64 b]⟩] w (fun v _ => v = .bool (decide (0 ≤ idxF (fun k => [a, b] = [Lo M k, Hi M k]) n))) := by
  refine CallsR.of_SX (n := 9) (rs := [.tmp 4]) Tryd.func123 rfl rfl rfl rfl ?_
  show SX _ _ _ ⟨[(0, .slice ao n c), (1, .agg ⟨[.int .i64 a, .int .i64 b]⟩)], [], []⟩
  refine SX.seq ?_
  refine SX.region ?_
  refine SXL.box rfl rfl ?_; intro b0
  refine SXL.assign rfl ?_
  refine SXL.nil ?_
  refine thenQ.normal ?_
  refine SX.seq ?_
  refine SX.region ?_
  refine SXL.move rfl ?_
  refine SXL.loadNo 0 sh_55 rfl rfl rfl ?_
  refine SXL.call1 (.int .i64 (idxF (fun k => [a, b] = [Lo M k, Hi M k]) n)) fn_124 rfl (fun w hI => indexSpans M n a b ao c hn _ (h.inv hI)) ?_
  refine SXL.geq rfl rfl ?_
  refine SXL.assign rfl ?_
  refine SXL.nil ?_
  refine thenQ.normal ?_
  refine SX.ret ?_
  refine retQ.one (ResAt.tmp rfl) ?_
  first | rfl | assumption
set_option maxHeartbeats 2000000 in
theorem after_any (s : Sp) (bo ro : Option Addr) (bc rc : Nat) (R : List Int) (L : List Int) (hv : SpP s) (hW : RelW s R L) (rain : Int) (w : World) (hg : Gl w) (hs : SpAt w s bo ro) :
    CallsR Tryd.prog 122 [.agg ⟨watC s bo ro bc rc R⟩, .int .i64 rain] w (fun v _ => AfterR s L rain v) := by
  have hH := hv.1
  unfold HeadP at hH
  have hR := hW.lr
  refine CallsR.of_SX (n := 120) (rs := [.cell 4 148, .tmp 5]) Tryd.func122 rfl rfl rfl rfl ?_
  show SX _ _ _ ⟨[(0, .agg ⟨watC s bo ro bc rc R⟩), (1, .int .i64 rain)], [], []⟩
  refine SX.seq ?_
  refine SX.region ?_
  refine SXL.box rfl rfl ?_; intro b0
  refine SXL.alloc zp_148 ?_; intro b1
  refine SXL.assign rfl ?_
  refine SXL.nil ?_
  refine thenQ.normal ?_
  refine SX.seq ?_
  refine SX.region ?_
  refine SXL.fieldAddr fp_150_1 rfl ?_
  refine SXL.loadNo 0 sh_148 rfl rfl (takeApp 9 rfl (takeAt_full (k := 20) (by simp [hR])) rfl) ?_
  refine SXL.alloc zp_148 ?_; intro b2
  refine SXL.store 2 sz_148 rfl rfl rfl rfl (by simp [hR]) (putAt_all _ _ (by simp [hR])) ?_ (ints_isOne _)
  refine SXL.nil ?_
  refine thenQ.normal ?_
  refine SX.seq ?_
  refine SX.seq ?_
  refine SX.region ?_
  refine SXL.fieldAddr fp_150_0 rfl ?_
  refine SXL.fieldAddr fp_68_5 rfl ?_
  refine SXL.load1o 0 sh_65 rfl rfl rfl ?_
  refine SXL.len is_65 rfl ?_
  refine SXL.move rfl ?_
  refine SXL.nil ?_
  refine thenQ.normal ?_
  refine SX.block ?_
  refine SX.loopG (α := Nat) [1, 2, 4, 5, 6, 17, 18] rfl (fun k => [(19, .int .i64 ((k : Int)))]) (fun k => [(2, (b2, .cells ⟨ints (slTo s R rain k)⟩ 148 (0, 0)))]) (fun k => k ≤ s.book.length) (fun k => s.book.length - k) 0 (Nat.zero_le _) ⟨rfl, trivial⟩ rfl ?_
  rintro k hk
  have hl := slTo_len s R rain k
  have hSk := slTo_sb hv hR hW.sb rain k hk
  refine SX.seq ?_
  refine SX.region ?_
  refine SXL.lss rfl rfl ?_
  refine SXL.nil ?_
  refine thenQ.normal ?_
  refine SX.seq ?_
  refine SX.condP rfl (fun c20 => ?_) (fun c20 => ?_)
  · refine SX.skip ?_
    refine thenQ.normal ?_
    refine SX.seq ?_
    refine SX.block ?_
    refine SX.seq ?_
    obtain ⟨b, o, ha, hm⟩ := hs.lineD (i := k) (by omega)
    have hln := bookD hv.2.1 (k := k) (by omega)
    refine SX.region ?_
    refine SXL.indexR el_65 rfl rfl ha (by omega) ?_
    refine SXL.loadN sh_129 rfl (hm _) rfl ?_
    refine SXL.alloc zp_129 ?_; intro b3
    refine SXL.store 3 sz_129 rfl rfl rfl rfl rfl rfl ?_
    refine SXL.nil ?_
    refine thenQ.normal ?_
    refine SX.seq ?_
    refine SX.region ?_
    refine SXL.fieldAddr fp_129_0 rfl ?_
    refine SXL.fieldAddr fp_55_0 rfl ?_
    refine SXL.load1o 3 sh_3 rfl rfl rfl ?_
    refine SXL.fieldAddr fp_129_0 rfl ?_
    refine SXL.fieldAddr fp_55_1 rfl ?_
    refine SXL.load1o 3 sh_3 rfl rfl rfl ?_
    refine SXL.move rfl ?_
    refine SXL.buildSlice et_33 zp_3 rfl rfl rfl rfl ?_; intro b4
    refine SXL.call1 (.bool (decide (Wi (rain) ((s.book.getD k default).r0) ((s.book.getD k default).r1)))) fn_109 rfl (fun w hI => in1_own hI 4 (rain) ((s.book.getD k default).r0) ((s.book.getD k default).r1) rfl) ?_
    refine SXL.nil ?_
    refine thenQ.normal ?_
    refine SX.condP rfl (fun c31 => ?_) (fun c31 => ?_)
    · refine SX.draw 10 (by kernel_rfl) (by kernel_rfl) {} ?_
      refine SXA.take 0 10 rfl (by kernel_rfl) rfl ?_
      refine SXL.fieldAddr fp_129_1 rfl ?_
      refine SXL.load1o 3 sh_3 rfl rfl rfl ?_
      refine SXL.fieldAddr fp_129_1 rfl ?_
      refine SXL.load1o 3 sh_3 rfl rfl rfl ?_
      refine SXL.indexA el_148 rfl rfl (by omega) ?_
      refine SXL.loadNo 2 sh_55 rfl rfl (ints_take2' (M := (slTo s R rain k)) (i := (s.book.getD k default).wk.toNat) (by omega) (by omega)) ?_
      refine SXL.fieldAddr fp_129_2 rfl ?_
      refine SXL.loadNo 3 sh_55 rfl rfl rfl ?_
      refine SXL.call1 (spanV (bothP (Lo (slTo s R rain k) (s.book.getD k default).wk.toNat) (Hi (slTo s R rain k) (s.book.getD k default).wk.toNat) ((s.book.getD k default).g0) ((s.book.getD k default).g1))) fn_118 rfl (fun w hI => both_any _ _ _ _ _ (hg.inv hI)) ?_
      refine SXL.indexA el_148 rfl rfl (by omega) ?_
      refine SXL.nil ⟨rfl, rfl, rfl, ?_⟩
      refine SXA.done (by kernel_rfl) ?_
      refine SXL.store 2 sz_55 rfl rfl rfl rfl rfl (ints_put2' (M := (slTo s R rain k)) (i := (s.book.getD k default).wk.toNat) (p := bothP (Lo (slTo s R rain k) (s.book.getD k default).wk.toNat) (Hi (slTo s R rain k) (s.book.getD k default).wk.toNat) (s.book.getD k default).g0 (s.book.getD k default).g1) (by omega) (by omega)) ?_
      refine SXL.nil ?_
      refine blockQ.normal ?_
      refine thenQ.normal ?_
      refine SX.region ?_
      refine SXL.add rfl rfl (by omega) ?_
      refine SXL.move rfl ?_
      refine SXL.nil ?_
      refine thenQ.normal ?_
      refine ⟨k + 1, Meets.mk _ ⟨rfl, trivial⟩ ⟨rfl, rfl, rfl, rfl, rfl, rfl, rfl, trivial⟩ (by first | (rw [show slTo s R rain (k + 1) = _ from if_pos c31]; rfl) | (rw [show slTo s R rain (k + 1) = _ from if_neg c31]; rfl)), (by omega), (by omega)⟩
    · refine SX.skip ?_
      refine blockQ.normal ?_
      refine thenQ.normal ?_
      refine SX.region ?_
      refine SXL.add rfl rfl (by omega) ?_
      refine SXL.move rfl ?_
      refine SXL.nil ?_
      refine thenQ.normal ?_
      refine ⟨k + 1, Meets.mk _ ⟨rfl, trivial⟩ ⟨rfl, rfl, rfl, rfl, rfl, rfl, rfl, trivial⟩ (by first | (rw [show slTo s R rain (k + 1) = _ from if_pos c31]; rfl) | (rw [show slTo s R rain (k + 1) = _ from if_neg c31]; rfl)), (by omega), (by omega)⟩
  · refine SX.exit ?_
    refine thenQ.exit ?_
    refine thenQ.exit ?_
    refine blockQ.exit ?_
    refine thenQ.normal ?_
    refine SX.seq ?_
    refine SX.seq ?_
    obtain rfl : k = s.book.length := by omega
    refine SX.region ?_
    refine SXL.buildA ae_148 zp_148 rfl rfl ?_
    refine SXL.alloc zp_148 ?_; intro b3
    refine SXL.store 3 sz_148 rfl rfl rfl rfl rfl rfl ?_
    refine SXL.nil ?_
    refine thenQ.normal ?_
    refine SX.block ?_
    refine SX.loopG (α := Nat × List Int × List Int) [2, 4, 5, 6] rfl (fun ⟨bw, M, W⟩ => [(9, .pointer (some ⟨bw, 0, none⟩))]) (fun ⟨bw, M, W⟩ => [(2, (b2, .cells ⟨ints M⟩ 148 (0, 0))), (3, (bw, .cells ⟨ints W⟩ 148 (0, 0)))]) (fun ⟨bw, M, W⟩ => KeepP s.weeks.toNat s.fall (slTo s R rain s.book.length) M ∧ W.length = 20 ∧ ((∀ j, j < 10 → Lo W j = 0 ∧ Hi W j = 0) ∨ (Sb W ∧ M = psTo s.fall W (s.weeks.toNat - 1) ∧ Alive s.fall W (s.weeks.toNat - 1)))) (fun ⟨bw, M, W⟩ => (2 * (sumW M 10).toNat + if W = M then 0 else 1)) (b3, (slTo s R rain s.book.length), List.replicate 20 0) ⟨keep_start (by simp [hR]) (slTo_sb hv hR hW.sb rain _ (Nat.le_refl _)), by simp, .inl (by decide)⟩ ⟨rfl, trivial⟩ rfl ?_
    rintro ⟨bw, M, W⟩ ⟨hM, hWl, hWM⟩
    have hMl := hM.len
    refine SX.seq ?_
    refine SX.seq ?_
    refine SX.region ?_
    refine SXL.loadNo 3 sh_148 rfl rfl (takeAt_full (by simp [hWl])) ?_
    refine SXL.loadNo 2 sh_148 rfl rfl (takeAt_full (by simp [hMl])) ?_
    refine SXL.neqV (p := W ≠ M) (u := .agg ⟨ints (W)⟩) (v := .agg ⟨ints (M)⟩) rfl rfl (run_neq_ints eq_148 eg_148 sh_148 hWl hMl) ?_
    refine SXL.nil ?_
    refine thenQ.normal ?_
    refine SX.condP rfl (fun c46 => ?_) (fun c46 => ?_)
    · refine SX.skip ?_
      refine thenQ.normal ?_
      refine SX.seq ?_
      refine SX.block ?_
      refine SX.seq ?_
      refine SX.region ?_
      refine SXL.loadNo 2 sh_148 rfl rfl (takeAt_full (by simp [hMl])) ?_
      refine SXL.store 3 sz_148 rfl rfl rfl rfl (by simp [hMl]) (putAt_all _ _ (by simp [hMl, hWl])) ?_ (ints_isOne _)
      refine SXL.nil ?_
      refine thenQ.normal ?_
      refine SX.seq ?_
      refine SX.region ?_
      refine SXL.assign rfl ?_
      refine SXL.nil ?_
      refine thenQ.normal ?_
      refine SX.block ?_
      refine SX.loopG (α := Nat) [2, 4, 5, 6, 9] rfl (fun k => [(10, .int .i64 (((k : Int) + 1)))]) (fun k => [(2, (b2, .cells ⟨ints (psTo s.fall M k)⟩ 148 (0, 0)))]) (fun k => k ≤ s.weeks.toNat - 1 ∧ Alive s.fall M k) (fun k => s.weeks.toNat - 1 - k) 0 ⟨Nat.zero_le _, fun _ h => absurd h (Nat.not_lt_zero _)⟩ ⟨rfl, trivial⟩ rfl ?_
      rintro k ⟨hk, hal⟩
      have hKl : (psTo s.fall M k).length = 20 := by simp [hMl]
      refine SX.seq ?_
      refine SX.seq ?_
      refine SX.region ?_
      refine SXL.move rfl ?_
      refine SXL.fieldAddr fp_150_0 rfl ?_
      refine SXL.fieldAddr fp_68_0 rfl ?_
      refine SXL.load1o 0 sh_3 rfl rfl rfl ?_
      refine SXL.lss rfl rfl ?_
      refine SXL.nil ?_
      refine thenQ.normal ?_
      refine SX.condP rfl (fun c52 => ?_) (fun c52 => ?_)
      · refine SX.skip ?_
        refine thenQ.normal ?_
        refine SX.seq ?_
        refine SX.block ?_
        refine SX.seq ?_
        have hS := (ps_less (f := s.fall) hMl hM.sb k (by omega)).1
        have q0 := hS k (by omega)
        have q1 := hS (k + 1) (by omega)
        refine SX.draw 7 (by kernel_rfl) (by kernel_rfl) {} ?_
        refine SXA.take 0 7 rfl (by kernel_rfl) rfl ?_
        refine SXL.move rfl ?_
        refine SXL.sub rfl rfl (by omega) ?_
        refine SXL.indexA el_148 rfl rfl (by omega) ?_
        refine SXL.move rfl ?_
        refine SXL.indexA el_148 rfl rfl (by omega) ?_
        refine SXL.assign rfl ?_
        refine SXL.assign rfl ?_
        refine SXL.nil ⟨rfl, rfl, rfl, ?_⟩
        refine SXA.done (by kernel_rfl) ?_
        refine SXL.nil ?_
        refine thenQ.normal ?_
        refine SX.seq ?_
        refine SX.draw 19 (by kernel_rfl) (by kernel_rfl) {} ?_
        refine SXA.take 0 19 rfl (by kernel_rfl) rfl ?_
        refine SXL.move rfl ?_
        refine SXL.move rfl ?_
        refine SXL.nilCheck rfl ?_
        refine SXL.loadNo 2 sh_55 rfl rfl (ints_take2' (M := (psTo s.fall M k)) (i := k + 1) (by omega) (by omega)) ?_
        refine SXL.move rfl ?_
        refine SXL.nilCheck rfl ?_
        refine SXL.fieldAddr fp_55_0 rfl ?_
        refine SXL.load1o 2 sh_3 rfl rfl (at_lo (M := (psTo s.fall M k)) (i := k) (by omega) (by omega)) ?_
        refine SXL.fieldAddr fp_150_0 rfl ?_
        refine SXL.fieldAddr fp_68_2 rfl ?_
        refine SXL.load1o 0 sh_3 rfl rfl rfl ?_
        refine SXL.sub rfl rfl (by omega) ?_
        refine SXL.move rfl ?_
        refine SXL.nilCheck rfl ?_
        refine SXL.fieldAddr fp_55_1 rfl ?_
        refine SXL.load1o 2 sh_3 rfl rfl (at_hi (M := (psTo s.fall M k)) (i := k) (by omega) (by omega)) ?_
        refine SXL.buildS pl_55 zp_55 rfl rfl ?_
        refine SXL.call1 (spanV (bothP (Lo (psTo s.fall M k) (k + 1)) (Hi (psTo s.fall M k) (k + 1)) (Lo (psTo s.fall M k) k - s.fall) (Hi (psTo s.fall M k) k))) fn_118 rfl (fun w hI => both_any _ _ _ _ _ (hg.inv hI)) ?_
        refine SXL.nilCheck rfl ?_
        refine SXL.nil ⟨rfl, rfl, rfl, ?_⟩
        refine SXA.done (by kernel_rfl) ?_
        refine SXL.store 2 sz_55 rfl rfl rfl rfl rfl (ints_put2' (M := (psTo s.fall M k)) (i := k + 1) (p := (bothP (Lo (psTo s.fall M k) (k + 1)) (Hi (psTo s.fall M k) (k + 1)) (Lo (psTo s.fall M k) k - s.fall) (Hi (psTo s.fall M k) k))) (by omega) (by omega)) ?_
        refine SXL.nil ?_
        refine thenQ.normal ?_
        refine SX.seq ?_
        have hS1 := (step_less (f := s.fall) hKl hS (k := k) (by omega)).1
        have hl1 : (step1 s.fall (psTo s.fall M k) k).length = 20 := by simp [hMl]
        have u0 := hS1 k (by omega)
        have u1 := hS1 (k + 1) (by omega)
        refine SX.draw 19 (by kernel_rfl) (by kernel_rfl) {} ?_
        refine SXA.take 0 19 rfl (by kernel_rfl) rfl ?_
        refine SXL.move rfl ?_
        refine SXL.move rfl ?_
        refine SXL.nilCheck rfl ?_
        refine SXL.loadNo 2 sh_55 rfl rfl (ints_take2' (M := (step1 s.fall (psTo s.fall M k) k)) (i := k) (by omega) (by omega)) ?_
        refine SXL.move rfl ?_
        refine SXL.nilCheck rfl ?_
        refine SXL.fieldAddr fp_55_0 rfl ?_
        refine SXL.load1o 2 sh_3 rfl rfl (at_lo (M := (step1 s.fall (psTo s.fall M k) k)) (i := k + 1) (by omega) (by omega)) ?_
        refine SXL.move rfl ?_
        refine SXL.nilCheck rfl ?_
        refine SXL.fieldAddr fp_55_1 rfl ?_
        refine SXL.load1o 2 sh_3 rfl rfl (at_hi (M := (step1 s.fall (psTo s.fall M k) k)) (i := k + 1) (by omega) (by omega)) ?_
        refine SXL.fieldAddr fp_150_0 rfl ?_
        refine SXL.fieldAddr fp_68_2 rfl ?_
        refine SXL.load1o 0 sh_3 rfl rfl rfl ?_
        refine SXL.add rfl rfl (by omega) ?_
        refine SXL.buildS pl_55 zp_55 rfl rfl ?_
        refine SXL.call1 (spanV (bothP (Lo (step1 s.fall (psTo s.fall M k) k) k) (Hi (step1 s.fall (psTo s.fall M k) k) k) (Lo (step1 s.fall (psTo s.fall M k) k) (k + 1)) (Hi (step1 s.fall (psTo s.fall M k) k) (k + 1) + s.fall))) fn_118 rfl (fun w hI => both_any _ _ _ _ _ (hg.inv hI)) ?_
        refine SXL.nilCheck rfl ?_
        refine SXL.nil ⟨rfl, rfl, rfl, ?_⟩
        refine SXA.done (by kernel_rfl) ?_
        refine SXL.store 2 sz_55 rfl rfl rfl rfl rfl (ints_put2' (M := (step1 s.fall (psTo s.fall M k) k)) (i := k) (p := (bothP (Lo (step1 s.fall (psTo s.fall M k) k) k) (Hi (step1 s.fall (psTo s.fall M k) k) k) (Lo (step1 s.fall (psTo s.fall M k) k) (k + 1)) (Hi (step1 s.fall (psTo s.fall M k) k) (k + 1) + s.fall))) (by omega) (by omega)) ?_
        refine SXL.nil ?_
        refine thenQ.normal ?_
        refine SX.seq ?_
        have hl2 : (stepM s.fall (psTo s.fall M k) k).length = 20 := by simp [hMl]
        refine SX.draw 12 (by kernel_rfl) (by kernel_rfl) {} ?_
        refine SXA.take 0 12 rfl (by kernel_rfl) rfl ?_
        refine SXL.move rfl ?_
        refine SXL.nilCheck rfl ?_
        refine SXL.loadNo 2 sh_55 rfl rfl (ints_take2' (M := (stepM s.fall (psTo s.fall M k) k)) (i := k) (by omega) (by omega)) ?_
        refine SXL.loadN sh_55 rfl (hg.memN _) rfl ?_
        refine SXL.eqlV (p := [Lo (stepM s.fall (psTo s.fall M k) k) k, Hi (stepM s.fall (psTo s.fall M k) k) k] = [1, 0]) (u := .agg ⟨ints ([Lo (stepM s.fall (psTo s.fall M k) k) k, Hi (stepM s.fall (psTo s.fall M k) k) k])⟩) (v := .agg ⟨ints ([1, 0])⟩) rfl rfl (run_eql_ints eq_55 eg_55 sh_55 rfl rfl) ?_
        refine SXL.move rfl ?_
        apply SXL.orG 5
        case hl => exact rfl
        case hd => exact rfl
        case hg => exact rfl
        case ht =>
          intro c109
          refine SXL.pass rfl rfl rfl ?_
          refine SXL.pass rfl rfl rfl ?_
          refine SXL.pass rfl rfl rfl ?_
          refine SXL.pass rfl rfl rfl ?_
          refine SXL.pass rfl rfl rfl ?_
          exact SXL.nil (segQ.mk (.skip rfl (.skip rfl (.skip rfl (.skip rfl (.skip rfl (.skip rfl (EnvSub.refl _))))))) rfl rfl rfl)
        case hf =>
          intro c109
          refine SXL.move rfl ?_
          refine SXL.nilCheck rfl ?_
          refine SXL.loadNo 2 sh_55 rfl rfl (ints_take2' (M := (stepM s.fall (psTo s.fall M k) k)) (i := k + 1) (by omega) (by omega)) ?_
          refine SXL.loadN sh_55 rfl (hg.memN _) rfl ?_
          refine SXL.eqlV (p := [Lo (stepM s.fall (psTo s.fall M k) k) (k + 1), Hi (stepM s.fall (psTo s.fall M k) k) (k + 1)] = [1, 0]) (u := .agg ⟨ints ([Lo (stepM s.fall (psTo s.fall M k) k) (k + 1), Hi (stepM s.fall (psTo s.fall M k) k) (k + 1)])⟩) (v := .agg ⟨ints ([1, 0])⟩) rfl rfl (run_eql_ints eq_55 eg_55 sh_55 rfl rfl) ?_
          exact SXL.nil (segQ.mk (.skip rfl (.skip rfl (.skip rfl (.skip rfl (.skip rfl (.skip rfl (EnvSub.refl _))))))) rfl rfl ⟨rfl, rfl⟩)
        refine SXL.nil ⟨rfl, rfl, rfl, ?_⟩
        refine SXA.done (by kernel_rfl) ?_
        refine SXL.nil ?_
        refine thenQ.normal ?_
        refine SX.condP rfl (fun c109 => ?_) (fun c109 => ?_)
        · refine SX.seq ?_
          have hno : ¬lvB s L rain := by
            have hk2 := (hM.ps (by omega) (k + 1) (by omega))
            rcases c109 with c109 | c109
            · exact (after_ok hv hR hW.ll.len hW.sb hW.rel hW.rest rain).2 _ hk2 k (by omega) (span_none.1 c109.symm)
            · exact (after_ok hv hR hW.ll.len hW.sb hW.rel hW.rest rain).2 _ hk2 (k + 1) (by omega) (span_none.1 c109.symm)
          refine SX.region ?_
          refine SXL.loadNo 2 sh_148 rfl rfl (takeAt_full (by simp [hMl])) ?_
          refine SXL.store 1 sz_148 rfl rfl rfl rfl (by simp [hMl]) (putAt_all _ _ (by simp [hMl])) ?_ (ints_isOne _)
          refine SXL.assign rfl ?_
          refine SXL.nil ?_
          refine thenQ.normal ?_
          refine SX.ret ?_
          refine blockQ.ret ?_
          refine thenQ.ret ?_
          refine thenQ.ret ?_
          refine blockQ.ret ?_
          refine blockQ.ret ?_
          refine thenQ.ret ?_
          refine thenQ.ret ?_
          refine blockQ.ret ?_
          refine thenQ.ret ?_
          refine retQ.two (ResAt.cellNo 1 sh_148 rfl rfl (takeAt_full (k := 20) (by simp [hMl]))) (ResAt.tmp rfl) ?_
          exact ⟨_, hl2, fun h => absurd h hno, by rw [decide_eq_false hno]; rfl⟩
        · refine SX.skip ?_
          refine blockQ.normal ?_
          refine thenQ.normal ?_
          refine SX.region ?_
          refine SXL.move rfl ?_
          refine SXL.add rfl rfl (by omega) ?_
          refine SXL.assign rfl ?_
          refine SXL.nil ?_
          refine thenQ.normal ?_
          refine ⟨k + 1, Meets.mk _ ⟨rfl, trivial⟩ ⟨rfl, rfl, rfl, rfl, rfl, trivial⟩ rfl, ?_, (by omega)⟩
          refine ⟨by omega, fun j hj => ?_⟩
          by_cases e : j = k
          · subst e; exact ⟨fun h => c109 (.inl (span_none.2 h).symm), fun h => c109 (.inr (span_none.2 h).symm)⟩
          · exact hal j (by omega)
      · refine SX.exit ?_
        refine thenQ.exit ?_
        refine thenQ.exit ?_
        refine blockQ.exit ?_
        refine blockQ.normal ?_
        refine thenQ.normal ?_
        refine SX.seq ?_
        obtain rfl : k = s.weeks.toNat - 1 := by omega
        refine SX.region ?_
        refine SXL.loadNo 3 sh_148 rfl rfl (takeAt_full (by simp [hMl])) ?_
        refine SXL.nil ?_
        refine thenQ.normal ?_
        refine SX.region ?_
        refine SXL.alloc zp_148 ?_; intro b4
        refine SXL.store 4 sz_148 rfl rfl rfl rfl (by simp [hMl]) (putAt_all _ _ (by simp [hMl])) ?_ (ints_isOne _)
        refine SXL.nil ?_
        refine thenQ.normal ?_
        refine ⟨(_, _, _), Meets.mkS [0, 1, 2, 4] ⟨rfl, trivial⟩ ⟨rfl, rfl, rfl, rfl, trivial⟩ rfl, ⟨hM.ps (by omega) _ (by omega), hMl, .inr ⟨hM.sb, rfl, hal⟩⟩, (mu_less hMl hM.sb c46 _ (by omega))⟩
    · refine SX.exit ?_
      refine thenQ.exit ?_
      refine thenQ.exit ?_
      refine blockQ.exit ?_
      refine thenQ.normal ?_
      refine SX.seq ?_
      have c46 := Decidable.not_not.1 c46
      subst c46
      refine SX.draw 10 (by kernel_rfl) (by kernel_rfl) ⟨[1, 2, 3, 4, 5, 7, 9], [true, false]⟩ ?_
      refine SXA.take 0 1 rfl (by kernel_rfl) rfl ?_
      refine SXL.loadNo 2 sh_148 rfl rfl (takeAt_full (by simp [hMl])) ?_
      refine SXL.nil ⟨rfl, rfl, rfl, ?_⟩
      refine SXA.takeM 1 5 rfl (by kernel_rfl) rfl ?_
      refine SXL.fieldAddr fp_150_0 rfl ?_
      refine SXL.fieldAddr fp_68_0 rfl ?_
      refine SXL.load1o 0 sh_3 rfl rfl rfl ?_
      refine SXL.sliceAH el_148 rfl rfl (by omega) ?_
      refine SXL.loadN sh_55 rfl (hg.memN _) rfl ?_
      refine SXL.nil ⟨rfl, rfl, rfl, ?_⟩
      refine SXA.take 6 1 rfl (by kernel_rfl) rfl ?_
      refine SXL.call1 (.bool (decide (0 ≤ idxF (fun k => [1, 0] = [Lo W k, Hi W k]) s.weeks.toNat))) fn_123 rfl (fun w hI => containsSpans W s.weeks.toNat 1 0 _ _ (by omega) _ (ownPairs hI (i := 2) rfl (by omega))) ?_
      refine SXL.nil ⟨rfl, rfl, rfl, ?_⟩
      refine SXA.takeM 7 1 rfl (by kernel_rfl) rfl ?_
      refine SXL.not rfl ?_
      refine SXL.nil ⟨rfl, rfl, rfl, ?_⟩
      refine SXA.all [8] (by kernel_rfl) rfl ⟨⟨?_, rfl⟩, trivial⟩
      refine (show SXL _ _ [_] _ _ from ?_)
      refine SXL.store 1 sz_148 rfl rfl rfl rfl (by simp [hMl]) (putAt_all _ _ (by simp [hMl])) ?_ (ints_isOne _)
      refine SXL.nil (stepQ.mkL _ (by kernel_rfl) rfl rfl ?_)
      refine SXA.takeM 9 1 rfl (by kernel_rfl) rfl ?_
      refine SXL.assign rfl ?_
      refine SXL.nil ⟨rfl, rfl, rfl, ?_⟩
      refine SXA.done (by kernel_rfl) ?_
      refine SXL.nil ?_
      refine thenQ.normal ?_
      refine SX.ret ?_
      refine retQ.two (ResAt.cellNo 1 sh_148 rfl rfl (takeAt_full (k := 20) (by simp [hMl]))) (ResAt.tmp rfl) ?_
      obtain ⟨z1, z2⟩ := after_end hv hW hM hWM; exact ⟨_, hMl, z2, by rw [after_bool z1]⟩
end Go.Proofs.YtolcicaclflagaaDoor

/- The walks of functions. -/
namespace Go.Proofs.YtolcicaclflagaaDoor
open Go.X Go.S Go.RowKit
/-- The iterator of the rains. -/
structure ItR (s : Sp) (bo ro : Option Addr) (bc rc : Nat) (R : List Int) (v : Value) (own : X.Own) : Prop where
  ex : ∃ b, v = .func (.func 121) ⟨[]⟩ ⟨[.pointer (some ⟨b, 0, none⟩)]⟩ ∧ own = [(b, .cells ⟨watC s bo ro bc rc R⟩ 150 (0, 0))]
theorem it_any (s : Sp) (bo ro : Option Addr) (bc rc : Nat) (R : List Int) (_hR : R.length = 20) (w : World) :
    CallsR Tryd.prog 120 [.agg ⟨watC s bo ro bc rc R⟩] w (ItR s bo ro bc rc R) := by
  refine CallsR.of_SX (n := 4) (rs := [.tmp 2]) Tryd.func120 rfl rfl rfl rfl ?_
  show SX _ _ _ ⟨[(0, .agg ⟨watC s bo ro bc rc R⟩)], [], []⟩
  refine SX.seq ?_
  refine SX.region ?_
  refine SXL.box rfl rfl ?_; intro b0
  refine SXL.assign rfl ?_
  refine SXL.nil ?_
  refine thenQ.normal ?_
  refine SX.seq ?_
  refine SX.region ?_
  refine SXL.makeFunc rfl rfl ?_
  refine SXL.assign rfl ?_
  refine SXL.nil ?_
  refine thenQ.normal ?_
  refine SX.ret ?_
  refine retQ.one (ResAt.tmp rfl) ?_
  exact ⟨b0, rfl, rfl⟩
set_option maxHeartbeats 4000000 in
theorem spans_any (s : Sp) (bo ro : Option Addr) (bc rc : Nat) (R : List Int) (L : List Int) (hv : SpP s) (hW : RelW s R L) (w : World) (hg : Gl w) (hs : SpAt w s bo ro) :
    CallsR Tryd.prog 114 [.agg ⟨watC s bo ro bc rc R⟩] w (fun v _ => v = .tuple ⟨[.agg ⟨ints (outL s.weeks.toNat (lvsL s L (rnsL s L)))⟩, .bool (decide (rnsL s L ≠ []))]⟩) := by
  have hH := hv.1
  unfold HeadP at hH
  have hR := hW.lr
  refine CallsR.of_SX (n := 50) (rs := [.cell 2 148, .tmp 3]) Tryd.func114 rfl rfl rfl rfl ?_
  show SX _ _ _ ⟨[(0, .agg ⟨watC s bo ro bc rc R⟩)], [], []⟩
  refine SX.seq ?_
  refine SX.region ?_
  refine SXL.box rfl rfl ?_; intro b0
  refine SXL.alloc zp_148 ?_; intro b1
  refine SXL.assign rfl ?_
  refine SXL.nil ?_
  refine thenQ.normal ?_
  refine SX.seq ?_
  refine SX.region ?_
  refine SXL.alloc zp_148 ?_; intro b2
  refine SXL.nil ?_
  refine thenQ.normal ?_
  refine SX.seq ?_
  refine SX.region ?_
  refine SXL.alloc zp_4 ?_; intro b3
  refine SXL.store 3 sz_4 rfl rfl rfl rfl rfl rfl ?_
  refine SXL.nil ?_
  refine thenQ.normal ?_
  refine SX.seq ?_
  refine SX.seq ?_
  refine SX.region ?_
  refine SXL.loadNo 0 sh_150 rfl rfl (takeAt_full (watC_len hR)) ?_
  refine SXL.callF (ItR s bo ro bc rc R) fn_120 rfl (fun w hI => it_any s bo ro bc rc R hR w) ?_; rintro _ _ ⟨bi, rfl, rfl⟩
  refine SXL.nil ?_
  refine thenQ.normal ?_
  refine SX.block ?_
  refine SX.rangeFunc (f := 121) (nf := 31) (rs := []) rfl fn_121 Tryd.func121 rfl rfl rfl rfl ?_
  intro fn T r l ob hT hob
  refine SX.scope ?_
  refine SX.seq ?_
  refine SX.label ?_
  refine thenQ.normal ?_
  refine SX.seq ?_
  refine SX.region ?_
  refine SXL.fieldAddr fp_150_0 rfl ?_
  refine SXL.fieldAddr fp_68_4 rfl ?_
  refine SXL.fieldAddr fp_55_0 rfl ?_
  refine SXL.load1o 4 sh_3 rfl rfl rfl ?_
  refine SXL.assign rfl ?_
  refine SXL.nil ?_
  refine thenQ.normal ?_
  refine SX.block ?_
  refine SX.loopG (α := Nat × List Int) [0, 1] rfl (fun ⟨k, M⟩ => [(3, .int .i64 (s.w0 + (k : Int)))]) (fun ⟨k, M⟩ => [(2, (b2, .cells ⟨ints M⟩ 148 (0, 0))), (3, (b3, .cells ⟨[.bool (decide ((rnsTo s L k) ≠ []))]⟩ 4 (0, 0)))]) (fun ⟨k, M⟩ => k ≤ rnN s ∧ IsO s.weeks.toNat (lvsL s L (rnsTo s L k)) M) (fun ⟨k, M⟩ => (rnN s - k)) (0, List.replicate 20 0) ⟨Nat.zero_le _, IsO.zero _⟩ ⟨congrArg (fun z => some (Value.int .i64 z)) (show s.w0 = s.w0 + ((0 : Nat) : Int) by omega), trivial⟩ rfl ?_
  rintro ⟨k, M⟩ ⟨hk, hM⟩
  have hMl := hM.len
  have hN : rnN s = (s.w1 + 1 - s.w0).toNat := rfl
  refine SX.seq ?_
  refine SX.seq ?_
  refine SX.region ?_
  refine SXL.move rfl ?_
  refine SXL.fieldAddr fp_150_0 rfl ?_
  refine SXL.fieldAddr fp_68_4 rfl ?_
  refine SXL.fieldAddr fp_55_1 rfl ?_
  refine SXL.load1o 4 sh_3 rfl rfl rfl ?_
  refine SXL.leq rfl rfl ?_
  refine SXL.nil ?_
  refine thenQ.normal ?_
  refine SX.condP rfl (fun c15 => ?_) (fun c15 => ?_)
  · refine SX.skip ?_
    refine thenQ.normal ?_
    refine SX.seq ?_
    refine SX.block ?_
    refine SX.seq ?_
    refine SX.region ?_
    refine SXL.loadNo 4 sh_150 rfl rfl (takeAt_full (watC_len hR)) ?_
    refine SXL.move rfl ?_
    refine SXL.callP (AfterR s L (s.w0 + (k : Int))) fn_122 rfl (fun w hI => after_any s bo ro bc rc R L hv hW _ w (hg.inv hI) (hs.inv hI)) ?_; rintro _ ⟨X, hX1, hX2, rfl⟩
    refine SXL.move rfl ?_
    refine SXL.extract rfl rfl ?_
    refine SXL.extract rfl rfl ?_
    refine SXL.alloc zp_148 ?_; intro b7
    refine SXL.store 7 sz_148 rfl rfl rfl rfl (by simp [hX1]) (putAt_all _ _ (by simp [hX1])) ?_ (ints_isOne _)
    refine SXL.assign rfl ?_
    refine SXL.nil ?_
    refine thenQ.normal ?_
    refine SX.seq ?_
    refine SX.seq ?_
    refine SX.region ?_
    refine SXL.move rfl ?_
    refine SXL.not rfl ?_
    refine SXL.nil ?_
    refine thenQ.normal ?_
    refine SX.condP rfl (fun c25 => ?_) (fun c25 => ?_)
    · refine SX.exit ?_
      refine thenQ.exit ?_
      refine blockQ.exit ?_
      refine thenQ.normal ?_
      refine SX.region ?_
      refine SXL.move rfl ?_
      refine SXL.add rfl rfl (by omega) ?_
      refine SXL.assign rfl ?_
      refine SXL.nil ?_
      refine thenQ.normal ?_
      refine ⟨(k + 1, _), Meets.mk _ ⟨congrArg (fun z => some (Value.int .i64 z)) (show s.w0 + (k : Int) + 1 = s.w0 + ((k + 1 : Nat) : Int) by omega), trivial⟩ ⟨rfl, rfl, trivial⟩ (by show setAll _ (_ :: [(3, (b3, .cells ⟨[.bool (decide (rnsTo s L (k + 1) ≠ []))]⟩ 4 (0, 0)))]) ++ _ = _; first | (rw [decide_eq_true (p := rnsTo s L (k + 1) ≠ []) (by rw [rnsTo_yes hlv]; simp)]; rfl) | (rw [show rnsTo s L (k + 1) = _ from rnsTo_no c25]; rfl)), ?_, ?_⟩
      · refine ⟨by omega, ?_⟩
        first
          | exact (by rw [rnsTo_yes hlv]; simpa [lvsL] using hMd.done)
          | exact (by rw [rnsTo_no c25]; exact hM)
      · show rnN s - (k + 1) < rnN s - k; omega
    · refine SX.skip ?_
      refine thenQ.normal ?_
      refine SX.seq ?_
      have hlv := Decidable.not_not.1 c25
      obtain rfl := hX2 hlv
      refine SX.region ?_
      refine SXL.move rfl ?_
      refine SXL.move rfl ?_
      refine SXL.loadNo 7 sh_148 rfl rfl (takeAt_full (by simp)) ?_
      refine SXL.yield hT hob 6 rfl rfl rfl rfl rfl ?_
      refine SX.region ?_
      refine SXL.alloc zp_148 ?_; intro b8
      refine SXL.store 8 sz_148 rfl rfl rfl rfl (by simp) (putAt_all _ _ (by simp)) ?_ (ints_isOne _)
      refine SXL.nil ?_
      refine ⟨rfl, ?_⟩
      refine SX.block ?_
      refine SX.seq ?_
      refine SX.seq ?_
      refine SX.region ?_
      refine SXL.fieldAddr fp_150_0 rfl ?_
      refine SXL.fieldAddr fp_68_0 rfl ?_
      refine SXL.load1o 0 sh_3 rfl rfl rfl ?_
      refine SXL.move rfl ?_
      refine SXL.nil ?_
      refine thenQ.normal ?_
      refine SX.block ?_
      refine SX.loopG (α := Nat × List Int) [2, 3, 4, 5, 7, 15] rfl (fun ⟨j, M2⟩ => [(16, .int .i64 ((j : Int)))]) (fun ⟨j, M2⟩ => [(2, (b2, .cells ⟨ints M2⟩ 148 (0, 0)))]) (fun ⟨j, M2⟩ => j ≤ s.weeks.toNat ∧ MidO s.weeks.toNat (lvsL s L (rnsTo s L k)) (lvL s L (s.w0 + (k : Int))) j M2) (fun ⟨j, M2⟩ => s.weeks.toNat - j) (0, M) ⟨Nat.zero_le _, hM.mid _⟩ ⟨rfl, trivial⟩ rfl ?_
      rintro ⟨j, M2⟩ ⟨hj, hMd⟩
      have hM2l := hMd.len
      refine SX.seq ?_
      refine SX.region ?_
      refine SXL.lss rfl rfl ?_
      refine SXL.nil ?_
      refine thenQ.normal ?_
      refine SX.seq ?_
      refine SX.condP rfl (fun c17 => ?_) (fun c17 => ?_)
      · refine SX.skip ?_
        refine thenQ.normal ?_
        refine SX.seq ?_
        refine SX.block ?_
        refine SX.seq ?_
        refine SX.region ?_
        refine SXL.move rfl ?_
        refine SXL.assign rfl ?_
        refine SXL.nil ?_
        refine thenQ.normal ?_
        refine SX.cutG (α := List Int) [2, 3, 4, 5, 7, 8, 15, 16] rfl (fun M3 => []) (fun M3 => [(2, (b2, .cells ⟨ints M3⟩ 148 (0, 0)))]) (fun M3 => M3 = if (lvsL s L (rnsTo s L k)) = [] then set2 M2 j (G (lvL s L (s.w0 + (k : Int))) j, G (lvL s L (s.w0 + (k : Int))) (10 + j)) else M2) ?_ ?_
        · refine SX.seq ?_
          obtain ⟨x1, x2⟩ := ilv_at (lvL s L (s.w0 + (k : Int))) (w := j) (by omega)
          have hAe : (lvsL s L (rnsTo s L k)) = [] ↔ (rnsTo s L k) = [] := by simp [lvsL]
          refine SX.region ?_
          refine SXL.load1o 3 sh_4 rfl rfl rfl ?_
          refine SXL.not rfl ?_
          refine SXL.nil ?_
          refine thenQ.normal ?_
          refine SX.condP rfl (fun c20 => ?_) (fun c20 => ?_)
          · refine SX.region ?_
            refine SXL.move rfl ?_
            refine SXL.move rfl ?_
            refine SXL.indexA el_148 rfl rfl (by omega) ?_
            refine SXL.loadNo 8 sh_55 rfl rfl (ints_take2' (M := (ilv (lvL s L (s.w0 + (k : Int))))) (i := j) (by omega) (by omega)) ?_
            refine SXL.indexA el_148 rfl rfl (by omega) ?_
            refine SXL.store 2 sz_55 rfl rfl rfl rfl rfl (ints_put2' (M := M2) (i := j) (p := (Lo (ilv (lvL s L (s.w0 + (k : Int)))) j, Hi (ilv (lvL s L (s.w0 + (k : Int)))) j)) (by omega) (by omega)) ?_
            refine SXL.nil ?_
            refine thenQ.normal ?_
            refine ⟨_, Meets.mk _ trivial ⟨rfl, rfl, rfl, rfl, rfl, rfl, rfl, rfl, trivial⟩ rfl, (by first | (rw [if_pos (hAe.2 (Decidable.not_not.1 c20)), x1, x2]) | (rw [if_neg (fun h => c20 (fun h2 => h2 (hAe.1 h)))]))⟩
          · refine SX.skip ?_
            refine thenQ.normal ?_
            refine ⟨_, Meets.mk _ trivial ⟨rfl, rfl, rfl, rfl, rfl, rfl, rfl, rfl, trivial⟩ rfl, (by first | (rw [if_pos (hAe.2 (Decidable.not_not.1 c20)), x1, x2]) | (rw [if_neg (fun h => c20 (fun h2 => h2 (hAe.1 h)))]))⟩
        rintro M3 hM3
        have hM3l : M3.length = 20 := by rw [hM3]; split <;> simp [hM2l]
        obtain ⟨x1, x2⟩ := ilv_at (lvL s L (s.w0 + (k : Int))) (w := j) (by omega)
        refine SX.draw 21 (by kernel_rfl) (by kernel_rfl) {} ?_
        refine SXA.take 0 21 rfl (by kernel_rfl) rfl ?_
        refine SXL.move rfl ?_
        refine SXL.move rfl ?_
        refine SXL.indexA el_148 rfl rfl (by omega) ?_
        refine SXL.fieldAddr fp_55_0 rfl ?_
        refine SXL.load1o 2 sh_3 rfl rfl (at_lo (M := M3) (i := j) (by omega) (by omega)) ?_
        refine SXL.move rfl ?_
        refine SXL.indexA el_148 rfl rfl (by omega) ?_
        refine SXL.fieldAddr fp_55_0 rfl ?_
        refine SXL.load1o 8 sh_3 rfl rfl (at_lo (M := (ilv (lvL s L (s.w0 + (k : Int))))) (i := j) (by omega) (by omega)) ?_
        refine SXL.min rfl rfl ?_
        refine SXL.move rfl ?_
        refine SXL.indexA el_148 rfl rfl (by omega) ?_
        refine SXL.fieldAddr fp_55_1 rfl ?_
        refine SXL.load1o 2 sh_3 rfl rfl (at_hi (M := M3) (i := j) (by omega) (by omega)) ?_
        refine SXL.move rfl ?_
        refine SXL.indexA el_148 rfl rfl (by omega) ?_
        refine SXL.fieldAddr fp_55_1 rfl ?_
        refine SXL.load1o 8 sh_3 rfl rfl (at_hi (M := (ilv (lvL s L (s.w0 + (k : Int))))) (i := j) (by omega) (by omega)) ?_
        refine SXL.max rfl rfl ?_
        refine SXL.buildS pl_55 zp_55 rfl rfl ?_
        refine SXL.indexA el_148 rfl rfl (by omega) ?_
        refine SXL.nil ⟨rfl, rfl, rfl, ?_⟩
        refine SXA.done (by kernel_rfl) ?_
        refine SXL.store 2 sz_55 rfl rfl rfl rfl rfl (ints_put2' (M := M3) (i := j) (p := (min (Lo M3 j) (Lo (ilv (lvL s L (s.w0 + (k : Int)))) j), max (Hi M3 j) (Hi (ilv (lvL s L (s.w0 + (k : Int)))) j))) (by omega) (by omega)) ?_
        refine SXL.nil ?_
        refine blockQ.normal ?_
        refine thenQ.normal ?_
        refine SX.region ?_
        refine SXL.add rfl rfl (by omega) ?_
        refine SXL.move rfl ?_
        refine SXL.nil ?_
        refine thenQ.normal ?_
        refine ⟨(j + 1, _), Meets.mk _ ⟨rfl, trivial⟩ ⟨rfl, rfl, rfl, rfl, rfl, rfl, trivial⟩ rfl, ⟨by omega, by rw [x1, x2]; exact hMd.next (by omega) (by omega) hM3⟩, (show s.weeks.toNat - (j + 1) < s.weeks.toNat - j by omega)⟩
      · refine SX.exit ?_
        refine thenQ.exit ?_
        refine thenQ.exit ?_
        refine blockQ.exit ?_
        refine thenQ.normal ?_
        obtain rfl : j = s.weeks.toNat := by omega
        refine SX.region ?_
        refine SXL.store 3 sz_4 rfl rfl rfl rfl rfl rfl ?_
        refine SXL.nil ?_
        refine blockQ.normal ?_
        refine ⟨rfl, ?_⟩
        refine SXL.not rfl ?_
        refine SXL.nil ?_
        refine thenQ.normal ?_
        refine SX.condP rfl (fun c30 => ?_) (fun c30 => ?_)
        · exfalso; exact c30 trivial
        refine SX.skip ?_
        refine blockQ.normal ?_
        refine thenQ.normal ?_
        refine SX.region ?_
        refine SXL.move rfl ?_
        refine SXL.add rfl rfl (by omega) ?_
        refine SXL.assign rfl ?_
        refine SXL.nil ?_
        refine thenQ.normal ?_
        refine ⟨(k + 1, _), Meets.mk _ ⟨congrArg (fun z => some (Value.int .i64 z)) (show s.w0 + (k : Int) + 1 = s.w0 + ((k + 1 : Nat) : Int) by omega), trivial⟩ ⟨rfl, rfl, trivial⟩ (by show setAll _ (_ :: [(3, (b3, .cells ⟨[.bool (decide (rnsTo s L (k + 1) ≠ []))]⟩ 4 (0, 0)))]) ++ _ = _; first | (rw [decide_eq_true (p := rnsTo s L (k + 1) ≠ []) (by rw [rnsTo_yes hlv]; simp)]; rfl) | (rw [show rnsTo s L (k + 1) = _ from rnsTo_no c25]; rfl)), ?_, ?_⟩
        · refine ⟨by omega, ?_⟩
          first
            | exact (by rw [rnsTo_yes hlv]; simpa [lvsL] using hMd.done)
            | exact (by rw [rnsTo_no c25]; exact hM)
        · show rnN s - (k + 1) < rnN s - k; omega
  · refine SX.exit ?_
    refine thenQ.exit ?_
    refine thenQ.exit ?_
    refine blockQ.exit ?_
    refine scopeQ.normal ?_
    refine retQ.zeroN ?_
    refine ⟨6, rfl, ?_⟩
    refine blockQ.normal ?_
    refine thenQ.normal ?_
    refine SX.seq ?_
    obtain rfl : k = rnN s := by omega
    refine SX.draw 4 (by kernel_rfl) (by kernel_rfl) ⟨[1, 3], [true, false]⟩ ?_
    refine SXA.take 0 1 rfl (by kernel_rfl) rfl ?_
    refine SXL.loadNo 2 sh_148 rfl rfl (takeAt_full (by simp [hMl])) ?_
    refine SXL.nil ⟨rfl, rfl, rfl, ?_⟩
    refine SXA.takeM 1 1 rfl (by kernel_rfl) rfl ?_
    refine SXL.load1o 2 sh_4 rfl rfl rfl ?_
    refine SXL.nil ⟨rfl, rfl, rfl, ?_⟩
    refine SXA.all [2] (by kernel_rfl) rfl ⟨⟨?_, rfl⟩, trivial⟩
    refine (show SXL _ _ [_] _ _ from ?_)
    refine SXL.store 1 sz_148 rfl rfl rfl rfl (by simp [hMl]) (putAt_all _ _ (by simp [hMl])) ?_ (ints_isOne _)
    refine SXL.nil (stepQ.mkL _ (by kernel_rfl) rfl rfl ?_)
    refine SXA.takeM 3 1 rfl (by kernel_rfl) rfl ?_
    refine SXL.assign rfl ?_
    refine SXL.nil ⟨rfl, rfl, rfl, ?_⟩
    refine SXA.done (by kernel_rfl) ?_
    refine SXL.nil ?_
    refine thenQ.normal ?_
    refine SX.ret ?_
    refine retQ.unmark 5 rfl ?_
    refine retQ.two (ResAt.cellNo 1 sh_148 rfl rfl (takeAt_full (k := 20) (by simp [hMl]))) (ResAt.tmp rfl) ?_
    rw [show M = _ from hM.eq]; rfl
end Go.Proofs.YtolcicaclflagaaDoor

/- The walks of functions. -/
namespace Go.Proofs.YtolcicaclflagaaDoor
open Go.X Go.S Go.RowKit
theorem asked_any (s : Sp) (bo ro : Option Addr) (bc rc : Nat) (p : Prop) [Decidable p] (e : Int) (hb : s.book.length ≤ 1000000) (hr : s.reads.length ≤ 1000000) (w : World) (hg : Gl w) (hs : SpAt w s bo ro) :
    CallsR Tryd.prog 108 [.agg ⟨[.int .i64 s.weeks, .int .i64 s.most, .int .i64 s.fall, .int .i64 s.a0, .int .i64 s.a1, .int .i64 s.w0, .int .i64 s.w1, (.slice bo s.book.length bc), (.slice ro s.reads.length rc)]⟩, .bool (decide (p)), .int .i64 e] w (fun v _ => AskR s bo ro bc rc p e v) := by
  refine CallsR.of_SX (n := 38) (rs := [.cell 6 150, .cell 7 148, .tmp 8]) Tryd.func108 rfl rfl rfl rfl ?_
  show SX _ _ _ ⟨[(0, .agg ⟨[.int .i64 s.weeks, .int .i64 s.most, .int .i64 s.fall, .int .i64 s.a0, .int .i64 s.a1, .int .i64 s.w0, .int .i64 s.w1, (.slice bo s.book.length bc), (.slice ro s.reads.length rc)]⟩), (1, .bool (decide (p))), (2, .int .i64 e)], [], []⟩
  refine SX.seq ?_
  refine SX.region ?_
  refine SXL.box rfl rfl ?_; intro b0
  refine SXL.alloc zp_150 ?_; intro b1
  refine SXL.alloc zp_148 ?_; intro b2
  refine SXL.assign rfl ?_
  refine SXL.nil ?_
  refine thenQ.normal ?_
  refine SX.seq ?_
  refine SX.seq ?_
  refine SX.region ?_
  refine SXL.loadNo 0 sh_68 rfl rfl rfl ?_
  refine SXL.call1 (.int .i64 (if SpP s then 0 else 10)) fn_112 rfl (fun w hI => scheck_any s bo ro _ _ hb hr _ (hg.inv hI) (hs.inv hI)) ?_
  refine SXL.assign rfl ?_
  refine SXL.nil ?_
  refine thenQ.normal ?_
  refine SX.seq ?_
  refine SX.region ?_
  refine SXL.move rfl ?_
  refine SXL.neqI rfl rfl ?_
  refine SXL.nil ?_
  refine thenQ.normal ?_
  refine SX.condP rfl (fun c16 => ?_) (fun c16 => ?_)
  · refine SX.seq ?_
    refine SX.region ?_
    refine SXL.buildS pl_150 zp_150 rfl rfl ?_
    refine SXL.buildA ae_148 zp_148 rfl rfl ?_
    refine SXL.move rfl ?_
    refine SXL.store 1 sz_150 rfl rfl rfl rfl rfl rfl ?_
    refine SXL.store 2 sz_148 rfl rfl rfl rfl rfl rfl ?_
    refine SXL.assign rfl ?_
    refine SXL.nil ?_
    refine thenQ.normal ?_
    refine SX.ret ?_
    refine thenQ.ret ?_
    refine retQ.three (ResAt.cellNo 1 sh_150 rfl rfl rfl) (ResAt.cellNo 2 sh_148 rfl rfl rfl) (ResAt.tmp rfl) ?_
    have hv : ¬SpP s := fun h => c16 (by rw [if_pos h])
    exact ⟨_, List.replicate 20 0, rfl, rfl, rfl, by rw [askE, if_pos hv, if_neg hv]; rfl, fun h => absurd h hv⟩
  · refine SX.skip ?_
    refine thenQ.normal ?_
    refine SX.seq ?_
    refine SX.seq ?_
    have hv : SpP s := Decidable.byContradiction fun h => c16 (by rw [if_neg h]; omega)
    refine SX.region ?_
    refine SXL.move rfl ?_
    refine SXL.not rfl ?_
    refine SXL.nil ?_
    refine thenQ.normal ?_
    refine SX.condP rfl (fun c21 => ?_) (fun c21 => ?_)
    · refine SX.seq ?_
      refine SX.region ?_
      refine SXL.buildS pl_150 zp_150 rfl rfl ?_
      refine SXL.buildA ae_148 zp_148 rfl rfl ?_
      refine SXL.move rfl ?_
      refine SXL.store 1 sz_150 rfl rfl rfl rfl rfl rfl ?_
      refine SXL.store 2 sz_148 rfl rfl rfl rfl rfl rfl ?_
      refine SXL.assign rfl ?_
      refine SXL.nil ?_
      refine thenQ.normal ?_
      refine SX.ret ?_
      refine thenQ.ret ?_
      refine retQ.three (ResAt.cellNo 1 sh_150 rfl rfl rfl) (ResAt.cellNo 2 sh_148 rfl rfl rfl) (ResAt.tmp rfl) ?_
      exact ⟨_, List.replicate 20 0, rfl, rfl, rfl, by rw [askE, if_neg (by simpa using hv), if_pos c21]; rfl, fun _ h => absurd h c21⟩
    · refine SX.skip ?_
      refine thenQ.normal ?_
      refine SX.seq ?_
      refine SX.region ?_
      refine SXL.loadNo 0 sh_68 rfl rfl rfl ?_
      refine SXL.call1 (.agg ⟨watC s bo ro bc rc (flL s)⟩) fn_113 rfl (fun w hI => flowing_any s bo ro bc rc hv _ (hg.inv hI) (hs.inv hI)) ?_
      refine SXL.alloc zp_150 ?_; intro b3
      refine SXL.store 3 sz_150 rfl rfl rfl rfl (watC_len (by simp [flL])) (putAt_all _ _ (watC_len (by simp [flL]))) ?_ (watC_one _ _ _ _ _ _)
      refine SXL.nil ?_
      refine thenQ.normal ?_
      refine SX.seq ?_
      refine SX.region ?_
      refine SXL.loadNo 3 sh_150 rfl rfl (takeAt_full (watC_len (by simp [flL]))) ?_
      refine SXL.call1 (.tuple ⟨[.agg ⟨ints (outL s.weeks.toNat (lvsL s (baseL s) (rnsL s (baseL s))))⟩, .bool (decide (rnsL s (baseL s) ≠ []))]⟩) fn_114 rfl (fun w hI => spans_any s bo ro bc rc (flL s) (baseL s) hv (relW hv) _ (hg.inv hI) (hs.inv hI)) ?_
      refine SXL.move rfl ?_
      refine SXL.extract rfl rfl ?_
      refine SXL.extract rfl rfl ?_
      refine SXL.alloc zp_148 ?_; intro b4
      refine SXL.store 4 sz_148 rfl rfl rfl rfl (by simp [outL]) (putAt_all _ _ (by simp [outL])) ?_ (ints_isOne _)
      refine SXL.assign rfl ?_
      refine SXL.nil ?_
      refine thenQ.normal ?_
      refine SX.seq ?_
      refine SX.seq ?_
      refine SX.region ?_
      refine SXL.move rfl ?_
      refine SXL.not rfl ?_
      refine SXL.nil ?_
      refine thenQ.normal ?_
      refine SX.condP rfl (fun c33 => ?_) (fun c33 => ?_)
      · refine SX.seq ?_
        refine SX.region ?_
        refine SXL.buildS pl_150 zp_150 rfl rfl ?_
        refine SXL.buildA ae_148 zp_148 rfl rfl ?_
        refine SXL.store 1 sz_150 rfl rfl rfl rfl rfl rfl ?_
        refine SXL.store 2 sz_148 rfl rfl rfl rfl rfl rfl ?_
        refine SXL.assign rfl ?_
        refine SXL.nil ?_
        refine thenQ.normal ?_
        refine SX.ret ?_
        refine thenQ.ret ?_
        refine retQ.three (ResAt.cellNo 1 sh_150 rfl rfl rfl) (ResAt.cellNo 2 sh_148 rfl rfl rfl) (ResAt.tmp rfl) ?_
        exact ⟨_, List.replicate 20 0, rfl, rfl, rfl, by rw [askE, if_neg (by simpa using hv), if_neg c21, if_neg c33]; rfl, fun _ _ h => absurd h c33⟩
      · refine SX.skip ?_
        refine thenQ.normal ?_
        refine SX.seq ?_
        refine SX.draw 5 (by kernel_rfl) (by kernel_rfl) ⟨[1, 3, 4], [true, false, false]⟩ ?_
        refine SXA.take 0 1 rfl (by kernel_rfl) rfl ?_
        refine SXL.loadNo 3 sh_150 rfl rfl (takeAt_full (watC_len (by simp [flL]))) ?_
        refine SXL.nil ⟨rfl, rfl, rfl, ?_⟩
        refine SXA.takeM 1 1 rfl (by kernel_rfl) rfl ?_
        refine SXL.loadNo 2 sh_148 rfl rfl (takeAt_full (by simp [outL])) ?_
        refine SXL.nil ⟨rfl, rfl, rfl, ?_⟩
        refine SXA.all [2] (by kernel_rfl) rfl ⟨⟨?_, rfl⟩, trivial⟩
        refine (show SXL _ _ [_] _ _ from ?_)
        refine SXL.store 1 sz_150 rfl rfl rfl rfl (watC_len (by simp [flL])) (putAt_all _ _ (watC_len (by simp [flL]))) ?_ (watC_one _ _ _ _ _ _)
        refine SXL.nil (stepQ.mkL _ (by kernel_rfl) rfl rfl ?_)
        refine SXA.all [3] (by kernel_rfl) rfl ⟨⟨?_, rfl⟩, trivial⟩
        refine (show SXL _ _ [_] _ _ from ?_)
        refine SXL.store 2 sz_148 rfl rfl rfl rfl (by simp [outL]) (putAt_all _ _ (by simp [outL])) ?_ (ints_isOne _)
        refine SXL.nil (stepQ.mkL _ (by kernel_rfl) rfl rfl ?_)
        refine SXA.takeM 4 1 rfl (by kernel_rfl) rfl ?_
        refine SXL.assign rfl ?_
        refine SXL.nil ⟨rfl, rfl, rfl, ?_⟩
        refine SXA.done (by kernel_rfl) ?_
        refine SXL.nil ?_
        refine thenQ.normal ?_
        refine SX.ret ?_
        refine retQ.three (ResAt.cellNo 1 sh_150 rfl rfl (takeAt_full (watC_len (by simp [flL])))) (ResAt.cellNo 2 sh_148 rfl rfl (takeAt_full (k := 20) (by simp [outL]))) (ResAt.tmp rfl) ?_
        exact ⟨_, outA s, watC_len (by simp [flL]), watC_one _ _ _ _ _ _, by simp [outA, outL], by rw [askE, if_neg (by simpa using hv), if_neg c21, if_pos (Decidable.not_not.1 c33)]; rfl, fun _ _ _ => ⟨rfl, rfl⟩⟩
end Go.Proofs.YtolcicaclflagaaDoor

/- The walks of functions. -/
namespace Go.Proofs.YtolcicaclflagaaDoor
open Go.X Go.S Go.RowKit
set_option maxHeartbeats 4000000 in
theorem sgives_any (s : Sp) (bo ro : Option Addr) (bc rc : Nat) (week : Int) (hb : s.book.length ≤ 1000000) (hr : s.reads.length ≤ 1000000) (w : World) (hg : Gl w) (hs : SpAt w s bo ro) :
    CallsR Tryd.prog 104 [.agg ⟨[.int .i64 s.weeks, .int .i64 s.most, .int .i64 s.fall, .int .i64 s.a0, .int .i64 s.a1, .int .i64 s.w0, .int .i64 s.w1, (.slice bo s.book.length bc), (.slice ro s.reads.length rc)]⟩, .int .i64 week] w (fun v _ => v = .tuple ⟨[.agg ⟨[.int .i64 ((givesLo s week)), .int .i64 ((givesHi s week))]⟩, .int .i64 (toldE s week)]⟩) := by
  have hp : SpP s → (Wi week 0 (IntKind.i64.wrap (s.weeks - 1)) ↔ Wi week 0 (s.weeks - 1)) := fun hv => by
    have hH := hv.1; unfold HeadP at hH; rw [wrap_in (by omega)]
  have hA : askE s (Wi week 0 (IntKind.i64.wrap (s.weeks - 1))) 11 = toldE s week := askE_told hp
  refine CallsR.of_SX (n := 28) (rs := [.cell 4 55, .tmp 5]) Tryd.func104 rfl rfl rfl rfl ?_
  show SX _ _ _ ⟨[(0, .agg ⟨[.int .i64 s.weeks, .int .i64 s.most, .int .i64 s.fall, .int .i64 s.a0, .int .i64 s.a1, .int .i64 s.w0, .int .i64 s.w1, (.slice bo s.book.length bc), (.slice ro s.reads.length rc)]⟩), (1, .int .i64 week)], [], []⟩
  refine SX.seq ?_
  refine SX.region ?_
  refine SXL.box rfl rfl ?_; intro b0
  refine SXL.alloc zp_55 ?_; intro b1
  refine SXL.assign rfl ?_
  refine SXL.nil ?_
  refine thenQ.normal ?_
  refine SX.seq ?_
  refine SX.draw 17 (by kernel_rfl) (by kernel_rfl) ⟨[10, 11, 15, 16], [true, true, false, false, false]⟩ ?_
  refine SXA.take 0 5 rfl (by kernel_rfl) rfl ?_
  refine SXL.loadNo 0 sh_68 rfl rfl rfl ?_
  refine SXL.fieldAddr fp_68_0 rfl ?_
  refine SXL.load1o 0 sh_3 rfl rfl rfl ?_
  refine SXL.subW rfl rfl ?_
  refine SXL.move rfl ?_
  refine SXL.nil ⟨rfl, rfl, rfl, ?_⟩
  refine SXA.all [5, 12, 13] (by kernel_rfl) rfl ⟨⟨?_, rfl⟩, ⟨?_, rfl⟩, ⟨?_, rfl⟩, trivial⟩
  · refine (show SXL _ _ [_] _ _ from ?_)
    refine SXL.buildSlice et_33 zp_3 rfl rfl rfl rfl ?_; intro b2
    refine SXL.nil (stepQ.mk _ rfl rfl ?_)
    refine SXA.take 6 1 rfl (by kernel_rfl) rfl ?_
    refine SXL.call1 (.bool (decide (Wi week 0 (IntKind.i64.wrap (s.weeks - 1))))) fn_109 rfl (fun w hI => in1_own hI 2 week 0 (IntKind.i64.wrap (s.weeks - 1)) rfl) ?_
    refine SXL.nil ⟨rfl, rfl, rfl, ?_⟩
    refine SXA.all [7, 12, 13] (by kernel_rfl) rfl ⟨⟨?_, rfl⟩, ⟨?_, rfl⟩, ⟨?_, rfl⟩, trivial⟩
    · refine (show SXL _ _ [_] _ _ from ?_)
      refine SXL.callP (AskR s bo ro bc rc (Wi week 0 (IntKind.i64.wrap (s.weeks - 1))) 11) fn_108 rfl (fun w hI => asked_any s bo ro bc rc (Wi week 0 (IntKind.i64.wrap (s.weeks - 1))) 11 hb hr w (hg.inv hI) (hs.inv hI)) ?_; rintro _ ⟨W, O, hW1, hW2, hO, rfl, hok⟩
      refine SXL.nil (stepQ.mk _ rfl rfl ?_)
      refine SXA.take 8 2 rfl (by kernel_rfl) rfl ?_
      refine SXL.move rfl ?_
      refine SXL.extract rfl rfl ?_
      refine SXL.nil ⟨rfl, rfl, rfl, ?_⟩
      refine SXA.takeM 10 2 rfl (by kernel_rfl) rfl ?_
      refine SXL.extract rfl rfl ?_
      refine SXL.extract rfl rfl ?_
      refine SXL.nil ⟨rfl, rfl, rfl, ?_⟩
      refine SXA.all [12, 13] (by kernel_rfl) rfl ⟨⟨?_, rfl⟩, ⟨?_, rfl⟩, trivial⟩
      · refine (show SXL _ _ [_] _ _ from ?_)
        refine SXL.alloc zp_150 ?_; intro b3
        refine SXL.nil (stepQ.mk _ rfl rfl ?_)
        refine SXA.all [13] (by kernel_rfl) rfl ⟨⟨?_, rfl⟩, trivial⟩
        refine (show SXL _ _ [_] _ _ from ?_)
        refine SXL.alloc zp_148 ?_; intro b4
        refine SXL.nil (stepQ.mk _ rfl rfl ?_)
        refine SXA.all [14] (by kernel_rfl) rfl ⟨⟨?_, rfl⟩, trivial⟩
        refine (show SXL _ _ [_] _ _ from ?_)
        refine SXL.store 3 sz_150 rfl rfl rfl rfl hW1 (putAt_all _ _ (by simp [hW1])) ?_ hW2
        refine SXL.nil (stepQ.mkL _ (by kernel_rfl) rfl rfl ?_)
        refine SXA.all [15] (by kernel_rfl) rfl ⟨⟨?_, rfl⟩, trivial⟩
        refine (show SXL _ _ [_] _ _ from ?_)
        refine SXL.store 4 sz_148 rfl rfl rfl rfl (by simp [hO]) (putAt_all _ _ (by simp [hO])) ?_ (ints_isOne _)
        refine SXL.nil (stepQ.mkL _ (by kernel_rfl) rfl rfl ?_)
        refine SXA.takeM 16 1 rfl (by kernel_rfl) rfl ?_
        refine SXL.assign rfl ?_
        refine SXL.nil ⟨rfl, rfl, rfl, ?_⟩
        refine SXA.done (by kernel_rfl) ?_
        refine SXL.nil ?_
        refine thenQ.normal ?_
        refine SX.seq ?_
        refine SX.seq ?_
        refine SX.region ?_
        refine SXL.move rfl ?_
        refine SXL.neqI rfl rfl ?_
        refine SXL.nil ?_
        refine thenQ.normal ?_
        refine SX.condP rfl (fun c22 => ?_) (fun c22 => ?_)
        · refine SX.seq ?_
          refine SX.region ?_
          refine SXL.buildS pl_55 zp_55 rfl rfl ?_
          refine SXL.move rfl ?_
          refine SXL.store 1 sz_55 rfl rfl rfl rfl rfl rfl ?_
          refine SXL.assign rfl ?_
          refine SXL.nil ?_
          refine thenQ.normal ?_
          refine SX.ret ?_
          refine thenQ.ret ?_
          refine retQ.two (ResAt.cellNo 1 sh_55 rfl rfl rfl) (ResAt.tmp rfl) ?_
          rw [givesLo, givesHi, ← hA, if_neg c22, if_neg c22]
        · refine SX.skip ?_
          refine thenQ.normal ?_
          refine SX.seq ?_
          have hc22 := Decidable.not_not.1 c22
          obtain ⟨hv, hwk, ht⟩ := toldE_valid (hA ▸ hc22)
          obtain ⟨rfl, rfl⟩ := hok hv ((hp hv).2 hwk) ht
          obtain ⟨g1, g2⟩ := outA_at (hA ▸ hc22)
          have hH := hv.1
          unfold HeadP at hH
          refine SX.region ?_
          refine SXL.move rfl ?_
          refine SXL.indexA el_148 rfl rfl (by omega) ?_
          refine SXL.loadNo 4 sh_55 rfl rfl (ints_take2' (M := outA s) (i := week.toNat) (by omega) (by rw [hO]; omega)) ?_
          refine SXL.store 1 sz_55 rfl rfl rfl rfl rfl rfl ?_
          refine SXL.assign rfl ?_
          refine SXL.nil ?_
          refine thenQ.normal ?_
          refine SX.ret ?_
          refine retQ.two (ResAt.cellNo 1 sh_55 rfl rfl rfl) (ResAt.tmp rfl) ?_
          rw [← hA, hc22, g1, g2]
      · refine (show SXL _ _ [_] _ _ from ?_)
        refine SXL.alloc zp_148 ?_; intro b3
        refine SXL.nil (stepQ.mk _ rfl rfl ?_)
        refine SXA.all [12] (by kernel_rfl) rfl ⟨⟨?_, rfl⟩, trivial⟩
        refine (show SXL _ _ [_] _ _ from ?_)
        refine SXL.alloc zp_150 ?_; intro b4
        refine SXL.nil (stepQ.mk _ rfl rfl ?_)
        refine SXA.all [14] (by kernel_rfl) rfl ⟨⟨?_, rfl⟩, trivial⟩
        refine (show SXL _ _ [_] _ _ from ?_)
        refine SXL.store 4 sz_150 rfl rfl rfl rfl hW1 (putAt_all _ _ (by simp [hW1])) ?_ hW2
        refine SXL.nil (stepQ.mkL _ (by kernel_rfl) rfl rfl ?_)
        refine SXA.all [15] (by kernel_rfl) rfl ⟨⟨?_, rfl⟩, trivial⟩
        refine (show SXL _ _ [_] _ _ from ?_)
        refine SXL.store 3 sz_148 rfl rfl rfl rfl (by simp [hO]) (putAt_all _ _ (by simp [hO])) ?_ (ints_isOne _)
        refine SXL.nil (stepQ.mkL _ (by kernel_rfl) rfl rfl ?_)
        refine SXA.takeM 16 1 rfl (by kernel_rfl) rfl ?_
        refine SXL.assign rfl ?_
        refine SXL.nil ⟨rfl, rfl, rfl, ?_⟩
        refine SXA.done (by kernel_rfl) ?_
        refine SXL.nil ?_
        refine thenQ.normal ?_
        refine SX.seq ?_
        refine SX.seq ?_
        refine SX.region ?_
        refine SXL.move rfl ?_
        refine SXL.neqI rfl rfl ?_
        refine SXL.nil ?_
        refine thenQ.normal ?_
        refine SX.condP rfl (fun c22 => ?_) (fun c22 => ?_)
        · refine SX.seq ?_
          refine SX.region ?_
          refine SXL.buildS pl_55 zp_55 rfl rfl ?_
          refine SXL.move rfl ?_
          refine SXL.store 1 sz_55 rfl rfl rfl rfl rfl rfl ?_
          refine SXL.assign rfl ?_
          refine SXL.nil ?_
          refine thenQ.normal ?_
          refine SX.ret ?_
          refine thenQ.ret ?_
          refine retQ.two (ResAt.cellNo 1 sh_55 rfl rfl rfl) (ResAt.tmp rfl) ?_
          rw [givesLo, givesHi, ← hA, if_neg c22, if_neg c22]
        · refine SX.skip ?_
          refine thenQ.normal ?_
          refine SX.seq ?_
          have hc22 := Decidable.not_not.1 c22
          obtain ⟨hv, hwk, ht⟩ := toldE_valid (hA ▸ hc22)
          obtain ⟨rfl, rfl⟩ := hok hv ((hp hv).2 hwk) ht
          obtain ⟨g1, g2⟩ := outA_at (hA ▸ hc22)
          have hH := hv.1
          unfold HeadP at hH
          refine SX.region ?_
          refine SXL.move rfl ?_
          refine SXL.indexA el_148 rfl rfl (by omega) ?_
          refine SXL.loadNo 3 sh_55 rfl rfl (ints_take2' (M := outA s) (i := week.toNat) (by omega) (by rw [hO]; omega)) ?_
          refine SXL.store 1 sz_55 rfl rfl rfl rfl rfl rfl ?_
          refine SXL.assign rfl ?_
          refine SXL.nil ?_
          refine thenQ.normal ?_
          refine SX.ret ?_
          refine retQ.two (ResAt.cellNo 1 sh_55 rfl rfl rfl) (ResAt.tmp rfl) ?_
          rw [← hA, hc22, g1, g2]
    · refine (show SXL _ _ [_] _ _ from ?_)
      refine SXL.alloc zp_150 ?_; intro b3
      refine SXL.nil (stepQ.mk _ rfl rfl ?_)
      refine SXA.all [7, 13] (by kernel_rfl) rfl ⟨⟨?_, rfl⟩, ⟨?_, rfl⟩, trivial⟩
      · refine (show SXL _ _ [_] _ _ from ?_)
        refine SXL.callP (AskR s bo ro bc rc (Wi week 0 (IntKind.i64.wrap (s.weeks - 1))) 11) fn_108 rfl (fun w hI => asked_any s bo ro bc rc (Wi week 0 (IntKind.i64.wrap (s.weeks - 1))) 11 hb hr w (hg.inv hI) (hs.inv hI)) ?_; rintro _ ⟨W, O, hW1, hW2, hO, rfl, hok⟩
        refine SXL.nil (stepQ.mk _ rfl rfl ?_)
        refine SXA.take 8 2 rfl (by kernel_rfl) rfl ?_
        refine SXL.move rfl ?_
        refine SXL.extract rfl rfl ?_
        refine SXL.nil ⟨rfl, rfl, rfl, ?_⟩
        refine SXA.takeM 10 2 rfl (by kernel_rfl) rfl ?_
        refine SXL.extract rfl rfl ?_
        refine SXL.extract rfl rfl ?_
        refine SXL.nil ⟨rfl, rfl, rfl, ?_⟩
        refine SXA.all [13] (by kernel_rfl) rfl ⟨⟨?_, rfl⟩, trivial⟩
        refine (show SXL _ _ [_] _ _ from ?_)
        refine SXL.alloc zp_148 ?_; intro b4
        refine SXL.nil (stepQ.mk _ rfl rfl ?_)
        refine SXA.all [14] (by kernel_rfl) rfl ⟨⟨?_, rfl⟩, trivial⟩
        refine (show SXL _ _ [_] _ _ from ?_)
        refine SXL.store 3 sz_150 rfl rfl rfl rfl hW1 (putAt_all _ _ (by simp [hW1])) ?_ hW2
        refine SXL.nil (stepQ.mkL _ (by kernel_rfl) rfl rfl ?_)
        refine SXA.all [15] (by kernel_rfl) rfl ⟨⟨?_, rfl⟩, trivial⟩
        refine (show SXL _ _ [_] _ _ from ?_)
        refine SXL.store 4 sz_148 rfl rfl rfl rfl (by simp [hO]) (putAt_all _ _ (by simp [hO])) ?_ (ints_isOne _)
        refine SXL.nil (stepQ.mkL _ (by kernel_rfl) rfl rfl ?_)
        refine SXA.takeM 16 1 rfl (by kernel_rfl) rfl ?_
        refine SXL.assign rfl ?_
        refine SXL.nil ⟨rfl, rfl, rfl, ?_⟩
        refine SXA.done (by kernel_rfl) ?_
        refine SXL.nil ?_
        refine thenQ.normal ?_
        refine SX.seq ?_
        refine SX.seq ?_
        refine SX.region ?_
        refine SXL.move rfl ?_
        refine SXL.neqI rfl rfl ?_
        refine SXL.nil ?_
        refine thenQ.normal ?_
        refine SX.condP rfl (fun c22 => ?_) (fun c22 => ?_)
        · refine SX.seq ?_
          refine SX.region ?_
          refine SXL.buildS pl_55 zp_55 rfl rfl ?_
          refine SXL.move rfl ?_
          refine SXL.store 1 sz_55 rfl rfl rfl rfl rfl rfl ?_
          refine SXL.assign rfl ?_
          refine SXL.nil ?_
          refine thenQ.normal ?_
          refine SX.ret ?_
          refine thenQ.ret ?_
          refine retQ.two (ResAt.cellNo 1 sh_55 rfl rfl rfl) (ResAt.tmp rfl) ?_
          rw [givesLo, givesHi, ← hA, if_neg c22, if_neg c22]
        · refine SX.skip ?_
          refine thenQ.normal ?_
          refine SX.seq ?_
          have hc22 := Decidable.not_not.1 c22
          obtain ⟨hv, hwk, ht⟩ := toldE_valid (hA ▸ hc22)
          obtain ⟨rfl, rfl⟩ := hok hv ((hp hv).2 hwk) ht
          obtain ⟨g1, g2⟩ := outA_at (hA ▸ hc22)
          have hH := hv.1
          unfold HeadP at hH
          refine SX.region ?_
          refine SXL.move rfl ?_
          refine SXL.indexA el_148 rfl rfl (by omega) ?_
          refine SXL.loadNo 4 sh_55 rfl rfl (ints_take2' (M := outA s) (i := week.toNat) (by omega) (by rw [hO]; omega)) ?_
          refine SXL.store 1 sz_55 rfl rfl rfl rfl rfl rfl ?_
          refine SXL.assign rfl ?_
          refine SXL.nil ?_
          refine thenQ.normal ?_
          refine SX.ret ?_
          refine retQ.two (ResAt.cellNo 1 sh_55 rfl rfl rfl) (ResAt.tmp rfl) ?_
          rw [← hA, hc22, g1, g2]
      · refine (show SXL _ _ [_] _ _ from ?_)
        refine SXL.alloc zp_148 ?_; intro b4
        refine SXL.nil (stepQ.mk _ rfl rfl ?_)
        refine SXA.all [7] (by kernel_rfl) rfl ⟨⟨?_, rfl⟩, trivial⟩
        refine (show SXL _ _ [_] _ _ from ?_)
        refine SXL.callP (AskR s bo ro bc rc (Wi week 0 (IntKind.i64.wrap (s.weeks - 1))) 11) fn_108 rfl (fun w hI => asked_any s bo ro bc rc (Wi week 0 (IntKind.i64.wrap (s.weeks - 1))) 11 hb hr w (hg.inv hI) (hs.inv hI)) ?_; rintro _ ⟨W, O, hW1, hW2, hO, rfl, hok⟩
        refine SXL.nil (stepQ.mk _ rfl rfl ?_)
        refine SXA.take 8 2 rfl (by kernel_rfl) rfl ?_
        refine SXL.move rfl ?_
        refine SXL.extract rfl rfl ?_
        refine SXL.nil ⟨rfl, rfl, rfl, ?_⟩
        refine SXA.takeM 10 2 rfl (by kernel_rfl) rfl ?_
        refine SXL.extract rfl rfl ?_
        refine SXL.extract rfl rfl ?_
        refine SXL.nil ⟨rfl, rfl, rfl, ?_⟩
        refine SXA.all [14] (by kernel_rfl) rfl ⟨⟨?_, rfl⟩, trivial⟩
        refine (show SXL _ _ [_] _ _ from ?_)
        refine SXL.store 3 sz_150 rfl rfl rfl rfl hW1 (putAt_all _ _ (by simp [hW1])) ?_ hW2
        refine SXL.nil (stepQ.mkL _ (by kernel_rfl) rfl rfl ?_)
        refine SXA.all [15] (by kernel_rfl) rfl ⟨⟨?_, rfl⟩, trivial⟩
        refine (show SXL _ _ [_] _ _ from ?_)
        refine SXL.store 4 sz_148 rfl rfl rfl rfl (by simp [hO]) (putAt_all _ _ (by simp [hO])) ?_ (ints_isOne _)
        refine SXL.nil (stepQ.mkL _ (by kernel_rfl) rfl rfl ?_)
        refine SXA.takeM 16 1 rfl (by kernel_rfl) rfl ?_
        refine SXL.assign rfl ?_
        refine SXL.nil ⟨rfl, rfl, rfl, ?_⟩
        refine SXA.done (by kernel_rfl) ?_
        refine SXL.nil ?_
        refine thenQ.normal ?_
        refine SX.seq ?_
        refine SX.seq ?_
        refine SX.region ?_
        refine SXL.move rfl ?_
        refine SXL.neqI rfl rfl ?_
        refine SXL.nil ?_
        refine thenQ.normal ?_
        refine SX.condP rfl (fun c22 => ?_) (fun c22 => ?_)
        · refine SX.seq ?_
          refine SX.region ?_
          refine SXL.buildS pl_55 zp_55 rfl rfl ?_
          refine SXL.move rfl ?_
          refine SXL.store 1 sz_55 rfl rfl rfl rfl rfl rfl ?_
          refine SXL.assign rfl ?_
          refine SXL.nil ?_
          refine thenQ.normal ?_
          refine SX.ret ?_
          refine thenQ.ret ?_
          refine retQ.two (ResAt.cellNo 1 sh_55 rfl rfl rfl) (ResAt.tmp rfl) ?_
          rw [givesLo, givesHi, ← hA, if_neg c22, if_neg c22]
        · refine SX.skip ?_
          refine thenQ.normal ?_
          refine SX.seq ?_
          have hc22 := Decidable.not_not.1 c22
          obtain ⟨hv, hwk, ht⟩ := toldE_valid (hA ▸ hc22)
          obtain ⟨rfl, rfl⟩ := hok hv ((hp hv).2 hwk) ht
          obtain ⟨g1, g2⟩ := outA_at (hA ▸ hc22)
          have hH := hv.1
          unfold HeadP at hH
          refine SX.region ?_
          refine SXL.move rfl ?_
          refine SXL.indexA el_148 rfl rfl (by omega) ?_
          refine SXL.loadNo 4 sh_55 rfl rfl (ints_take2' (M := outA s) (i := week.toNat) (by omega) (by rw [hO]; omega)) ?_
          refine SXL.store 1 sz_55 rfl rfl rfl rfl rfl rfl ?_
          refine SXL.assign rfl ?_
          refine SXL.nil ?_
          refine thenQ.normal ?_
          refine SX.ret ?_
          refine retQ.two (ResAt.cellNo 1 sh_55 rfl rfl rfl) (ResAt.tmp rfl) ?_
          rw [← hA, hc22, g1, g2]
    · refine (show SXL _ _ [_] _ _ from ?_)
      refine SXL.alloc zp_148 ?_; intro b3
      refine SXL.nil (stepQ.mk _ rfl rfl ?_)
      refine SXA.all [7, 12] (by kernel_rfl) rfl ⟨⟨?_, rfl⟩, ⟨?_, rfl⟩, trivial⟩
      · refine (show SXL _ _ [_] _ _ from ?_)
        refine SXL.callP (AskR s bo ro bc rc (Wi week 0 (IntKind.i64.wrap (s.weeks - 1))) 11) fn_108 rfl (fun w hI => asked_any s bo ro bc rc (Wi week 0 (IntKind.i64.wrap (s.weeks - 1))) 11 hb hr w (hg.inv hI) (hs.inv hI)) ?_; rintro _ ⟨W, O, hW1, hW2, hO, rfl, hok⟩
        refine SXL.nil (stepQ.mk _ rfl rfl ?_)
        refine SXA.take 8 2 rfl (by kernel_rfl) rfl ?_
        refine SXL.move rfl ?_
        refine SXL.extract rfl rfl ?_
        refine SXL.nil ⟨rfl, rfl, rfl, ?_⟩
        refine SXA.takeM 10 2 rfl (by kernel_rfl) rfl ?_
        refine SXL.extract rfl rfl ?_
        refine SXL.extract rfl rfl ?_
        refine SXL.nil ⟨rfl, rfl, rfl, ?_⟩
        refine SXA.all [12] (by kernel_rfl) rfl ⟨⟨?_, rfl⟩, trivial⟩
        refine (show SXL _ _ [_] _ _ from ?_)
        refine SXL.alloc zp_150 ?_; intro b4
        refine SXL.nil (stepQ.mk _ rfl rfl ?_)
        refine SXA.all [14] (by kernel_rfl) rfl ⟨⟨?_, rfl⟩, trivial⟩
        refine (show SXL _ _ [_] _ _ from ?_)
        refine SXL.store 4 sz_150 rfl rfl rfl rfl hW1 (putAt_all _ _ (by simp [hW1])) ?_ hW2
        refine SXL.nil (stepQ.mkL _ (by kernel_rfl) rfl rfl ?_)
        refine SXA.all [15] (by kernel_rfl) rfl ⟨⟨?_, rfl⟩, trivial⟩
        refine (show SXL _ _ [_] _ _ from ?_)
        refine SXL.store 3 sz_148 rfl rfl rfl rfl (by simp [hO]) (putAt_all _ _ (by simp [hO])) ?_ (ints_isOne _)
        refine SXL.nil (stepQ.mkL _ (by kernel_rfl) rfl rfl ?_)
        refine SXA.takeM 16 1 rfl (by kernel_rfl) rfl ?_
        refine SXL.assign rfl ?_
        refine SXL.nil ⟨rfl, rfl, rfl, ?_⟩
        refine SXA.done (by kernel_rfl) ?_
        refine SXL.nil ?_
        refine thenQ.normal ?_
        refine SX.seq ?_
        refine SX.seq ?_
        refine SX.region ?_
        refine SXL.move rfl ?_
        refine SXL.neqI rfl rfl ?_
        refine SXL.nil ?_
        refine thenQ.normal ?_
        refine SX.condP rfl (fun c22 => ?_) (fun c22 => ?_)
        · refine SX.seq ?_
          refine SX.region ?_
          refine SXL.buildS pl_55 zp_55 rfl rfl ?_
          refine SXL.move rfl ?_
          refine SXL.store 1 sz_55 rfl rfl rfl rfl rfl rfl ?_
          refine SXL.assign rfl ?_
          refine SXL.nil ?_
          refine thenQ.normal ?_
          refine SX.ret ?_
          refine thenQ.ret ?_
          refine retQ.two (ResAt.cellNo 1 sh_55 rfl rfl rfl) (ResAt.tmp rfl) ?_
          rw [givesLo, givesHi, ← hA, if_neg c22, if_neg c22]
        · refine SX.skip ?_
          refine thenQ.normal ?_
          refine SX.seq ?_
          have hc22 := Decidable.not_not.1 c22
          obtain ⟨hv, hwk, ht⟩ := toldE_valid (hA ▸ hc22)
          obtain ⟨rfl, rfl⟩ := hok hv ((hp hv).2 hwk) ht
          obtain ⟨g1, g2⟩ := outA_at (hA ▸ hc22)
          have hH := hv.1
          unfold HeadP at hH
          refine SX.region ?_
          refine SXL.move rfl ?_
          refine SXL.indexA el_148 rfl rfl (by omega) ?_
          refine SXL.loadNo 3 sh_55 rfl rfl (ints_take2' (M := outA s) (i := week.toNat) (by omega) (by rw [hO]; omega)) ?_
          refine SXL.store 1 sz_55 rfl rfl rfl rfl rfl rfl ?_
          refine SXL.assign rfl ?_
          refine SXL.nil ?_
          refine thenQ.normal ?_
          refine SX.ret ?_
          refine retQ.two (ResAt.cellNo 1 sh_55 rfl rfl rfl) (ResAt.tmp rfl) ?_
          rw [← hA, hc22, g1, g2]
      · refine (show SXL _ _ [_] _ _ from ?_)
        refine SXL.alloc zp_150 ?_; intro b4
        refine SXL.nil (stepQ.mk _ rfl rfl ?_)
        refine SXA.all [7] (by kernel_rfl) rfl ⟨⟨?_, rfl⟩, trivial⟩
        refine (show SXL _ _ [_] _ _ from ?_)
        refine SXL.callP (AskR s bo ro bc rc (Wi week 0 (IntKind.i64.wrap (s.weeks - 1))) 11) fn_108 rfl (fun w hI => asked_any s bo ro bc rc (Wi week 0 (IntKind.i64.wrap (s.weeks - 1))) 11 hb hr w (hg.inv hI) (hs.inv hI)) ?_; rintro _ ⟨W, O, hW1, hW2, hO, rfl, hok⟩
        refine SXL.nil (stepQ.mk _ rfl rfl ?_)
        refine SXA.take 8 2 rfl (by kernel_rfl) rfl ?_
        refine SXL.move rfl ?_
        refine SXL.extract rfl rfl ?_
        refine SXL.nil ⟨rfl, rfl, rfl, ?_⟩
        refine SXA.takeM 10 2 rfl (by kernel_rfl) rfl ?_
        refine SXL.extract rfl rfl ?_
        refine SXL.extract rfl rfl ?_
        refine SXL.nil ⟨rfl, rfl, rfl, ?_⟩
        refine SXA.all [14] (by kernel_rfl) rfl ⟨⟨?_, rfl⟩, trivial⟩
        refine (show SXL _ _ [_] _ _ from ?_)
        refine SXL.store 4 sz_150 rfl rfl rfl rfl hW1 (putAt_all _ _ (by simp [hW1])) ?_ hW2
        refine SXL.nil (stepQ.mkL _ (by kernel_rfl) rfl rfl ?_)
        refine SXA.all [15] (by kernel_rfl) rfl ⟨⟨?_, rfl⟩, trivial⟩
        refine (show SXL _ _ [_] _ _ from ?_)
        refine SXL.store 3 sz_148 rfl rfl rfl rfl (by simp [hO]) (putAt_all _ _ (by simp [hO])) ?_ (ints_isOne _)
        refine SXL.nil (stepQ.mkL _ (by kernel_rfl) rfl rfl ?_)
        refine SXA.takeM 16 1 rfl (by kernel_rfl) rfl ?_
        refine SXL.assign rfl ?_
        refine SXL.nil ⟨rfl, rfl, rfl, ?_⟩
        refine SXA.done (by kernel_rfl) ?_
        refine SXL.nil ?_
        refine thenQ.normal ?_
        refine SX.seq ?_
        refine SX.seq ?_
        refine SX.region ?_
        refine SXL.move rfl ?_
        refine SXL.neqI rfl rfl ?_
        refine SXL.nil ?_
        refine thenQ.normal ?_
        refine SX.condP rfl (fun c22 => ?_) (fun c22 => ?_)
        · refine SX.seq ?_
          refine SX.region ?_
          refine SXL.buildS pl_55 zp_55 rfl rfl ?_
          refine SXL.move rfl ?_
          refine SXL.store 1 sz_55 rfl rfl rfl rfl rfl rfl ?_
          refine SXL.assign rfl ?_
          refine SXL.nil ?_
          refine thenQ.normal ?_
          refine SX.ret ?_
          refine thenQ.ret ?_
          refine retQ.two (ResAt.cellNo 1 sh_55 rfl rfl rfl) (ResAt.tmp rfl) ?_
          rw [givesLo, givesHi, ← hA, if_neg c22, if_neg c22]
        · refine SX.skip ?_
          refine thenQ.normal ?_
          refine SX.seq ?_
          have hc22 := Decidable.not_not.1 c22
          obtain ⟨hv, hwk, ht⟩ := toldE_valid (hA ▸ hc22)
          obtain ⟨rfl, rfl⟩ := hok hv ((hp hv).2 hwk) ht
          obtain ⟨g1, g2⟩ := outA_at (hA ▸ hc22)
          have hH := hv.1
          unfold HeadP at hH
          refine SX.region ?_
          refine SXL.move rfl ?_
          refine SXL.indexA el_148 rfl rfl (by omega) ?_
          refine SXL.loadNo 3 sh_55 rfl rfl (ints_take2' (M := outA s) (i := week.toNat) (by omega) (by rw [hO]; omega)) ?_
          refine SXL.store 1 sz_55 rfl rfl rfl rfl rfl rfl ?_
          refine SXL.assign rfl ?_
          refine SXL.nil ?_
          refine thenQ.normal ?_
          refine SX.ret ?_
          refine retQ.two (ResAt.cellNo 1 sh_55 rfl rfl rfl) (ResAt.tmp rfl) ?_
          rw [← hA, hc22, g1, g2]
  · refine (show SXL _ _ [_] _ _ from ?_)
    refine SXL.alloc zp_150 ?_; intro b2
    refine SXL.nil (stepQ.mk _ rfl rfl ?_)
    refine SXA.all [5, 13] (by kernel_rfl) rfl ⟨⟨?_, rfl⟩, ⟨?_, rfl⟩, trivial⟩
    · refine (show SXL _ _ [_] _ _ from ?_)
      refine SXL.buildSlice et_33 zp_3 rfl rfl rfl rfl ?_; intro b3
      refine SXL.nil (stepQ.mk _ rfl rfl ?_)
      refine SXA.take 6 1 rfl (by kernel_rfl) rfl ?_
      refine SXL.call1 (.bool (decide (Wi week 0 (IntKind.i64.wrap (s.weeks - 1))))) fn_109 rfl (fun w hI => in1_own hI 3 week 0 (IntKind.i64.wrap (s.weeks - 1)) rfl) ?_
      refine SXL.nil ⟨rfl, rfl, rfl, ?_⟩
      refine SXA.all [7, 13] (by kernel_rfl) rfl ⟨⟨?_, rfl⟩, ⟨?_, rfl⟩, trivial⟩
      · refine (show SXL _ _ [_] _ _ from ?_)
        refine SXL.callP (AskR s bo ro bc rc (Wi week 0 (IntKind.i64.wrap (s.weeks - 1))) 11) fn_108 rfl (fun w hI => asked_any s bo ro bc rc (Wi week 0 (IntKind.i64.wrap (s.weeks - 1))) 11 hb hr w (hg.inv hI) (hs.inv hI)) ?_; rintro _ ⟨W, O, hW1, hW2, hO, rfl, hok⟩
        refine SXL.nil (stepQ.mk _ rfl rfl ?_)
        refine SXA.take 8 2 rfl (by kernel_rfl) rfl ?_
        refine SXL.move rfl ?_
        refine SXL.extract rfl rfl ?_
        refine SXL.nil ⟨rfl, rfl, rfl, ?_⟩
        refine SXA.takeM 10 2 rfl (by kernel_rfl) rfl ?_
        refine SXL.extract rfl rfl ?_
        refine SXL.extract rfl rfl ?_
        refine SXL.nil ⟨rfl, rfl, rfl, ?_⟩
        refine SXA.all [13] (by kernel_rfl) rfl ⟨⟨?_, rfl⟩, trivial⟩
        refine (show SXL _ _ [_] _ _ from ?_)
        refine SXL.alloc zp_148 ?_; intro b4
        refine SXL.nil (stepQ.mk _ rfl rfl ?_)
        refine SXA.all [14] (by kernel_rfl) rfl ⟨⟨?_, rfl⟩, trivial⟩
        refine (show SXL _ _ [_] _ _ from ?_)
        refine SXL.store 2 sz_150 rfl rfl rfl rfl hW1 (putAt_all _ _ (by simp [hW1])) ?_ hW2
        refine SXL.nil (stepQ.mkL _ (by kernel_rfl) rfl rfl ?_)
        refine SXA.all [15] (by kernel_rfl) rfl ⟨⟨?_, rfl⟩, trivial⟩
        refine (show SXL _ _ [_] _ _ from ?_)
        refine SXL.store 4 sz_148 rfl rfl rfl rfl (by simp [hO]) (putAt_all _ _ (by simp [hO])) ?_ (ints_isOne _)
        refine SXL.nil (stepQ.mkL _ (by kernel_rfl) rfl rfl ?_)
        refine SXA.takeM 16 1 rfl (by kernel_rfl) rfl ?_
        refine SXL.assign rfl ?_
        refine SXL.nil ⟨rfl, rfl, rfl, ?_⟩
        refine SXA.done (by kernel_rfl) ?_
        refine SXL.nil ?_
        refine thenQ.normal ?_
        refine SX.seq ?_
        refine SX.seq ?_
        refine SX.region ?_
        refine SXL.move rfl ?_
        refine SXL.neqI rfl rfl ?_
        refine SXL.nil ?_
        refine thenQ.normal ?_
        refine SX.condP rfl (fun c22 => ?_) (fun c22 => ?_)
        · refine SX.seq ?_
          refine SX.region ?_
          refine SXL.buildS pl_55 zp_55 rfl rfl ?_
          refine SXL.move rfl ?_
          refine SXL.store 1 sz_55 rfl rfl rfl rfl rfl rfl ?_
          refine SXL.assign rfl ?_
          refine SXL.nil ?_
          refine thenQ.normal ?_
          refine SX.ret ?_
          refine thenQ.ret ?_
          refine retQ.two (ResAt.cellNo 1 sh_55 rfl rfl rfl) (ResAt.tmp rfl) ?_
          rw [givesLo, givesHi, ← hA, if_neg c22, if_neg c22]
        · refine SX.skip ?_
          refine thenQ.normal ?_
          refine SX.seq ?_
          have hc22 := Decidable.not_not.1 c22
          obtain ⟨hv, hwk, ht⟩ := toldE_valid (hA ▸ hc22)
          obtain ⟨rfl, rfl⟩ := hok hv ((hp hv).2 hwk) ht
          obtain ⟨g1, g2⟩ := outA_at (hA ▸ hc22)
          have hH := hv.1
          unfold HeadP at hH
          refine SX.region ?_
          refine SXL.move rfl ?_
          refine SXL.indexA el_148 rfl rfl (by omega) ?_
          refine SXL.loadNo 4 sh_55 rfl rfl (ints_take2' (M := outA s) (i := week.toNat) (by omega) (by rw [hO]; omega)) ?_
          refine SXL.store 1 sz_55 rfl rfl rfl rfl rfl rfl ?_
          refine SXL.assign rfl ?_
          refine SXL.nil ?_
          refine thenQ.normal ?_
          refine SX.ret ?_
          refine retQ.two (ResAt.cellNo 1 sh_55 rfl rfl rfl) (ResAt.tmp rfl) ?_
          rw [← hA, hc22, g1, g2]
      · refine (show SXL _ _ [_] _ _ from ?_)
        refine SXL.alloc zp_148 ?_; intro b4
        refine SXL.nil (stepQ.mk _ rfl rfl ?_)
        refine SXA.all [7] (by kernel_rfl) rfl ⟨⟨?_, rfl⟩, trivial⟩
        refine (show SXL _ _ [_] _ _ from ?_)
        refine SXL.callP (AskR s bo ro bc rc (Wi week 0 (IntKind.i64.wrap (s.weeks - 1))) 11) fn_108 rfl (fun w hI => asked_any s bo ro bc rc (Wi week 0 (IntKind.i64.wrap (s.weeks - 1))) 11 hb hr w (hg.inv hI) (hs.inv hI)) ?_; rintro _ ⟨W, O, hW1, hW2, hO, rfl, hok⟩
        refine SXL.nil (stepQ.mk _ rfl rfl ?_)
        refine SXA.take 8 2 rfl (by kernel_rfl) rfl ?_
        refine SXL.move rfl ?_
        refine SXL.extract rfl rfl ?_
        refine SXL.nil ⟨rfl, rfl, rfl, ?_⟩
        refine SXA.takeM 10 2 rfl (by kernel_rfl) rfl ?_
        refine SXL.extract rfl rfl ?_
        refine SXL.extract rfl rfl ?_
        refine SXL.nil ⟨rfl, rfl, rfl, ?_⟩
        refine SXA.all [14] (by kernel_rfl) rfl ⟨⟨?_, rfl⟩, trivial⟩
        refine (show SXL _ _ [_] _ _ from ?_)
        refine SXL.store 2 sz_150 rfl rfl rfl rfl hW1 (putAt_all _ _ (by simp [hW1])) ?_ hW2
        refine SXL.nil (stepQ.mkL _ (by kernel_rfl) rfl rfl ?_)
        refine SXA.all [15] (by kernel_rfl) rfl ⟨⟨?_, rfl⟩, trivial⟩
        refine (show SXL _ _ [_] _ _ from ?_)
        refine SXL.store 4 sz_148 rfl rfl rfl rfl (by simp [hO]) (putAt_all _ _ (by simp [hO])) ?_ (ints_isOne _)
        refine SXL.nil (stepQ.mkL _ (by kernel_rfl) rfl rfl ?_)
        refine SXA.takeM 16 1 rfl (by kernel_rfl) rfl ?_
        refine SXL.assign rfl ?_
        refine SXL.nil ⟨rfl, rfl, rfl, ?_⟩
        refine SXA.done (by kernel_rfl) ?_
        refine SXL.nil ?_
        refine thenQ.normal ?_
        refine SX.seq ?_
        refine SX.seq ?_
        refine SX.region ?_
        refine SXL.move rfl ?_
        refine SXL.neqI rfl rfl ?_
        refine SXL.nil ?_
        refine thenQ.normal ?_
        refine SX.condP rfl (fun c22 => ?_) (fun c22 => ?_)
        · refine SX.seq ?_
          refine SX.region ?_
          refine SXL.buildS pl_55 zp_55 rfl rfl ?_
          refine SXL.move rfl ?_
          refine SXL.store 1 sz_55 rfl rfl rfl rfl rfl rfl ?_
          refine SXL.assign rfl ?_
          refine SXL.nil ?_
          refine thenQ.normal ?_
          refine SX.ret ?_
          refine thenQ.ret ?_
          refine retQ.two (ResAt.cellNo 1 sh_55 rfl rfl rfl) (ResAt.tmp rfl) ?_
          rw [givesLo, givesHi, ← hA, if_neg c22, if_neg c22]
        · refine SX.skip ?_
          refine thenQ.normal ?_
          refine SX.seq ?_
          have hc22 := Decidable.not_not.1 c22
          obtain ⟨hv, hwk, ht⟩ := toldE_valid (hA ▸ hc22)
          obtain ⟨rfl, rfl⟩ := hok hv ((hp hv).2 hwk) ht
          obtain ⟨g1, g2⟩ := outA_at (hA ▸ hc22)
          have hH := hv.1
          unfold HeadP at hH
          refine SX.region ?_
          refine SXL.move rfl ?_
          refine SXL.indexA el_148 rfl rfl (by omega) ?_
          refine SXL.loadNo 4 sh_55 rfl rfl (ints_take2' (M := outA s) (i := week.toNat) (by omega) (by rw [hO]; omega)) ?_
          refine SXL.store 1 sz_55 rfl rfl rfl rfl rfl rfl ?_
          refine SXL.assign rfl ?_
          refine SXL.nil ?_
          refine thenQ.normal ?_
          refine SX.ret ?_
          refine retQ.two (ResAt.cellNo 1 sh_55 rfl rfl rfl) (ResAt.tmp rfl) ?_
          rw [← hA, hc22, g1, g2]
    · refine (show SXL _ _ [_] _ _ from ?_)
      refine SXL.alloc zp_148 ?_; intro b3
      refine SXL.nil (stepQ.mk _ rfl rfl ?_)
      refine SXA.all [5] (by kernel_rfl) rfl ⟨⟨?_, rfl⟩, trivial⟩
      refine (show SXL _ _ [_] _ _ from ?_)
      refine SXL.buildSlice et_33 zp_3 rfl rfl rfl rfl ?_; intro b4
      refine SXL.nil (stepQ.mk _ rfl rfl ?_)
      refine SXA.take 6 1 rfl (by kernel_rfl) rfl ?_
      refine SXL.call1 (.bool (decide (Wi week 0 (IntKind.i64.wrap (s.weeks - 1))))) fn_109 rfl (fun w hI => in1_own hI 4 week 0 (IntKind.i64.wrap (s.weeks - 1)) rfl) ?_
      refine SXL.nil ⟨rfl, rfl, rfl, ?_⟩
      refine SXA.all [7] (by kernel_rfl) rfl ⟨⟨?_, rfl⟩, trivial⟩
      refine (show SXL _ _ [_] _ _ from ?_)
      refine SXL.callP (AskR s bo ro bc rc (Wi week 0 (IntKind.i64.wrap (s.weeks - 1))) 11) fn_108 rfl (fun w hI => asked_any s bo ro bc rc (Wi week 0 (IntKind.i64.wrap (s.weeks - 1))) 11 hb hr w (hg.inv hI) (hs.inv hI)) ?_; rintro _ ⟨W, O, hW1, hW2, hO, rfl, hok⟩
      refine SXL.nil (stepQ.mk _ rfl rfl ?_)
      refine SXA.take 8 2 rfl (by kernel_rfl) rfl ?_
      refine SXL.move rfl ?_
      refine SXL.extract rfl rfl ?_
      refine SXL.nil ⟨rfl, rfl, rfl, ?_⟩
      refine SXA.takeM 10 2 rfl (by kernel_rfl) rfl ?_
      refine SXL.extract rfl rfl ?_
      refine SXL.extract rfl rfl ?_
      refine SXL.nil ⟨rfl, rfl, rfl, ?_⟩
      refine SXA.all [14] (by kernel_rfl) rfl ⟨⟨?_, rfl⟩, trivial⟩
      refine (show SXL _ _ [_] _ _ from ?_)
      refine SXL.store 2 sz_150 rfl rfl rfl rfl hW1 (putAt_all _ _ (by simp [hW1])) ?_ hW2
      refine SXL.nil (stepQ.mkL _ (by kernel_rfl) rfl rfl ?_)
      refine SXA.all [15] (by kernel_rfl) rfl ⟨⟨?_, rfl⟩, trivial⟩
      refine (show SXL _ _ [_] _ _ from ?_)
      refine SXL.store 3 sz_148 rfl rfl rfl rfl (by simp [hO]) (putAt_all _ _ (by simp [hO])) ?_ (ints_isOne _)
      refine SXL.nil (stepQ.mkL _ (by kernel_rfl) rfl rfl ?_)
      refine SXA.takeM 16 1 rfl (by kernel_rfl) rfl ?_
      refine SXL.assign rfl ?_
      refine SXL.nil ⟨rfl, rfl, rfl, ?_⟩
      refine SXA.done (by kernel_rfl) ?_
      refine SXL.nil ?_
      refine thenQ.normal ?_
      refine SX.seq ?_
      refine SX.seq ?_
      refine SX.region ?_
      refine SXL.move rfl ?_
      refine SXL.neqI rfl rfl ?_
      refine SXL.nil ?_
      refine thenQ.normal ?_
      refine SX.condP rfl (fun c22 => ?_) (fun c22 => ?_)
      · refine SX.seq ?_
        refine SX.region ?_
        refine SXL.buildS pl_55 zp_55 rfl rfl ?_
        refine SXL.move rfl ?_
        refine SXL.store 1 sz_55 rfl rfl rfl rfl rfl rfl ?_
        refine SXL.assign rfl ?_
        refine SXL.nil ?_
        refine thenQ.normal ?_
        refine SX.ret ?_
        refine thenQ.ret ?_
        refine retQ.two (ResAt.cellNo 1 sh_55 rfl rfl rfl) (ResAt.tmp rfl) ?_
        rw [givesLo, givesHi, ← hA, if_neg c22, if_neg c22]
      · refine SX.skip ?_
        refine thenQ.normal ?_
        refine SX.seq ?_
        have hc22 := Decidable.not_not.1 c22
        obtain ⟨hv, hwk, ht⟩ := toldE_valid (hA ▸ hc22)
        obtain ⟨rfl, rfl⟩ := hok hv ((hp hv).2 hwk) ht
        obtain ⟨g1, g2⟩ := outA_at (hA ▸ hc22)
        have hH := hv.1
        unfold HeadP at hH
        refine SX.region ?_
        refine SXL.move rfl ?_
        refine SXL.indexA el_148 rfl rfl (by omega) ?_
        refine SXL.loadNo 3 sh_55 rfl rfl (ints_take2' (M := outA s) (i := week.toNat) (by omega) (by rw [hO]; omega)) ?_
        refine SXL.store 1 sz_55 rfl rfl rfl rfl rfl rfl ?_
        refine SXL.assign rfl ?_
        refine SXL.nil ?_
        refine thenQ.normal ?_
        refine SX.ret ?_
        refine retQ.two (ResAt.cellNo 1 sh_55 rfl rfl rfl) (ResAt.tmp rfl) ?_
        rw [← hA, hc22, g1, g2]
  · refine (show SXL _ _ [_] _ _ from ?_)
    refine SXL.alloc zp_148 ?_; intro b2
    refine SXL.nil (stepQ.mk _ rfl rfl ?_)
    refine SXA.all [5, 12] (by kernel_rfl) rfl ⟨⟨?_, rfl⟩, ⟨?_, rfl⟩, trivial⟩
    · refine (show SXL _ _ [_] _ _ from ?_)
      refine SXL.buildSlice et_33 zp_3 rfl rfl rfl rfl ?_; intro b3
      refine SXL.nil (stepQ.mk _ rfl rfl ?_)
      refine SXA.take 6 1 rfl (by kernel_rfl) rfl ?_
      refine SXL.call1 (.bool (decide (Wi week 0 (IntKind.i64.wrap (s.weeks - 1))))) fn_109 rfl (fun w hI => in1_own hI 3 week 0 (IntKind.i64.wrap (s.weeks - 1)) rfl) ?_
      refine SXL.nil ⟨rfl, rfl, rfl, ?_⟩
      refine SXA.all [7, 12] (by kernel_rfl) rfl ⟨⟨?_, rfl⟩, ⟨?_, rfl⟩, trivial⟩
      · refine (show SXL _ _ [_] _ _ from ?_)
        refine SXL.callP (AskR s bo ro bc rc (Wi week 0 (IntKind.i64.wrap (s.weeks - 1))) 11) fn_108 rfl (fun w hI => asked_any s bo ro bc rc (Wi week 0 (IntKind.i64.wrap (s.weeks - 1))) 11 hb hr w (hg.inv hI) (hs.inv hI)) ?_; rintro _ ⟨W, O, hW1, hW2, hO, rfl, hok⟩
        refine SXL.nil (stepQ.mk _ rfl rfl ?_)
        refine SXA.take 8 2 rfl (by kernel_rfl) rfl ?_
        refine SXL.move rfl ?_
        refine SXL.extract rfl rfl ?_
        refine SXL.nil ⟨rfl, rfl, rfl, ?_⟩
        refine SXA.takeM 10 2 rfl (by kernel_rfl) rfl ?_
        refine SXL.extract rfl rfl ?_
        refine SXL.extract rfl rfl ?_
        refine SXL.nil ⟨rfl, rfl, rfl, ?_⟩
        refine SXA.all [12] (by kernel_rfl) rfl ⟨⟨?_, rfl⟩, trivial⟩
        refine (show SXL _ _ [_] _ _ from ?_)
        refine SXL.alloc zp_150 ?_; intro b4
        refine SXL.nil (stepQ.mk _ rfl rfl ?_)
        refine SXA.all [14] (by kernel_rfl) rfl ⟨⟨?_, rfl⟩, trivial⟩
        refine (show SXL _ _ [_] _ _ from ?_)
        refine SXL.store 4 sz_150 rfl rfl rfl rfl hW1 (putAt_all _ _ (by simp [hW1])) ?_ hW2
        refine SXL.nil (stepQ.mkL _ (by kernel_rfl) rfl rfl ?_)
        refine SXA.all [15] (by kernel_rfl) rfl ⟨⟨?_, rfl⟩, trivial⟩
        refine (show SXL _ _ [_] _ _ from ?_)
        refine SXL.store 2 sz_148 rfl rfl rfl rfl (by simp [hO]) (putAt_all _ _ (by simp [hO])) ?_ (ints_isOne _)
        refine SXL.nil (stepQ.mkL _ (by kernel_rfl) rfl rfl ?_)
        refine SXA.takeM 16 1 rfl (by kernel_rfl) rfl ?_
        refine SXL.assign rfl ?_
        refine SXL.nil ⟨rfl, rfl, rfl, ?_⟩
        refine SXA.done (by kernel_rfl) ?_
        refine SXL.nil ?_
        refine thenQ.normal ?_
        refine SX.seq ?_
        refine SX.seq ?_
        refine SX.region ?_
        refine SXL.move rfl ?_
        refine SXL.neqI rfl rfl ?_
        refine SXL.nil ?_
        refine thenQ.normal ?_
        refine SX.condP rfl (fun c22 => ?_) (fun c22 => ?_)
        · refine SX.seq ?_
          refine SX.region ?_
          refine SXL.buildS pl_55 zp_55 rfl rfl ?_
          refine SXL.move rfl ?_
          refine SXL.store 1 sz_55 rfl rfl rfl rfl rfl rfl ?_
          refine SXL.assign rfl ?_
          refine SXL.nil ?_
          refine thenQ.normal ?_
          refine SX.ret ?_
          refine thenQ.ret ?_
          refine retQ.two (ResAt.cellNo 1 sh_55 rfl rfl rfl) (ResAt.tmp rfl) ?_
          rw [givesLo, givesHi, ← hA, if_neg c22, if_neg c22]
        · refine SX.skip ?_
          refine thenQ.normal ?_
          refine SX.seq ?_
          have hc22 := Decidable.not_not.1 c22
          obtain ⟨hv, hwk, ht⟩ := toldE_valid (hA ▸ hc22)
          obtain ⟨rfl, rfl⟩ := hok hv ((hp hv).2 hwk) ht
          obtain ⟨g1, g2⟩ := outA_at (hA ▸ hc22)
          have hH := hv.1
          unfold HeadP at hH
          refine SX.region ?_
          refine SXL.move rfl ?_
          refine SXL.indexA el_148 rfl rfl (by omega) ?_
          refine SXL.loadNo 2 sh_55 rfl rfl (ints_take2' (M := outA s) (i := week.toNat) (by omega) (by rw [hO]; omega)) ?_
          refine SXL.store 1 sz_55 rfl rfl rfl rfl rfl rfl ?_
          refine SXL.assign rfl ?_
          refine SXL.nil ?_
          refine thenQ.normal ?_
          refine SX.ret ?_
          refine retQ.two (ResAt.cellNo 1 sh_55 rfl rfl rfl) (ResAt.tmp rfl) ?_
          rw [← hA, hc22, g1, g2]
      · refine (show SXL _ _ [_] _ _ from ?_)
        refine SXL.alloc zp_150 ?_; intro b4
        refine SXL.nil (stepQ.mk _ rfl rfl ?_)
        refine SXA.all [7] (by kernel_rfl) rfl ⟨⟨?_, rfl⟩, trivial⟩
        refine (show SXL _ _ [_] _ _ from ?_)
        refine SXL.callP (AskR s bo ro bc rc (Wi week 0 (IntKind.i64.wrap (s.weeks - 1))) 11) fn_108 rfl (fun w hI => asked_any s bo ro bc rc (Wi week 0 (IntKind.i64.wrap (s.weeks - 1))) 11 hb hr w (hg.inv hI) (hs.inv hI)) ?_; rintro _ ⟨W, O, hW1, hW2, hO, rfl, hok⟩
        refine SXL.nil (stepQ.mk _ rfl rfl ?_)
        refine SXA.take 8 2 rfl (by kernel_rfl) rfl ?_
        refine SXL.move rfl ?_
        refine SXL.extract rfl rfl ?_
        refine SXL.nil ⟨rfl, rfl, rfl, ?_⟩
        refine SXA.takeM 10 2 rfl (by kernel_rfl) rfl ?_
        refine SXL.extract rfl rfl ?_
        refine SXL.extract rfl rfl ?_
        refine SXL.nil ⟨rfl, rfl, rfl, ?_⟩
        refine SXA.all [14] (by kernel_rfl) rfl ⟨⟨?_, rfl⟩, trivial⟩
        refine (show SXL _ _ [_] _ _ from ?_)
        refine SXL.store 4 sz_150 rfl rfl rfl rfl hW1 (putAt_all _ _ (by simp [hW1])) ?_ hW2
        refine SXL.nil (stepQ.mkL _ (by kernel_rfl) rfl rfl ?_)
        refine SXA.all [15] (by kernel_rfl) rfl ⟨⟨?_, rfl⟩, trivial⟩
        refine (show SXL _ _ [_] _ _ from ?_)
        refine SXL.store 2 sz_148 rfl rfl rfl rfl (by simp [hO]) (putAt_all _ _ (by simp [hO])) ?_ (ints_isOne _)
        refine SXL.nil (stepQ.mkL _ (by kernel_rfl) rfl rfl ?_)
        refine SXA.takeM 16 1 rfl (by kernel_rfl) rfl ?_
        refine SXL.assign rfl ?_
        refine SXL.nil ⟨rfl, rfl, rfl, ?_⟩
        refine SXA.done (by kernel_rfl) ?_
        refine SXL.nil ?_
        refine thenQ.normal ?_
        refine SX.seq ?_
        refine SX.seq ?_
        refine SX.region ?_
        refine SXL.move rfl ?_
        refine SXL.neqI rfl rfl ?_
        refine SXL.nil ?_
        refine thenQ.normal ?_
        refine SX.condP rfl (fun c22 => ?_) (fun c22 => ?_)
        · refine SX.seq ?_
          refine SX.region ?_
          refine SXL.buildS pl_55 zp_55 rfl rfl ?_
          refine SXL.move rfl ?_
          refine SXL.store 1 sz_55 rfl rfl rfl rfl rfl rfl ?_
          refine SXL.assign rfl ?_
          refine SXL.nil ?_
          refine thenQ.normal ?_
          refine SX.ret ?_
          refine thenQ.ret ?_
          refine retQ.two (ResAt.cellNo 1 sh_55 rfl rfl rfl) (ResAt.tmp rfl) ?_
          rw [givesLo, givesHi, ← hA, if_neg c22, if_neg c22]
        · refine SX.skip ?_
          refine thenQ.normal ?_
          refine SX.seq ?_
          have hc22 := Decidable.not_not.1 c22
          obtain ⟨hv, hwk, ht⟩ := toldE_valid (hA ▸ hc22)
          obtain ⟨rfl, rfl⟩ := hok hv ((hp hv).2 hwk) ht
          obtain ⟨g1, g2⟩ := outA_at (hA ▸ hc22)
          have hH := hv.1
          unfold HeadP at hH
          refine SX.region ?_
          refine SXL.move rfl ?_
          refine SXL.indexA el_148 rfl rfl (by omega) ?_
          refine SXL.loadNo 2 sh_55 rfl rfl (ints_take2' (M := outA s) (i := week.toNat) (by omega) (by rw [hO]; omega)) ?_
          refine SXL.store 1 sz_55 rfl rfl rfl rfl rfl rfl ?_
          refine SXL.assign rfl ?_
          refine SXL.nil ?_
          refine thenQ.normal ?_
          refine SX.ret ?_
          refine retQ.two (ResAt.cellNo 1 sh_55 rfl rfl rfl) (ResAt.tmp rfl) ?_
          rw [← hA, hc22, g1, g2]
    · refine (show SXL _ _ [_] _ _ from ?_)
      refine SXL.alloc zp_150 ?_; intro b3
      refine SXL.nil (stepQ.mk _ rfl rfl ?_)
      refine SXA.all [5] (by kernel_rfl) rfl ⟨⟨?_, rfl⟩, trivial⟩
      refine (show SXL _ _ [_] _ _ from ?_)
      refine SXL.buildSlice et_33 zp_3 rfl rfl rfl rfl ?_; intro b4
      refine SXL.nil (stepQ.mk _ rfl rfl ?_)
      refine SXA.take 6 1 rfl (by kernel_rfl) rfl ?_
      refine SXL.call1 (.bool (decide (Wi week 0 (IntKind.i64.wrap (s.weeks - 1))))) fn_109 rfl (fun w hI => in1_own hI 4 week 0 (IntKind.i64.wrap (s.weeks - 1)) rfl) ?_
      refine SXL.nil ⟨rfl, rfl, rfl, ?_⟩
      refine SXA.all [7] (by kernel_rfl) rfl ⟨⟨?_, rfl⟩, trivial⟩
      refine (show SXL _ _ [_] _ _ from ?_)
      refine SXL.callP (AskR s bo ro bc rc (Wi week 0 (IntKind.i64.wrap (s.weeks - 1))) 11) fn_108 rfl (fun w hI => asked_any s bo ro bc rc (Wi week 0 (IntKind.i64.wrap (s.weeks - 1))) 11 hb hr w (hg.inv hI) (hs.inv hI)) ?_; rintro _ ⟨W, O, hW1, hW2, hO, rfl, hok⟩
      refine SXL.nil (stepQ.mk _ rfl rfl ?_)
      refine SXA.take 8 2 rfl (by kernel_rfl) rfl ?_
      refine SXL.move rfl ?_
      refine SXL.extract rfl rfl ?_
      refine SXL.nil ⟨rfl, rfl, rfl, ?_⟩
      refine SXA.takeM 10 2 rfl (by kernel_rfl) rfl ?_
      refine SXL.extract rfl rfl ?_
      refine SXL.extract rfl rfl ?_
      refine SXL.nil ⟨rfl, rfl, rfl, ?_⟩
      refine SXA.all [14] (by kernel_rfl) rfl ⟨⟨?_, rfl⟩, trivial⟩
      refine (show SXL _ _ [_] _ _ from ?_)
      refine SXL.store 3 sz_150 rfl rfl rfl rfl hW1 (putAt_all _ _ (by simp [hW1])) ?_ hW2
      refine SXL.nil (stepQ.mkL _ (by kernel_rfl) rfl rfl ?_)
      refine SXA.all [15] (by kernel_rfl) rfl ⟨⟨?_, rfl⟩, trivial⟩
      refine (show SXL _ _ [_] _ _ from ?_)
      refine SXL.store 2 sz_148 rfl rfl rfl rfl (by simp [hO]) (putAt_all _ _ (by simp [hO])) ?_ (ints_isOne _)
      refine SXL.nil (stepQ.mkL _ (by kernel_rfl) rfl rfl ?_)
      refine SXA.takeM 16 1 rfl (by kernel_rfl) rfl ?_
      refine SXL.assign rfl ?_
      refine SXL.nil ⟨rfl, rfl, rfl, ?_⟩
      refine SXA.done (by kernel_rfl) ?_
      refine SXL.nil ?_
      refine thenQ.normal ?_
      refine SX.seq ?_
      refine SX.seq ?_
      refine SX.region ?_
      refine SXL.move rfl ?_
      refine SXL.neqI rfl rfl ?_
      refine SXL.nil ?_
      refine thenQ.normal ?_
      refine SX.condP rfl (fun c22 => ?_) (fun c22 => ?_)
      · refine SX.seq ?_
        refine SX.region ?_
        refine SXL.buildS pl_55 zp_55 rfl rfl ?_
        refine SXL.move rfl ?_
        refine SXL.store 1 sz_55 rfl rfl rfl rfl rfl rfl ?_
        refine SXL.assign rfl ?_
        refine SXL.nil ?_
        refine thenQ.normal ?_
        refine SX.ret ?_
        refine thenQ.ret ?_
        refine retQ.two (ResAt.cellNo 1 sh_55 rfl rfl rfl) (ResAt.tmp rfl) ?_
        rw [givesLo, givesHi, ← hA, if_neg c22, if_neg c22]
      · refine SX.skip ?_
        refine thenQ.normal ?_
        refine SX.seq ?_
        have hc22 := Decidable.not_not.1 c22
        obtain ⟨hv, hwk, ht⟩ := toldE_valid (hA ▸ hc22)
        obtain ⟨rfl, rfl⟩ := hok hv ((hp hv).2 hwk) ht
        obtain ⟨g1, g2⟩ := outA_at (hA ▸ hc22)
        have hH := hv.1
        unfold HeadP at hH
        refine SX.region ?_
        refine SXL.move rfl ?_
        refine SXL.indexA el_148 rfl rfl (by omega) ?_
        refine SXL.loadNo 2 sh_55 rfl rfl (ints_take2' (M := outA s) (i := week.toNat) (by omega) (by rw [hO]; omega)) ?_
        refine SXL.store 1 sz_55 rfl rfl rfl rfl rfl rfl ?_
        refine SXL.assign rfl ?_
        refine SXL.nil ?_
        refine thenQ.normal ?_
        refine SX.ret ?_
        refine retQ.two (ResAt.cellNo 1 sh_55 rfl rfl rfl) (ResAt.tmp rfl) ?_
        rw [← hA, hc22, g1, g2]
end Go.Proofs.YtolcicaclflagaaDoor

/- The walks of the package town: checks. -/
namespace Go.Proofs.YtolcicaclflagaaDoor
open Go.X Go.S Go.T Go.RowKit
theorem indexFuncFounts (u : Su) (fo : Option Addr) (fc : Nat) (fa : Nat → FA) (F : Nat) (first capt : List Value) (p : Nat → Prop) [DecidablePred p] (hF : fnOk Tryd.prog F = true) (hmx : u.founts.length ≤ 1000000) (w : World) (h : RowsAt w fo 10 (foRows u fa)) (hc : ∀ k, k < u.founts.length → ∀ w', Below w.heap.size w w' → CallsR Tryd.prog F (first ++ [.agg ⟨foC (u.founts.getD k default) (fa k)⟩] ++ capt) w' (fun v _ => v = .bool (decide (p k)))) :
    CallsR Tryd.prog 91 [.slice fo u.founts.length fc, .func (.func F) ⟨first⟩ ⟨capt⟩] w (fun v _ => v = .int .i64 (idxF p u.founts.length)) := by
  refine CallsR.of_SX (n := 19) (rs := [.tmp 4]) Tryd.func91 rfl rfl rfl rfl ?_
  show SX _ _ _ ⟨[(0, .slice fo u.founts.length fc), (1, .func (.func F) ⟨first⟩ ⟨capt⟩)], [], []⟩
  refine SX.seq ?_
  refine SX.region ?_
  refine SXL.assign rfl ?_
  refine SXL.nil ?_
  refine thenQ.normal ?_
  refine SX.seq ?_
  refine SX.seq ?_
  refine SX.region ?_
  refine SXL.move rfl ?_
  refine SXL.len is_22 rfl ?_
  refine SXL.move rfl ?_
  refine SXL.nil ?_
  refine thenQ.normal ?_
  refine SX.block ?_
  refine SX.loopG (α := Nat) [0, 1, 4, 7] rfl (fun k => [(8, .int .i64 ((k : Int)))]) (fun k => []) (fun k => k ≤ u.founts.length ∧ ∀ i, i < k → ¬p i) (fun k => u.founts.length - k) 0 ⟨Nat.zero_le _, fun _ h => absurd h (Nat.not_lt_zero _)⟩ ⟨rfl, trivial⟩ rfl ?_
  rintro k ⟨hk, hall⟩
  refine SX.seq ?_
  refine SX.region ?_
  refine SXL.lss rfl rfl ?_
  refine SXL.nil ?_
  refine thenQ.normal ?_
  refine SX.seq ?_
  refine SX.condP rfl (fun c9 => ?_) (fun c9 => ?_)
  · refine SX.skip ?_
    refine thenQ.normal ?_
    refine SX.seq ?_
    refine SX.block ?_
    refine SX.seq ?_
    refine SX.region ?_
    refine SXL.move rfl ?_
    refine SXL.assign rfl ?_
    refine SXL.nil ?_
    refine thenQ.normal ?_
    refine SX.seq ?_
    obtain ⟨b, o, ha, hm⟩ := h.get (foRows_get (i := k) (by omega))
    refine SX.region ?_
    refine SXL.move rfl ?_
    refine SXL.move rfl ?_
    refine SXL.move rfl ?_
    refine SXL.indexR el_22 rfl rfl ha (by omega) ?_
    refine SXL.loadN sh_70 rfl (hm _) rfl ?_
    refine SXL.call1V (.bool (decide (p k))) hF rfl rfl (fun w hI => hc k (by omega) _ hI.below) ?_
    refine SXL.nil ?_
    refine thenQ.normal ?_
    refine SX.condP rfl (fun c16 => ?_) (fun c16 => ?_)
    · refine SX.seq ?_
      refine SX.region ?_
      refine SXL.move rfl ?_
      refine SXL.assign rfl ?_
      refine SXL.nil ?_
      refine thenQ.normal ?_
      refine SX.ret ?_
      refine blockQ.ret ?_
      refine thenQ.ret ?_
      refine thenQ.ret ?_
      refine blockQ.ret ?_
      refine thenQ.ret ?_
      refine retQ.one (ResAt.tmp rfl) ?_
      exact congrArg (Value.int .i64) (idxF_some (by omega) c16 hall).symm
    · refine SX.skip ?_
      refine blockQ.normal ?_
      refine thenQ.normal ?_
      refine SX.region ?_
      refine SXL.add rfl rfl (by omega) ?_
      refine SXL.move rfl ?_
      refine SXL.nil ?_
      refine thenQ.normal ?_
      refine ⟨k + 1, Meets.mk _ ⟨rfl, trivial⟩ ⟨rfl, rfl, rfl, rfl, trivial⟩ rfl, ?_, (by omega)⟩
      refine ⟨by omega, fun i hi => ?_⟩
      by_cases e : i = k
      · subst e; exact c16
      · exact hall i (by omega)
  · refine SX.exit ?_
    refine thenQ.exit ?_
    refine thenQ.exit ?_
    refine blockQ.exit ?_
    refine thenQ.normal ?_
    refine SX.seq ?_
    refine SX.region ?_
    refine SXL.assign rfl ?_
    refine SXL.nil ?_
    refine thenQ.normal ?_
    refine SX.ret ?_
    refine retQ.one (ResAt.tmp rfl) ?_
    exact congrArg (Value.int .i64) (idxF_none fun i hi => hall i (by omega)).symm
theorem fount1_any (x : Fo) (a : FA) (id : Int) (b : Nat) (w : World) (h : w.cell? ⟨b, 0, none⟩ = some (.int .i64 id)) :
    CallsR Tryd.prog 92 [.agg ⟨foC x a⟩, .pointer (some ⟨b, 0, none⟩)] w (fun v _ => v = .bool (decide (x.id = id))) := by
  refine CallsR.of_SX (n := 8) (rs := [.tmp 3]) Tryd.func92 rfl rfl rfl rfl ?_
  show SX _ _ _ ⟨[(0, .agg ⟨foC x a⟩), (1, .pointer (some ⟨b, 0, none⟩))], [], []⟩
  refine SX.seq ?_
  refine SX.region ?_
  refine SXL.box rfl rfl ?_; intro b0
  refine SXL.assign rfl ?_
  refine SXL.nil ?_
  refine thenQ.normal ?_
  refine SX.seq ?_
  refine SX.region ?_
  refine SXL.fieldAddr fp_70_0 rfl ?_
  refine SXL.load1o 0 sh_3 rfl rfl rfl ?_
  refine SXL.load1 sh_3 rfl (Mem.out1 h) ?_
  refine SXL.eqlI rfl rfl ?_
  refine SXL.assign rfl ?_
  refine SXL.nil ?_
  refine thenQ.normal ?_
  refine SX.ret ?_
  refine retQ.one (ResAt.tmp rfl) ?_
  first | rfl | assumption
theorem tfount_any (u : Su) (fo so : Option Addr) (fc sc : Nat) (fa : Nat → FA) (sa : Nat → DA) (id : Int) (hl : LitP u) (w : World) (hs : SuAt w u fo so fa sa) :
    CallsR Tryd.prog 61 [.agg ⟨[.slice fo u.founts.length fc, .slice so u.streets.length sc]⟩, .int .i64 id] w (fun v _ => v = .int .i64 (fountI u id)) := by
  have hL0 := hl.1
  have hL1 := hl.2.1
  have hL2 := hl.2.2
  refine CallsR.of_SX (n := 9) (rs := [.tmp 4]) Tryd.func61 rfl rfl rfl rfl ?_
  show SX _ _ _ ⟨[(0, .agg ⟨[.slice fo u.founts.length fc, .slice so u.streets.length sc]⟩), (1, .int .i64 id)], [], []⟩
  refine SX.seq ?_
  refine SX.region ?_
  refine SXL.box rfl rfl ?_; intro b0
  refine SXL.box rfl rfl ?_; intro b1
  refine SXL.assign rfl ?_
  refine SXL.nil ?_
  refine thenQ.normal ?_
  refine SX.seq ?_
  refine SX.region ?_
  refine SXL.fieldAddr fp_25_0 rfl ?_
  refine SXL.load1o 0 sh_22 rfl rfl rfl ?_
  refine SXL.makeFunc rfl rfl ?_
  refine SXL.call1 (.int .i64 (fountI u id)) fn_91 rfl (fun w hI => indexFuncFounts u fo fc fa 92 [] [.pointer (some ⟨b1, 0, none⟩)] (fun k => (u.founts.getD k default).id = id) fn_92 (by omega) w (hs.founts.inv hI) (fun k hk w' hb => fount1_any _ _ id b1 w' (ownCell (hI.ext hb) (i := 1) rfl rfl))) ?_
  refine SXL.assign rfl ?_
  refine SXL.nil ?_
  refine thenQ.normal ?_
  refine SX.ret ?_
  refine retQ.one (ResAt.tmp rfl) ?_
  first | rfl | assumption
theorem tin1c_any (n lo hi : Int) (b3 b4 : Nat) (w : World) (h3 : w.cell? ⟨b3, 0, none⟩ = some (.int .i64 lo)) (h4 : w.cell? ⟨b4, 0, none⟩ = some (.int .i64 hi)) :
    CallsR Tryd.prog 90 [.int .i64 n, .pointer (some ⟨b3, 0, none⟩), .pointer (some ⟨b4, 0, none⟩)] w (fun v _ => v = .bool (decide (n < lo ∨ hi < n))) := by
  refine CallsR.of_SX (n := 13) (rs := [.tmp 4]) Tryd.func90 rfl rfl rfl rfl ?_
  show SX _ _ _ ⟨[(0, .int .i64 n), (1, .pointer (some ⟨b3, 0, none⟩)), (2, .pointer (some ⟨b4, 0, none⟩))], [], []⟩
  refine SX.seq ?_
  refine SX.region ?_
  refine SXL.assign rfl ?_
  refine SXL.nil ?_
  refine thenQ.normal ?_
  refine SX.seq ?_
  refine SX.region ?_
  refine SXL.move rfl ?_
  refine SXL.load1 sh_3 rfl (Mem.out1 h3) ?_
  refine SXL.lss rfl rfl ?_
  refine SXL.move rfl ?_
  apply SXL.orG 3
  case hl => exact rfl
  case hd => exact rfl
  case hg => exact rfl
  case ht =>
    intro g1
    refine SXL.pass rfl rfl rfl ?_
    refine SXL.pass rfl rfl rfl ?_
    refine SXL.pass rfl rfl rfl ?_
    exact SXL.nil (segQ.mk (.skip rfl (.skip rfl (.skip rfl (.skip rfl (EnvSub.refl _))))) rfl rfl rfl)
  case hf =>
    intro g1
    refine SXL.move rfl ?_
    refine SXL.load1 sh_3 rfl (Mem.out1 h4) ?_
    refine SXL.gtr rfl rfl ?_
    exact SXL.nil (segQ.mk (.skip rfl (.skip rfl (.skip rfl (.skip rfl (EnvSub.refl _))))) rfl rfl ⟨rfl, rfl⟩)
  refine SXL.assign rfl ?_
  refine SXL.nil ?_
  refine thenQ.normal ?_
  refine SX.ret ?_
  refine retQ.one (ResAt.tmp rfl) ?_
  first | rfl | assumption
theorem tin_any (l : List Int) (lo hi : Int) (ao : Option Addr) (c : Nat) (hmx : l.length ≤ 1000000) (w : World) (h : RowsAt w ao 1 (ones l)) :
    CallsR Tryd.prog 59 [.int .i64 lo, .int .i64 hi, .slice ao l.length c] w (fun v _ => v = .bool (decide (∀ x ∈ l, Wi x lo hi))) := by
  refine CallsR.of_SX (n := 11) (rs := [.tmp 6]) Tryd.func59 rfl rfl rfl rfl ?_
  show SX _ _ _ ⟨[(0, .int .i64 lo), (1, .int .i64 hi), (2, .slice ao l.length c)], [], []⟩
  refine SX.seq ?_
  refine SX.region ?_
  refine SXL.box rfl rfl ?_; intro b0
  refine SXL.box rfl rfl ?_; intro b1
  refine SXL.assign rfl ?_
  refine SXL.nil ?_
  refine thenQ.normal ?_
  refine SX.seq ?_
  refine SX.region ?_
  refine SXL.move rfl ?_
  refine SXL.makeFunc rfl rfl ?_
  refine SXL.call1 (.bool (decide (0 ≤ idxF (fun k => l.getD k 0 < lo ∨ hi < l.getD k 0) l.length))) fn_82 rfl (fun w hI => containsFuncInts l ao c 90 [] [.pointer (some ⟨b0, 0, none⟩), .pointer (some ⟨b1, 0, none⟩)] (fun k => l.getD k 0 < lo ∨ hi < l.getD k 0) fn_90 hmx w (h.inv hI) (fun k hk w' hb => tin1c_any _ lo hi b0 b1 w' (ownCell (hI.ext hb) (i := 0) rfl rfl) (ownCell (hI.ext hb) (i := 1) rfl rfl))) ?_
  refine SXL.not rfl ?_
  refine SXL.assign rfl ?_
  refine SXL.nil ?_
  refine thenQ.normal ?_
  refine SX.ret ?_
  refine retQ.one (ResAt.tmp rfl) ?_
  exact congrArg Value.bool (decide_eq_decide.2 (by rw [idxF_nonneg]; exact in_iff l lo hi))
theorem tin1_own {w0 w : World} {own : X.Own} (hI : Inv w0 own w) (i : Nat) {b : Nat} (x lo hi : Int) {E : TypeId} {fz : Nat × Nat} (he : own[i]? = some (b, .cells ⟨ints [x]⟩ E fz)) :
    CallsR Tryd.prog 59 [.int .i64 lo, .int .i64 hi, .slice (some ⟨b, 0, none⟩) 1 1] w (fun v _ => v = .bool (decide (Wi x lo hi))) :=
  (tin_any [x] lo hi _ 1 (by simp) w (ownOnes hI [x] he)).iff (by simp)
theorem tin2_own {w0 w : World} {own : X.Own} (hI : Inv w0 own w) (i : Nat) {b : Nat} (x y lo hi : Int) {E : TypeId} {fz : Nat × Nat} (he : own[i]? = some (b, .cells ⟨ints [x, y]⟩ E fz)) :
    CallsR Tryd.prog 59 [.int .i64 lo, .int .i64 hi, .slice (some ⟨b, 0, none⟩) 2 2] w (fun v _ => v = .bool (decide (Wi x lo hi ∧ Wi y lo hi))) :=
  (tin_any [x, y] lo hi _ 2 (by simp) w (ownOnes hI [x, y] he)).iff (by simp)
theorem tck0_any (u : Su) (fo so : Option Addr) (fc sc : Nat) (w : World) :
    CallsR Tryd.prog 143 [.agg ⟨[.slice fo u.founts.length fc, .slice so u.streets.length sc]⟩] w (fun v _ => v = .bool (decide (tckP u 0))) := by
  refine CallsR.of_SX (n := 14) (rs := [.tmp 2]) Tryd.func143 rfl rfl rfl rfl ?_
  show SX _ _ _ ⟨[(0, .agg ⟨[.slice fo u.founts.length fc, .slice so u.streets.length sc]⟩)], [], []⟩
  refine SX.seq ?_
  refine SX.region ?_
  refine SXL.box rfl rfl ?_; intro b0
  refine SXL.assign rfl ?_
  refine SXL.nil ?_
  refine thenQ.normal ?_
  refine SX.seq ?_
  refine SX.region ?_
  refine SXL.fieldAddr fp_25_0 rfl ?_
  refine SXL.load1o 0 sh_22 rfl rfl rfl ?_
  refine SXL.len is_22 rfl ?_
  refine SXL.buildSlice et_33 zp_3 rfl rfl rfl rfl ?_; intro b1
  refine SXL.call1 (.bool (decide (Wi ((u.founts.length : Int)) (1) (4)))) fn_59 rfl (fun w hI => tin1_own hI 1 ((u.founts.length : Int)) (1) (4) rfl) ?_
  refine SXL.move rfl ?_
  apply SXL.andG 4
  case hl => exact rfl
  case hd => exact rfl
  case hg => exact rfl
  case ht =>
    intro g1
    refine SXL.fieldAddr fp_25_1 rfl ?_
    refine SXL.load1o 0 sh_23 rfl rfl rfl ?_
    refine SXL.len is_23 rfl ?_
    refine SXL.leq rfl rfl ?_
    exact SXL.nil (segQ.mk (.skip rfl (.skip rfl (.skip rfl (.skip rfl (.skip rfl (EnvSub.refl _)))))) rfl rfl ⟨rfl, rfl⟩)
  case hf =>
    intro g1
    refine SXL.pass rfl rfl rfl ?_
    refine SXL.pass rfl rfl rfl ?_
    refine SXL.pass rfl rfl rfl ?_
    refine SXL.pass rfl rfl rfl ?_
    exact SXL.nil (segQ.mk (.skip rfl (.skip rfl (.skip rfl (.skip rfl (.skip rfl (EnvSub.refl _)))))) rfl rfl rfl)
  refine SXL.assign rfl ?_
  refine SXL.nil ?_
  refine thenQ.normal ?_
  refine SX.ret ?_
  refine retQ.one (ResAt.tmp rfl) ?_
  first | rfl | assumption
theorem tck1_any (u : Su) (fo so : Option Addr) (fc sc : Nat) (fa : Nat → FA) (sa : Nat → DA) (hl : LitP u) (w : World) (hg : Gt w) (hs : SuAt w u fo so fa sa) :
    CallsR Tryd.prog 144 [.agg ⟨[.slice fo u.founts.length fc, .slice so u.streets.length sc]⟩] w (fun v _ => v = .bool (decide (tckP u 1))) := by
  have hL0 := hl.1
  have hL1 := hl.2.1
  have hL2 := hl.2.2
  refine CallsR.of_SX (n := 29) (rs := [.tmp 2]) Tryd.func144 rfl rfl rfl rfl ?_
  show SX _ _ _ ⟨[(0, .agg ⟨[.slice fo u.founts.length fc, .slice so u.streets.length sc]⟩)], [], []⟩
  refine SX.seq ?_
  refine SX.region ?_
  refine SXL.box rfl rfl ?_; intro b0
  refine SXL.assign rfl ?_
  refine SXL.nil ?_
  refine thenQ.normal ?_
  refine SX.seq ?_
  refine SX.region ?_
  refine SXL.assign rfl ?_
  refine SXL.nil ?_
  refine thenQ.normal ?_
  refine SX.seq ?_
  refine SX.seq ?_
  refine SX.region ?_
  refine SXL.fieldAddr fp_25_0 rfl ?_
  refine SXL.load1o 0 sh_22 rfl rfl rfl ?_
  refine SXL.len is_22 rfl ?_
  refine SXL.move rfl ?_
  refine SXL.nil ?_
  refine thenQ.normal ?_
  refine SX.block ?_
  refine SX.loopG (α := Nat) [2, 7, 8] rfl (fun k => [(9, .int .i64 ((k : Int))), (3, .int .i64 ((lastF u k)))]) (fun k => []) (fun k => k ≤ u.founts.length ∧ ∀ i, i < k → FoP (lastF u i) (u.founts.getD i default)) (fun k => u.founts.length - k) 0 ⟨Nat.zero_le _, fun _ h => absurd h (Nat.not_lt_zero _)⟩ ⟨rfl, rfl, trivial⟩ rfl ?_
  rintro k ⟨hk, hall⟩
  refine SX.seq ?_
  refine SX.region ?_
  refine SXL.lss rfl rfl ?_
  refine SXL.nil ?_
  refine thenQ.normal ?_
  refine SX.seq ?_
  refine SX.condP rfl (fun c10 => ?_) (fun c10 => ?_)
  · refine SX.skip ?_
    refine thenQ.normal ?_
    refine SX.seq ?_
    refine SX.block ?_
    refine SX.seq ?_
    obtain ⟨b, o, ha, hm⟩ := hs.fount (i := k) (by omega)
    have hLk := hL1 k (by omega)
    have hla := lastF_in hall
    refine SX.region ?_
    refine SXL.indexR el_22 rfl rfl ha (by omega) ?_
    refine SXL.loadN sh_70 rfl (hm _) rfl ?_
    refine SXL.alloc zp_70 ?_; intro b1
    refine SXL.store 1 sz_70 rfl rfl rfl rfl rfl rfl ?_
    refine SXL.nil ?_
    refine thenQ.normal ?_
    refine SX.seq ?_
    refine SX.seq ?_
    refine SX.region ?_
    refine SXL.move rfl ?_
    refine SXL.add rfl rfl (by omega) ?_
    refine SXL.fieldAddr fp_70_0 rfl ?_
    refine SXL.load1o 1 sh_3 rfl rfl rfl ?_
    refine SXL.buildSlice et_33 zp_3 rfl rfl rfl rfl ?_; intro b2
    refine SXL.call1 (.bool (decide (Wi ((u.founts.getD k default).id) (lastF u k + 1) (9999)))) fn_59 rfl (fun w hI => tin1_own hI 2 ((u.founts.getD k default).id) (lastF u k + 1) (9999) rfl) ?_
    refine SXL.not rfl ?_
    refine SXL.move rfl ?_
    apply SXL.orG 4
    case hl => exact rfl
    case hd => exact rfl
    case hg => exact rfl
    case ht =>
      intro c25
      refine SXL.pass rfl rfl rfl ?_
      refine SXL.pass rfl rfl rfl ?_
      refine SXL.pass rfl rfl rfl ?_
      refine SXL.pass rfl rfl rfl ?_
      exact SXL.nil (segQ.mk (.skip rfl (.skip rfl (.skip rfl (.skip rfl (.skip rfl (EnvSub.refl _)))))) rfl rfl rfl)
    case hf =>
      intro c25
      refine SXL.fieldAddr fp_70_1 rfl ?_
      refine SXL.loadNo 1 sh_68 rfl rfl rfl ?_
      refine SXL.call1 (.int .i64 (if SpP ((u.founts.getD k default).sp) then 0 else 10)) fn_112 rfl (fun w hI => scheck_any ((u.founts.getD k default).sp) (fa k).bo (fa k).ro (fa k).bc (fa k).rc (by omega) (by omega) w (hg.gl.inv hI) ((hs.springs k (by omega)).inv hI)) ?_
      refine SXL.neqI rfl rfl ?_
      exact SXL.nil (segQ.mk (.skip rfl (.skip rfl (.skip rfl (.skip rfl (.skip rfl (EnvSub.refl _)))))) rfl rfl ⟨rfl, rfl⟩)
    refine SXL.nil ?_
    refine thenQ.normal ?_
    refine SX.condP rfl (fun c25 => ?_) (fun c25 => ?_)
    · refine SX.seq ?_
      refine SX.region ?_
      refine SXL.assign rfl ?_
      refine SXL.nil ?_
      refine thenQ.normal ?_
      refine SX.ret ?_
      refine thenQ.ret ?_
      refine blockQ.ret ?_
      refine thenQ.ret ?_
      refine thenQ.ret ?_
      refine blockQ.ret ?_
      refine thenQ.ret ?_
      refine retQ.one (ResAt.tmp rfl) ?_
      exact congrArg Value.bool (decide_eq_false (by intro h; have h1 := h k (by omega); rw [if_pos h1.2] at c25; omega)).symm
    · refine SX.skip ?_
      refine thenQ.normal ?_
      refine SX.region ?_
      refine SXL.fieldAddr fp_70_0 rfl ?_
      refine SXL.load1o 1 sh_3 rfl rfl rfl ?_
      refine SXL.assign rfl ?_
      refine SXL.nil ?_
      refine blockQ.normal ?_
      refine thenQ.normal ?_
      refine SX.region ?_
      refine SXL.add rfl rfl (by omega) ?_
      refine SXL.move rfl ?_
      refine SXL.nil ?_
      refine thenQ.normal ?_
      refine ⟨k + 1, Meets.mk _ ⟨rfl, rfl, trivial⟩ ⟨rfl, rfl, rfl, trivial⟩ rfl, ?_, (by omega)⟩
      refine ⟨by omega, fun i hi => ?_⟩
      by_cases e : i = k
      · subst e; have e1 : SpP ((u.founts.getD i default).sp) := by have := c25; by_cases hx : SpP ((u.founts.getD i default).sp); exact hx; rw [if_neg hx] at this; omega
        exact ⟨by omega, e1⟩
      · exact hall i (by omega)
  · refine SX.exit ?_
    refine thenQ.exit ?_
    refine thenQ.exit ?_
    refine blockQ.exit ?_
    refine thenQ.normal ?_
    refine SX.seq ?_
    refine SX.region ?_
    refine SXL.assign rfl ?_
    refine SXL.nil ?_
    refine thenQ.normal ?_
    refine SX.ret ?_
    refine retQ.one (ResAt.tmp rfl) ?_
    exact congrArg Value.bool (decide_eq_true (fun i hi => hall i (by omega))).symm
theorem tdraws_any (u : Su) (fo so : Option Addr) (fc sc : Nat) (fa : Nat → FA) (sa : Nat → DA) (x : Sr) (ao : Option Addr) (ac : Nat) (hx : x.draws.length ≤ 20) (hl : LitP u) (w : World) (hd : RowsAt w ao 1 (ones x.draws)) (hs : SuAt w u fo so fa sa) :
    CallsR Tryd.prog 146 [.agg ⟨[.slice fo u.founts.length fc, .slice so u.streets.length sc]⟩, .agg ⟨srC x (ao, ac)⟩] w (fun v _ => v = .bool (decide (DrP u x.draws))) := by
  refine CallsR.of_SX (n := 26) (rs := [.tmp 4]) Tryd.func146 rfl rfl rfl rfl ?_
  show SX _ _ _ ⟨[(0, .agg ⟨[.slice fo u.founts.length fc, .slice so u.streets.length sc]⟩), (1, .agg ⟨srC x (ao, ac)⟩)], [], []⟩
  refine SX.seq ?_
  refine SX.region ?_
  refine SXL.box rfl rfl ?_; intro b0
  refine SXL.box rfl rfl ?_; intro b1
  refine SXL.assign rfl ?_
  refine SXL.nil ?_
  refine thenQ.normal ?_
  refine SX.seq ?_
  refine SX.region ?_
  refine SXL.assign rfl ?_
  refine SXL.nil ?_
  refine thenQ.normal ?_
  refine SX.seq ?_
  refine SX.seq ?_
  refine SX.region ?_
  refine SXL.fieldAddr fp_73_3 rfl ?_
  refine SXL.load1o 1 sh_33 rfl rfl rfl ?_
  refine SXL.len is_33 rfl ?_
  refine SXL.move rfl ?_
  refine SXL.nil ?_
  refine thenQ.normal ?_
  refine SX.block ?_
  refine SX.loopG (α := Nat) [2, 4, 9, 10] rfl (fun k => [(11, .int .i64 ((k : Int))), (5, .int .i64 ((lastD x.draws k)))]) (fun k => []) (fun k => k ≤ x.draws.length ∧ ∀ i, i < k → lastD x.draws i < x.draws.getD i 0 ∧ HasF u (x.draws.getD i 0)) (fun k => x.draws.length - k) 0 ⟨Nat.zero_le _, fun _ h => absurd h (Nat.not_lt_zero _)⟩ ⟨rfl, rfl, trivial⟩ rfl ?_
  rintro k ⟨hk, hall⟩
  refine SX.seq ?_
  refine SX.region ?_
  refine SXL.lss rfl rfl ?_
  refine SXL.nil ?_
  refine thenQ.normal ?_
  refine SX.seq ?_
  refine SX.condP rfl (fun c12 => ?_) (fun c12 => ?_)
  · refine SX.skip ?_
    refine thenQ.normal ?_
    refine SX.seq ?_
    refine SX.block ?_
    refine SX.seq ?_
    obtain ⟨b, o, ha, hm⟩ := oneI hd (i := k) (by omega)
    refine SX.region ?_
    refine SXL.indexR el_33 rfl rfl ha (by omega) ?_
    refine SXL.load1 sh_3 rfl (hm _) ?_
    refine SXL.assign rfl ?_
    refine SXL.nil ?_
    refine thenQ.normal ?_
    refine SX.seq ?_
    refine SX.seq ?_
    refine SX.region ?_
    refine SXL.move rfl ?_
    refine SXL.move rfl ?_
    refine SXL.leq rfl rfl ?_
    refine SXL.move rfl ?_
    apply SXL.orG 4
    case hl => exact rfl
    case hd => exact rfl
    case hg => exact rfl
    case ht =>
      intro c23
      refine SXL.pass rfl rfl rfl ?_
      refine SXL.pass rfl rfl rfl ?_
      refine SXL.pass rfl rfl rfl ?_
      refine SXL.pass rfl rfl rfl ?_
      exact SXL.nil (segQ.mk (.skip rfl (.skip rfl (.skip rfl (.skip rfl (.skip rfl (EnvSub.refl _)))))) rfl rfl rfl)
    case hf =>
      intro c23
      refine SXL.loadNo 0 sh_25 rfl rfl rfl ?_
      refine SXL.move rfl ?_
      refine SXL.call1 (.int .i64 (fountI u (x.draws.getD k 0))) fn_61 rfl (fun w hI => tfount_any u fo so fc sc fa sa _ hl w (hs.inv hI)) ?_
      refine SXL.lss rfl rfl ?_
      exact SXL.nil (segQ.mk (.skip rfl (.skip rfl (.skip rfl (.skip rfl (.skip rfl (EnvSub.refl _)))))) rfl rfl ⟨rfl, rfl⟩)
    refine SXL.nil ?_
    refine thenQ.normal ?_
    refine SX.condP rfl (fun c23 => ?_) (fun c23 => ?_)
    · refine SX.seq ?_
      refine SX.region ?_
      refine SXL.assign rfl ?_
      refine SXL.nil ?_
      refine thenQ.normal ?_
      refine SX.ret ?_
      refine thenQ.ret ?_
      refine blockQ.ret ?_
      refine thenQ.ret ?_
      refine thenQ.ret ?_
      refine blockQ.ret ?_
      refine thenQ.ret ?_
      refine retQ.one (ResAt.tmp rfl) ?_
      exact congrArg Value.bool (decide_eq_false (by intro h; have h1 := h k (by omega); have h2 := fountI_has.2 h1.2; omega)).symm
    · refine SX.skip ?_
      refine thenQ.normal ?_
      refine SX.region ?_
      refine SXL.move rfl ?_
      refine SXL.assign rfl ?_
      refine SXL.nil ?_
      refine blockQ.normal ?_
      refine thenQ.normal ?_
      refine SX.region ?_
      refine SXL.add rfl rfl (by omega) ?_
      refine SXL.move rfl ?_
      refine SXL.nil ?_
      refine thenQ.normal ?_
      refine ⟨k + 1, Meets.mk _ ⟨rfl, rfl, trivial⟩ ⟨rfl, rfl, rfl, rfl, trivial⟩ rfl, ?_, (by omega)⟩
      refine ⟨by omega, fun i hi => ?_⟩
      by_cases e : i = k
      · subst e; exact ⟨by omega, fountI_has.1 (by omega)⟩
      · exact hall i (by omega)
  · refine SX.exit ?_
    refine thenQ.exit ?_
    refine thenQ.exit ?_
    refine blockQ.exit ?_
    refine thenQ.normal ?_
    refine SX.seq ?_
    refine SX.region ?_
    refine SXL.assign rfl ?_
    refine SXL.nil ?_
    refine thenQ.normal ?_
    refine SX.ret ?_
    refine retQ.one (ResAt.tmp rfl) ?_
    exact congrArg Value.bool (decide_eq_true (fun i hi => hall i (by omega))).symm
theorem tck2_any (u : Su) (fo so : Option Addr) (fc sc : Nat) (fa : Nat → FA) (sa : Nat → DA) (hl : LitP u) (w : World) (hs : SuAt w u fo so fa sa) :
    CallsR Tryd.prog 145 [.agg ⟨[.slice fo u.founts.length fc, .slice so u.streets.length sc]⟩] w (fun v _ => v = .bool (decide (tckP u 2))) := by
  have hL0 := hl.1
  have hL1 := hl.2.1
  have hL2 := hl.2.2
  refine CallsR.of_SX (n := 59) (rs := [.tmp 2]) Tryd.func145 rfl rfl rfl rfl ?_
  show SX _ _ _ ⟨[(0, .agg ⟨[.slice fo u.founts.length fc, .slice so u.streets.length sc]⟩)], [], []⟩
  refine SX.seq ?_
  refine SX.region ?_
  refine SXL.box rfl rfl ?_; intro b0
  refine SXL.assign rfl ?_
  refine SXL.nil ?_
  refine thenQ.normal ?_
  refine SX.seq ?_
  refine SX.region ?_
  refine SXL.assign rfl ?_
  refine SXL.nil ?_
  refine thenQ.normal ?_
  refine SX.seq ?_
  refine SX.seq ?_
  refine SX.region ?_
  refine SXL.fieldAddr fp_25_1 rfl ?_
  refine SXL.load1o 0 sh_23 rfl rfl rfl ?_
  refine SXL.len is_23 rfl ?_
  refine SXL.move rfl ?_
  refine SXL.nil ?_
  refine thenQ.normal ?_
  refine SX.block ?_
  refine SX.loopG (α := Nat) [1, 2, 7, 8] rfl (fun k => [(9, .int .i64 ((k : Int))), (3, .int .i64 ((lastR u k)))]) (fun k => []) (fun k => k ≤ u.streets.length ∧ ∀ i, i < k → SrP u (lastR u i) (u.streets.getD i default)) (fun k => u.streets.length - k) 0 ⟨Nat.zero_le _, fun _ h => absurd h (Nat.not_lt_zero _)⟩ ⟨rfl, rfl, trivial⟩ rfl ?_
  rintro k ⟨hk, hall⟩
  refine SX.seq ?_
  refine SX.region ?_
  refine SXL.lss rfl rfl ?_
  refine SXL.nil ?_
  refine thenQ.normal ?_
  refine SX.seq ?_
  refine SX.condP rfl (fun c10 => ?_) (fun c10 => ?_)
  · refine SX.skip ?_
    refine thenQ.normal ?_
    refine SX.seq ?_
    refine SX.block ?_
    refine SX.seq ?_
    obtain ⟨b, o, ha, hm⟩ := hs.street (i := k) (by omega)
    have hLk := hL2 k (by omega)
    have hla := lastR_in hall
    refine SX.region ?_
    refine SXL.indexR el_23 rfl rfl ha (by omega) ?_
    refine SXL.loadN sh_73 rfl (hm _) rfl ?_
    refine SXL.alloc zp_73 ?_; intro b1
    refine SXL.store 1 sz_73 rfl rfl rfl rfl rfl rfl ?_
    refine SXL.nil ?_
    refine thenQ.normal ?_
    refine SX.seq ?_
    refine SX.seq ?_
    refine SX.region ?_
    refine SXL.move rfl ?_
    refine SXL.add rfl rfl (by omega) ?_
    refine SXL.fieldAddr fp_73_0 rfl ?_
    refine SXL.load1o 1 sh_3 rfl rfl rfl ?_
    refine SXL.buildSlice et_33 zp_3 rfl rfl rfl rfl ?_; intro b2
    refine SXL.call1 (.bool (decide (Wi ((u.streets.getD k default).id) (lastR u k + 1) (9999)))) fn_59 rfl (fun w hI => tin1_own hI 2 ((u.streets.getD k default).id) (lastR u k + 1) (9999) rfl) ?_
    refine SXL.not rfl ?_
    refine SXL.move rfl ?_
    apply SXL.orG 9
    case hl => exact rfl
    case hd => exact rfl
    case hg => exact rfl
    case ht =>
      intro g2
      refine SXL.pass rfl rfl rfl ?_
      refine SXL.pass rfl rfl rfl ?_
      refine SXL.pass rfl rfl rfl ?_
      refine SXL.pass rfl rfl rfl ?_
      refine SXL.pass rfl rfl rfl ?_
      refine SXL.pass rfl rfl rfl ?_
      refine SXL.pass rfl rfl rfl ?_
      refine SXL.pass rfl rfl rfl ?_
      refine SXL.pass rfl rfl rfl ?_
      exact SXL.nil (segQ.mk (.skip rfl (.skip rfl (.skip rfl (.skip rfl (.skip rfl (.skip rfl (.skip rfl (.skip rfl (.skip rfl (.skip rfl (EnvSub.refl _))))))))))) rfl rfl rfl)
    case hf =>
      intro g2
      refine SXL.fieldAddr fp_73_1 rfl ?_
      refine SXL.fieldAddr fp_55_0 rfl ?_
      refine SXL.load1o 1 sh_3 rfl rfl rfl ?_
      refine SXL.fieldAddr fp_73_1 rfl ?_
      refine SXL.fieldAddr fp_55_1 rfl ?_
      refine SXL.load1o 1 sh_3 rfl rfl rfl ?_
      refine SXL.buildSlice et_33 zp_3 rfl rfl rfl rfl ?_; intro b3
      refine SXL.call1 (.bool (decide (Wi ((u.streets.getD k default).n0) (0) (100) ∧ Wi ((u.streets.getD k default).n1) (0) (100)))) fn_59 rfl (fun w hI => tin2_own hI 3 ((u.streets.getD k default).n0) ((u.streets.getD k default).n1) (0) (100) rfl) ?_
      refine SXL.not rfl ?_
      exact SXL.ownPre (SXL.nil (segQ.mk (.skip rfl (.skip rfl (.skip rfl (.skip rfl (.skip rfl (.skip rfl (.skip rfl (.skip rfl (.skip rfl (.skip rfl (EnvSub.refl _))))))))))) rfl rfl ⟨rfl, rfl⟩)) rfl
    refine SXL.move rfl ?_
    apply SXL.orG 7
    case hl => exact rfl
    case hd => exact rfl
    case hg => exact rfl
    case ht =>
      intro g3
      refine SXL.pass rfl rfl rfl ?_
      refine SXL.pass rfl rfl rfl ?_
      refine SXL.pass rfl rfl rfl ?_
      refine SXL.pass rfl rfl rfl ?_
      refine SXL.pass rfl rfl rfl ?_
      refine SXL.pass rfl rfl rfl ?_
      refine SXL.pass rfl rfl rfl ?_
      exact SXL.nil (segQ.mk (.skip rfl (.skip rfl (.skip rfl (.skip rfl (.skip rfl (.skip rfl (.skip rfl (.skip rfl (EnvSub.refl _))))))))) rfl rfl rfl)
    case hf =>
      intro g3
      refine SXL.fieldAddr fp_73_1 rfl ?_
      refine SXL.fieldAddr fp_55_0 rfl ?_
      refine SXL.load1o 1 sh_3 rfl rfl rfl ?_
      refine SXL.fieldAddr fp_73_1 rfl ?_
      refine SXL.fieldAddr fp_55_1 rfl ?_
      refine SXL.load1o 1 sh_3 rfl rfl rfl ?_
      refine SXL.gtr rfl rfl ?_
      exact SXL.nil (segQ.mk (.skip rfl (.skip rfl (.skip rfl (.skip rfl (.skip rfl (.skip rfl (.skip rfl (.skip rfl (EnvSub.refl _))))))))) rfl rfl ⟨rfl, rfl⟩)
    refine SXL.move rfl ?_
    apply SXL.orG 8
    case hl => exact rfl
    case hd => exact rfl
    case hg => exact rfl
    case ht =>
      intro g4
      refine SXL.pass rfl rfl rfl ?_
      refine SXL.pass rfl rfl rfl ?_
      refine SXL.pass rfl rfl rfl ?_
      refine SXL.pass rfl rfl rfl ?_
      refine SXL.pass rfl rfl rfl ?_
      refine SXL.pass rfl rfl rfl ?_
      refine SXL.pass rfl rfl rfl ?_
      refine SXL.pass rfl rfl rfl ?_
      exact SXL.nil (segQ.mk (.skip rfl (.skip rfl (.skip rfl (.skip rfl (.skip rfl (.skip rfl (.skip rfl (.skip rfl (.skip rfl (EnvSub.refl _)))))))))) rfl rfl rfl)
    case hf =>
      intro g4
      refine SXL.fieldAddr fp_73_1 rfl ?_
      refine SXL.fieldAddr fp_55_0 rfl ?_
      refine SXL.load1o 1 sh_3 rfl rfl rfl ?_
      refine SXL.fieldAddr fp_73_2 rfl ?_
      refine SXL.load1o 1 sh_3 rfl rfl rfl ?_
      refine SXL.buildSlice et_33 zp_3 rfl rfl rfl rfl ?_; intro b3
      refine SXL.call1 (.bool (decide (Wi ((u.streets.getD k default).least) (0) ((u.streets.getD k default).n0)))) fn_59 rfl (fun w hI => tin1_own hI 3 ((u.streets.getD k default).least) (0) ((u.streets.getD k default).n0) rfl) ?_
      refine SXL.not rfl ?_
      exact SXL.ownPre (SXL.nil (segQ.mk (.skip rfl (.skip rfl (.skip rfl (.skip rfl (.skip rfl (.skip rfl (.skip rfl (.skip rfl (.skip rfl (EnvSub.refl _)))))))))) rfl rfl ⟨rfl, rfl⟩)) rfl
    refine SXL.move rfl ?_
    apply SXL.orG 4
    case hl => exact rfl
    case hd => exact rfl
    case hg => exact rfl
    case ht =>
      intro c55
      refine SXL.pass rfl rfl rfl ?_
      refine SXL.pass rfl rfl rfl ?_
      refine SXL.pass rfl rfl rfl ?_
      refine SXL.pass rfl rfl rfl ?_
      exact SXL.nil (segQ.mk (.skip rfl (.skip rfl (.skip rfl (.skip rfl (.skip rfl (EnvSub.refl _)))))) rfl rfl rfl)
    case hf =>
      intro c55
      refine SXL.loadNo 0 sh_25 rfl rfl rfl ?_
      refine SXL.loadNo 1 sh_73 rfl rfl rfl ?_
      refine SXL.call1 (.bool (decide (DrP u (u.streets.getD k default).draws))) fn_146 rfl (fun w hI => tdraws_any u fo so fc sc fa sa (u.streets.getD k default) (sa k).1 (sa k).2 hLk hl w ((hs.draws k (by omega)).inv hI) (hs.inv hI)) ?_
      refine SXL.not rfl ?_
      exact SXL.nil (segQ.mk (.skip rfl (.skip rfl (.skip rfl (.skip rfl (.skip rfl (EnvSub.refl _)))))) rfl rfl ⟨rfl, rfl⟩)
    refine SXL.nil ?_
    refine thenQ.normal ?_
    refine SX.condP rfl (fun c55 => ?_) (fun c55 => ?_)
    · refine SX.seq ?_
      refine SX.region ?_
      refine SXL.assign rfl ?_
      refine SXL.nil ?_
      refine thenQ.normal ?_
      refine SX.ret ?_
      refine thenQ.ret ?_
      refine blockQ.ret ?_
      refine thenQ.ret ?_
      refine thenQ.ret ?_
      refine blockQ.ret ?_
      refine thenQ.ret ?_
      refine retQ.one (ResAt.tmp rfl) ?_
      exact congrArg Value.bool (decide_eq_false (by intro h; have h1 := h k (by omega); have h2 := h1.2.2.2; have h3 := h1.1; have h4 := h1.2.1; have h5 := h1.2.2.1; rcases c55 with c | c; omega; exact c h2)).symm
    · refine SX.skip ?_
      refine thenQ.normal ?_
      refine SX.region ?_
      refine SXL.fieldAddr fp_73_0 rfl ?_
      refine SXL.load1o 1 sh_3 rfl rfl rfl ?_
      refine SXL.assign rfl ?_
      refine SXL.nil ?_
      refine blockQ.normal ?_
      refine thenQ.normal ?_
      refine SX.region ?_
      refine SXL.add rfl rfl (by omega) ?_
      refine SXL.move rfl ?_
      refine SXL.nil ?_
      refine thenQ.normal ?_
      refine ⟨k + 1, Meets.mk _ ⟨rfl, rfl, trivial⟩ ⟨rfl, rfl, rfl, rfl, trivial⟩ rfl, ?_, (by omega)⟩
      refine ⟨by omega, fun i hi => ?_⟩
      by_cases e : i = k
      · subst e; obtain ⟨c4, c5⟩ := not_or.1 c55
        exact ⟨by omega, by omega, by omega, Decidable.not_not.1 c5⟩
      · exact hall i (by omega)
  · refine SX.exit ?_
    refine thenQ.exit ?_
    refine thenQ.exit ?_
    refine blockQ.exit ?_
    refine thenQ.normal ?_
    refine SX.seq ?_
    refine SX.region ?_
    refine SXL.assign rfl ?_
    refine SXL.nil ?_
    refine thenQ.normal ?_
    refine SX.ret ?_
    refine retQ.one (ResAt.tmp rfl) ?_
    exact congrArg Value.bool (decide_eq_true (fun i hi => hall i (by omega))).symm
theorem tck_any (u : Su) (fo so : Option Addr) (fc sc : Nat) (fa : Nat → FA) (sa : Nat → DA) (k : Nat) (hk : k < 3) (hl : LitP u) (w : World) (hg : Gt w) (hs : SuAt w u fo so fa sa) :
    CallsR Tryd.prog (tckId k) [.agg ⟨[.slice fo u.founts.length fc, .slice so u.streets.length sc]⟩] w (fun v _ => v = .bool (decide (tckP u k))) := by
  match k, hk with
  | 0, _ => exact tck0_any u fo so fc sc w
  | 1, _ => exact tck1_any u fo so fc sc fa sa hl w hg hs
  | 2, _ => exact tck2_any u fo so fc sc fa sa hl w hs
theorem fn_tck (k : Nat) (hk : k < 3) : fnOk Tryd.prog (tckId k) = true := by
  match k, hk with
  | 0, _ => exact fn_143
  | 1, _ => exact fn_144
  | 2, _ => exact fn_145
theorem tcheck_any (u : Su) (fo so : Option Addr) (fc sc : Nat) (fa : Nat → FA) (sa : Nat → DA) (hl : LitP u) (w : World) (hg : Gt w) (hs : SuAt w u fo so fa sa) :
    CallsR Tryd.prog 18 [.agg ⟨[.slice fo u.founts.length fc, .slice so u.streets.length sc]⟩] w (fun v _ => v = .int .i64 (if SuP u then 0 else 90)) := by
  refine CallsR.of_SX (n := 15) (rs := [.tmp 2]) Tryd.func18 rfl rfl rfl rfl ?_
  show SX _ _ _ ⟨[(0, .agg ⟨[.slice fo u.founts.length fc, .slice so u.streets.length sc]⟩)], [], []⟩
  refine SX.seq ?_
  refine SX.region ?_
  refine SXL.box rfl rfl ?_; intro b0
  refine SXL.assign rfl ?_
  refine SXL.nil ?_
  refine thenQ.normal ?_
  refine SX.seq ?_
  refine SX.seq ?_
  refine SX.region ?_
  refine SXL.loadN sh_91 rfl (hg.memC _) rfl ?_
  refine SXL.move rfl ?_
  refine SXL.nil ?_
  refine thenQ.normal ?_
  refine SX.block ?_
  refine SX.loopG (α := Nat) [1, 2, 5] rfl (fun k => [(6, .int .i64 ((k : Int)))]) (fun k => []) (fun k => k ≤ 3 ∧ ∀ i, i < k → tckP u i) (fun k => 3 - k) 0 ⟨Nat.zero_le _, fun _ h => absurd h (Nat.not_lt_zero _)⟩ ⟨rfl, trivial⟩ rfl ?_
  rintro k ⟨hk, hall⟩
  refine SX.seq ?_
  refine SX.region ?_
  refine SXL.lss rfl rfl ?_
  refine SXL.nil ?_
  refine thenQ.normal ?_
  refine SX.seq ?_
  refine SX.condP rfl (fun c7 => ?_) (fun c7 => ?_)
  · refine SX.skip ?_
    refine thenQ.normal ?_
    refine SX.seq ?_
    refine SX.block ?_
    refine SX.seq ?_
    refine SX.region ?_
    refine SXL.indexV ae_91 sh_90 rfl rfl (by omega) (tck_take k (by omega)) ?_
    refine SXL.alloc zp_90 ?_; intro b1
    refine SXL.store 1 sz_90 rfl rfl rfl rfl rfl rfl ?_
    refine SXL.nil ?_
    refine thenQ.normal ?_
    refine SX.seq ?_
    refine SX.region ?_
    refine SXL.fieldAddr fp_90_0 rfl ?_
    refine SXL.load1o 1 sh_26 rfl rfl rfl ?_
    refine SXL.loadNo 0 sh_25 rfl rfl rfl ?_
    refine SXL.call1V (.bool (decide (tckP u k))) (fn_tck k (by omega)) rfl rfl (fun w hI => tck_any u fo so fc sc fa sa k (by omega) hl w (hg.inv hI) (hs.inv hI)) ?_
    refine SXL.not rfl ?_
    refine SXL.nil ?_
    refine thenQ.normal ?_
    refine SX.condP rfl (fun c13 => ?_) (fun c13 => ?_)
    · refine SX.seq ?_
      refine SX.region ?_
      refine SXL.assign rfl ?_
      refine SXL.nil ?_
      refine thenQ.normal ?_
      refine SX.ret ?_
      refine blockQ.ret ?_
      refine thenQ.ret ?_
      refine thenQ.ret ?_
      refine blockQ.ret ?_
      refine thenQ.ret ?_
      refine retQ.one (ResAt.tmp rfl) ?_
      rw [if_neg (fun h => c13 ((tck_iff u).1 h k (by omega)))]
    · refine SX.skip ?_
      refine blockQ.normal ?_
      refine thenQ.normal ?_
      refine SX.region ?_
      refine SXL.add rfl rfl (by omega) ?_
      refine SXL.move rfl ?_
      refine SXL.nil ?_
      refine thenQ.normal ?_
      refine ⟨k + 1, Meets.mk _ ⟨rfl, trivial⟩ ⟨rfl, rfl, rfl, trivial⟩ rfl, ?_, (by omega)⟩
      refine ⟨by omega, fun i hi => ?_⟩
      by_cases e : i = k
      · subst e; exact Decidable.not_not.1 c13
      · exact hall i (by omega)
  · refine SX.exit ?_
    refine thenQ.exit ?_
    refine thenQ.exit ?_
    refine blockQ.exit ?_
    refine thenQ.normal ?_
    refine SX.seq ?_
    refine SX.region ?_
    refine SXL.assign rfl ?_
    refine SXL.nil ?_
    refine thenQ.normal ?_
    refine SX.ret ?_
    refine retQ.one (ResAt.tmp rfl) ?_
    rw [if_pos ((tck_iff u).2 fun i hi => hall i (by omega))]
end Go.Proofs.YtolcicaclflagaaDoor
