/- Texts of the proof, merged: P11, P16, P17, XF, XSi, W4, S1, S2, D5, S3, S4, XW, D6, S5. -/
import Derived.Test.YtknflipongbngaaDoorMSpringWrong2
/- What all rains leave of each week. Nothing of Go stands here. -/
namespace Go.S
open Go.X (G)
def mk20 (lo hi : Nat → Int) : List Int := (List.range 20).map fun i => if i % 2 = 0 then lo (i / 2) else hi (i / 2)
@[simp] theorem mk20_len (lo hi : Nat → Int) : (mk20 lo hi).length = 20 := by simp [mk20]
theorem mk20_at (lo hi : Nat → Int) {w : Nat} (hw : w < 10) : Lo (mk20 lo hi) w = lo w ∧ Hi (mk20 lo hi) w = hi w := by
  unfold Lo Hi mk20
  constructor
  · have : w * 2 < 20 := by omega
    simp [G, this]
  · have h1 : w * 2 + 1 < 20 := by omega
    have h2 : (w * 2 + 1) % 2 = 1 := by omega
    have h3 : (w * 2 + 1) / 2 = w := by omega
    simp [G, h1, h2, h3]
def oLo (n : Nat) (A : List (List Int)) (i : Nat) : Int := if A = [] ∨ n ≤ i then 0 else hLo A i
def oHi (n : Nat) (A : List (List Int)) (i : Nat) : Int := if A = [] ∨ n ≤ i then 0 else hHi A i
def outL (n : Nat) (A : List (List Int)) : List Int := mk20 (oLo n A) (oHi n A)
theorem hTo_snoc {A : List (List Int)} (X : List Int) (w : Nat) (hA : A ≠ []) : ∀ k, k ≤ A.length → hLoTo (A ++ [X]) w k = hLoTo A w k ∧ hHiTo (A ++ [X]) w k = hHiTo A w k
  | 0, _ => by
    have h0 : 0 < A.length := List.length_pos_iff.2 hA
    have e : (A ++ [X]).getD 0 [] = A.getD 0 [] := by rw [List.getD_eq_getElem?_getD, List.getD_eq_getElem?_getD, List.getElem?_append_left h0]
    simp only [hLoTo, hHiTo, e]; exact ⟨trivial, trivial⟩
  | k + 1, hk => by
    have ih := hTo_snoc X w hA k (by omega)
    have h0 : k < A.length := by omega
    have e : (A ++ [X]).getD k [] = A.getD k [] := by rw [List.getD_eq_getElem?_getD, List.getD_eq_getElem?_getD, List.getElem?_append_left h0]
    simp only [hLoTo, hHiTo, ih.1, ih.2, e]; exact ⟨trivial, trivial⟩
theorem h_snoc {A : List (List Int)} (X : List Int) (w : Nat) : hLo (A ++ [X]) w = (if A = [] then G X w else min (hLo A w) (G X w)) ∧ hHi (A ++ [X]) w = (if A = [] then G X (10 + w) else max (hHi A w) (G X (10 + w))) := by
  by_cases hA : A = []
  · subst hA
    rw [if_pos rfl, if_pos rfl]
    simp [hLo, hHi, hLoTo, hHiTo]
  · rw [if_neg hA, if_neg hA]
    have h := hTo_snoc X w hA A.length (Nat.le_refl _)
    unfold hLo hHi
    rw [show (A ++ [X]).length = A.length + 1 by simp]
    simp only [hLoTo, hHiTo, h.1, h.2]
    simp
/-- One rain more: week j. -/
theorem o_snoc {n : Nat} {A : List (List Int)} (X : List Int) {i : Nat} (hi : i < n) : oLo n (A ++ [X]) i = (if A = [] then G X i else min (oLo n A i) (G X i)) ∧ oHi n (A ++ [X]) i = (if A = [] then G X (10 + i) else max (oHi n A i) (G X (10 + i))) := by
  obtain ⟨h1, h2⟩ := h_snoc (A := A) X i
  unfold oLo oHi
  have hne : ¬((A ++ [X]) = [] ∨ n ≤ i) := by
    rintro (h | h)
    · simp at h
    · omega
  simp only [if_neg hne, h1, h2]
  by_cases hA : A = []
  · simp only [if_pos hA]; exact ⟨trivial, trivial⟩
  · have hne2 : ¬(A = [] ∨ n ≤ i) := by
      rintro (h | h)
      · exact hA h
      · omega
    simp only [if_neg hA, if_neg hne2]; exact ⟨trivial, trivial⟩
theorem o_rest {n : Nat} {A : List (List Int)} {i : Nat} (hi : n ≤ i) : oLo n A i = 0 ∧ oHi n A i = 0 := by
  unfold oLo oHi
  rw [if_pos (.inr hi), if_pos (.inr hi)]; exact ⟨rfl, rfl⟩
/-- M holds what the rains of A leave. -/
structure IsO (n : Nat) (A : List (List Int)) (M : List Int) : Prop where
  len : M.length = 20
  at_ : ∀ i, i < 10 → Lo M i = oLo n A i ∧ Hi M i = oHi n A i
theorem IsO.eq {n : Nat} {A : List (List Int)} {M : List Int} (h : IsO n A M) : M = outL n A :=
  list_ext20 h.len (by simp [outL]) fun j hj => by
    obtain ⟨h1, h2⟩ := mk20_at (oLo n A) (oHi n A) hj
    have := h.at_ j hj
    rw [this.1, this.2]; exact ⟨h1.symm, h2.symm⟩
theorem IsO.zero (n : Nat) : IsO n [] (List.replicate 20 0) := ⟨by simp, fun i hi => by
  have h : ∀ i, i < 10 → G (List.replicate 20 (0 : Int)) (i * 2) = 0 ∧ G (List.replicate 20 (0 : Int)) (i * 2 + 1) = 0 := by decide
  have := h i hi
  simp only [Lo, Hi, this.1, this.2, oLo, oHi, true_or, if_true, and_self]⟩
/-- Weeks below j have the new rain. -/
structure MidO (n : Nat) (A : List (List Int)) (X : List Int) (j : Nat) (M : List Int) : Prop where
  len : M.length = 20
  new_ : ∀ i, i < j → i < 10 → Lo M i = oLo n (A ++ [X]) i ∧ Hi M i = oHi n (A ++ [X]) i
  old_ : ∀ i, j ≤ i → i < 10 → Lo M i = oLo n A i ∧ Hi M i = oHi n A i
theorem IsO.mid {n : Nat} {A : List (List Int)} {M : List Int} (h : IsO n A M) (X : List Int) : MidO n A X 0 M := ⟨h.len, fun _i hi => absurd hi (Nat.not_lt_zero _), fun i _ hi => h.at_ i hi⟩
theorem MidO.done {n : Nat} {A : List (List Int)} {X M : List Int} (h : MidO n A X n M) : IsO n (A ++ [X]) M := ⟨h.len, fun i hi => by
  by_cases e : i < n
  · exact h.new_ i e hi
  · have a := h.old_ i (by omega) hi
    have b := o_rest (A := A) (show n ≤ i by omega); have c := o_rest (A := A ++ [X]) (show n ≤ i by omega)
    omega⟩
theorem MidO.next {n : Nat} {A : List (List Int)} {X M M3 : List Int} {j : Nat} (h : MidO n A X j M) (hj : j < n) (hn : n ≤ 10) (h3 : M3 = if A = [] then set2 M j (G X j, G X (10 + j)) else M) :
    MidO n A X (j + 1) (set2 M3 j (min (Lo M3 j) (G X j), max (Hi M3 j) (G X (10 + j)))) := by
  have hl : M3.length = 20 := by rw [h3]; split <;> simp [h.len]
  have hs := o_snoc (A := A) X hj
  have hold := h.old_ j (Nat.le_refl _) (by omega)
  have e3 : Lo M3 j = (if A = [] then G X j else oLo n A j) ∧ Hi M3 j = (if A = [] then G X (10 + j) else oHi n A j) := by
    rw [h3]
    by_cases hA : A = []
    · rw [if_pos hA, if_pos hA, if_pos hA]
      obtain ⟨a, b⟩ := set2_at h.len (i := j) (j := j) (by omega) (by omega) (G X j, G X (10 + j))
      rw [a, b, if_pos rfl, if_pos rfl]; exact ⟨rfl, rfl⟩
    · rw [if_neg hA, if_neg hA, if_neg hA]; exact hold
  have e4 : ∀ i, i < 10 → i ≠ j → Lo M3 i = Lo M i ∧ Hi M3 i = Hi M i := fun i hi hne => by
    rw [h3]
    by_cases hA : A = []
    · rw [if_pos hA]
      obtain ⟨a, b⟩ := set2_at h.len (i := j) (j := i) (by omega) hi (G X j, G X (10 + j))
      rw [a, b, if_neg (Ne.symm hne), if_neg (Ne.symm hne)]; exact ⟨rfl, rfl⟩
    · rw [if_neg hA]; exact ⟨rfl, rfl⟩
  refine ⟨by simp [hl], fun i hi h10 => ?_, fun i hi h10 => ?_⟩
  · obtain ⟨a, b⟩ := set2_at hl (i := j) (j := i) (by omega) h10 (min (Lo M3 j) (G X j), max (Hi M3 j) (G X (10 + j)))
    rw [a, b]
    by_cases e : j = i
    · subst e
      rw [if_pos rfl, if_pos rfl, hs.1, hs.2, e3.1, e3.2]
      by_cases hA : A = []
      · simp only [if_pos hA]; omega
      · simp only [if_neg hA]; exact ⟨trivial, trivial⟩
    · rw [if_neg e, if_neg e, (e4 i h10 (Ne.symm e)).1, (e4 i h10 (Ne.symm e)).2]
      exact h.new_ i (by omega) h10
  · obtain ⟨a, b⟩ := set2_at hl (i := j) (j := i) (by omega) h10 (min (Lo M3 j) (G X j), max (Hi M3 j) (G X (10 + j)))
    rw [a, b, if_neg (by omega), if_neg (by omega), (e4 i h10 (by omega)).1, (e4 i h10 (by omega)).2]
    exact h.old_ i (by omega) h10
end Go.S

/- Weeks in which it fails, what gives least and most, buckets, what tells most: the plain words. Nothing of Go stands here. -/
namespace Go.S
open Go.X (G idxF)
/-! ### the first that is least -/
def amin (f : Nat → Int) : Nat → Nat
  | 0 => 0
  | k + 1 => if f (k + 1) < f (amin f k) then k + 1 else amin f k
theorem amin_le (f : Nat → Int) : ∀ k, amin f k ≤ k
  | 0 => Nat.le_refl _
  | k + 1 => by
    have := amin_le f k
    simp only [amin]
    split <;> omega
theorem amin_min (f : Nat → Int) : ∀ k i, i ≤ k → f (amin f k) ≤ f i
  | 0, i, h => by
    obtain rfl : i = 0 := by omega
    exact Int.le_refl _
  | k + 1, i, h => by
    have ih := amin_min f k
    simp only [amin]
    split
    · rename_i hlt
      by_cases e : i = k + 1
      · subst e; exact Int.le_refl _
      · have := ih i (by omega); omega
    · rename_i hlt
      by_cases e : i = k + 1
      · subst e; omega
      · exact ih i (by omega)
theorem amin_first (f : Nat → Int) : ∀ k i, i < amin f k → f (amin f k) < f i
  | 0, i, h => by simp [amin] at h
  | k + 1, i, h => by
    have ih := amin_first f k
    have im := amin_min f k
    simp only [amin] at h ⊢
    split
    · rename_i hlt
      rw [if_pos hlt] at h
      have := im i (by omega); omega
    · rename_i hlt
      rw [if_neg hlt] at h
      exact ih i h
theorem amin_congr {f g : Nat → Int} : ∀ k, (∀ i, i ≤ k → f i = g i) → amin f k = amin g k
  | 0, _ => rfl
  | k + 1, h => by
    have ih := amin_congr (f := f) (g := g) k fun i hi => h i (by omega)
    simp only [amin, ih]
    rw [h (k + 1) (Nat.le_refl _), h (amin g k) (by have := amin_le g k; omega)]
/-! ### sums -/
def sumTo (l : List Int) : Nat → Int
  | 0 => 0
  | k + 1 => sumTo l k + l.getD k 0
def sumL (l : List Int) : Int := sumTo l l.length
/-- The lower ends (off = 0) or the upper ones (off = 10) of so many weeks. -/
def endL (X : List Int) (off n : Nat) : List Int := (X.drop off).take n
theorem endL_len {X : List Int} (hX : X.length = 20) {off n : Nat} (ho : off ≤ 10) (hn : n ≤ 10) : (endL X off n).length = n := by
  simp only [endL, List.length_take, List.length_drop]; omega
theorem endL_at {X : List Int} {off n w : Nat} (hw : w < n) : (endL X off n).getD w 0 = G X (off + w) := by
  simp [endL, G, hw]
theorem sumTo_bd {l : List Int} (h : ∀ i, i < l.length → -1000 ≤ l.getD i 0 ∧ l.getD i 0 ≤ 1000) : ∀ k, k ≤ l.length → -(1000 * (k : Int)) ≤ sumTo l k ∧ sumTo l k ≤ 1000 * (k : Int)
  | 0, _ => by simp [sumTo]
  | k + 1, hk => by
    have ih := sumTo_bd h k (by omega)
    have := h k (by omega)
    simp only [sumTo]
    omega
/-! ### weeks -/
/-- The value of the first week that is so, and the error. -/
def wkE (s : Sp) (i : Int) : Int := if toldE s 0 ≠ 0 then toldE s 0 else if 0 ≤ i then 0 else 6
def wkV (s : Sp) (i : Int) : Int := if toldE s 0 ≠ 0 then 0 else if 0 ≤ i then i else 0
def loI (s : Sp) (need : Int) : Int := idxF (fun w => hLo (toldA s 0) w < need) s.weeks.toNat
def hiI (s : Sp) (need : Int) : Int := idxF (fun w => hHi (toldA s 0) w < need) s.weeks.toNat
/-! ### the truths that give least and most -/
def endsL (s : Sp) (off i : Nat) : List Int := endL ((toldA s 0).getD i []) off s.weeks.toNat
def poorI (s : Sp) : Nat := amin (fun i => sumL (endsL s 0 i)) ((toldL s 0).length - 1)
def richI (s : Sp) : Nat := amin (fun i => -sumL (endsL s 10 i)) ((toldL s 0).length - 1)
def bestR (s : Sp) (i : Nat) : Int := if toldE s 0 = 0 then (toldL s 0).getD i 0 else 0
def bestL (s : Sp) (off i : Nat) : List Int := if toldE s 0 = 0 then endsL s off i else []
/-! ### buckets -/
def fillE (s : Sp) (week bucket : Int) : Int := if ¬SpP s then 10 else if ¬Wi week 0 (s.weeks - 1) then 11 else if ¬Wi bucket 1 40 then 14 else if toldE s week ≠ 0 then toldE s week else if givesLo s week = 0 then 6 else 0
def fillLo (s : Sp) (week bucket : Int) : Int := if fillE s week bucket = 0 then (3600 * bucket) / givesHi s week else 0
def fillHi (s : Sp) (week bucket : Int) : Int := if fillE s week bucket = 0 then (3600 * bucket + givesLo s week - 1) / givesLo s week else 0
/-! ### what tells most -/
def widTo (A : List (List Int)) : Nat → Int
  | 0 => 0
  | k + 1 => widTo A k + (hHi A k - hLo A k)
def wideP (s : Sp) (L : List Int) : Int := if rnsL s L = [] then -1 else widTo (lvsL s L (rnsL s L)) s.weeks.toNat
/-- One week is known. -/
def oneW (L : List Int) (w : Nat) (n : Int) : List Int := (L.set w n).set (10 + w) n
def leftTo (s : Sp) (w : Nat) : Nat → Int
  | 0 => 0
  | k + 1 => max (leftTo s w k) (wideP s (oneW (baseL s) w (G (baseL s) w + k)))
def leftN (s : Sp) (w : Nat) : Nat := (G (baseL s) (10 + w) + 1 - G (baseL s) w).toNat
def leftP (s : Sp) (w : Nat) : Int := leftTo s w (leftN s w)
def lookI (s : Sp) : Nat := amin (leftP s) (s.weeks.toNat - 1)
def lookW (s : Sp) : Int := if toldE s 0 = 0 then lookI s else 0
def lookV (s : Sp) : Int := if toldE s 0 = 0 then leftP s (lookI s) else 0
end Go.S

/- What rains leave: bounds; rows laid one behind the other. Nothing of Go stands here. -/
namespace Go.S
open Go Go.X
theorem amin_at (f : Nat → Int) {k : Nat} (h : 1 ≤ k) : amin f k = if f k < f (amin f (k - 1)) then k else amin f (k - 1) := by
  obtain ⟨j, rfl⟩ : ∃ j, k = j + 1 := ⟨k - 1, by omega⟩
  rfl
/-- The first least so far, and what it comes to: c where there is none. -/
def bI (f : Nat → Int) (k : Nat) : Nat := amin f (k - 1)
def bV (c : Int) (f : Nat → Int) (k : Nat) : Int := if k = 0 then c else f (amin f (k - 1))
theorem b_yes {f : Nat → Int} {k : Nat} {c : Int} (h : k = 0 ∨ f k < bV c f k) : bI f (k + 1) = k ∧ bV c f (k + 1) = f k := by
  unfold bI bV at *
  rw [if_neg (by omega), Nat.add_sub_cancel]
  cases k with
  | zero => exact ⟨rfl, rfl⟩
  | succ k =>
    rcases h with h | h
    · cases h
    · rw [if_neg (by omega), Nat.add_sub_cancel] at h
      simp only [amin, if_pos h]
      exact ⟨trivial, trivial⟩
theorem b_no {f : Nat → Int} {k : Nat} {c : Int} (h : ¬(k = 0 ∨ f k < bV c f k)) : bI f (k + 1) = bI f k ∧ bV c f (k + 1) = bV c f k := by
  unfold bI bV at *
  rw [if_neg (by omega), Nat.add_sub_cancel]
  cases k with
  | zero => exact absurd (.inl rfl) h
  | succ k =>
    have h2 := fun h' => h (.inr h')
    rw [if_neg (by omega), Nat.add_sub_cancel] at h2
    rw [if_neg (by omega), Nat.add_sub_cancel]
    simp only [amin, if_neg h2]
    exact ⟨trivial, trivial⟩
theorem toldA_bd {s : Sp} {week : Int} (he : toldE s week = 0) : ∀ x ∈ toldA s week, Bd x := by
  obtain ⟨hv, _, _⟩ := toldE_valid he
  intro x hx
  obtain ⟨r, _, rfl⟩ := List.mem_map.1 hx
  exact (baseL_Bd hv).lv hv r
theorem getD_mem {A : List (List Int)} {i : Nat} (hi : i < A.length) : A.getD i [] ∈ A := by
  rw [List.getD_eq_getElem?_getD, List.getElem?_eq_getElem hi]
  exact List.getElem_mem hi
theorem told_lens {s : Sp} {week : Int} : (toldA s week).length = (toldL s week).length := by simp [toldA, lvsL]
theorem toldL_pos {s : Sp} {week : Int} (he : toldE s week = 0) : 0 < (toldL s week).length := by
  rw [toldL_ok he]
  exact List.length_pos_iff.2 (toldE_valid he).2.2
theorem toldL_max {s : Sp} {week : Int} (he : toldE s week = 0) : (toldL s week).length ≤ 21 := by
  rw [toldL_ok he]
  exact rnsL_max (toldE_valid he).1 _
/-- What is told may be given: no number is below nought. -/
theorem toldA_nonneg {s : Sp} {week : Int} (he : toldE s week = 0) {i w : Nat} (hi : i < (toldA s week).length) (hw : w < s.weeks.toNat) : 0 ≤ G ((toldA s week).getD i []) w ∧ G ((toldA s week).getD i []) w ≤ G ((toldA s week).getD i []) (10 + w) ∧ G ((toldA s week).getD i []) (10 + w) ≤ s.most := by
  obtain ⟨hv, _, _⟩ := toldE_valid he
  have hm := getD_mem hi
  obtain ⟨r, hr, e⟩ := List.mem_map.1 hm
  rw [← e]
  rw [toldL_ok he] at hr
  have hb := (mem_rnsL.1 hr).2
  obtain ⟨h1, h2⟩ := lv_ends hv (base_len hv) hb
  have a := (base_mem hv hw _).1 (h1 w hw).1
  have b := (base_mem hv hw _).1 (h2 w hw).1
  exact ⟨a.1.1, hb w hw, b.1.2⟩
theorem h_bd {A : List (List Int)} (hA : ∀ x ∈ A, Bd x) (hne : 0 < A.length) {w : Nat} (hw : w < 10) : ∀ k, k ≤ A.length → (-1000 ≤ hLoTo A w k ∧ hLoTo A w k ≤ 1000) ∧ (-1000 ≤ hHiTo A w k ∧ hHiTo A w k ≤ 1000)
  | 0, _ => by
    have := (hA _ (getD_mem (A := A) (i := 0) hne)).2
    exact ⟨this w (by omega), this (10 + w) (by omega)⟩
  | k + 1, hk => by
    have ih := h_bd hA hne hw k (by omega)
    have := (hA _ (getD_mem (A := A) (i := k) (by omega))).2
    have h1 := this w (by omega); have h2 := this (10 + w) (by omega)
    simp only [hLoTo, hHiTo]
    omega
theorem widTo_bd {A : List (List Int)} (hA : ∀ x ∈ A, Bd x) (hne : 0 < A.length) : ∀ k : Nat, k ≤ 10 → -(2000 * (k : Int)) ≤ widTo A k ∧ widTo A k ≤ 2000 * (k : Int)
  | 0, _ => by simp [widTo]
  | k + 1, hk => by
    have ih := widTo_bd hA hne k (by omega)
    have := h_bd hA hne (w := k) (by omega) A.length (Nat.le_refl _)
    simp only [widTo, hLo, hHi]
    omega
theorem Bd.one {L : List Int} (h : Bd L) {w : Nat} {n : Int} (hn : -1000 ≤ n ∧ n ≤ 1000) : Bd (oneW L w n) := (h.set hn).set hn
theorem wide_bd {s : Sp} {L : List Int} (hv : SpP s) (hL : Bd L) : -20000 ≤ wideP s L ∧ wideP s L ≤ 20000 := by
  unfold wideP
  split
  · omega
  · rename_i hne
    have h := hv.1; unfold HeadP at h
    have := widTo_bd (A := lvsL s L (rnsL s L)) (fun x hx => by
      obtain ⟨r, _, rfl⟩ := List.mem_map.1 hx
      exact hL.lv hv r) (by simp only [lvsL, List.length_map]; exact List.length_pos_iff.2 hne) s.weeks.toNat (by omega)
    omega
theorem leftTo_bd {s : Sp} (hv : SpP s) {w : Nat} (hw : w < s.weeks.toNat) : ∀ k, k ≤ leftN s w → 0 ≤ leftTo s w k ∧ leftTo s w k ≤ 20000
  | 0, _ => by simp [leftTo]
  | k + 1, hk => by
    have ih := leftTo_bd hv hw k (by omega)
    have h := hv.1; unfold HeadP at h
    have hb := baseL_Bd hv
    have h1 := hb.2 w (by omega); have h2 := hb.2 (10 + w) (by omega)
    unfold leftN at hk
    have := wide_bd hv (hb.one (w := w) (n := G (baseL s) w + k) (by omega))
    simp only [leftTo]
    omega
/-! ### rows, one behind the other -/
theorem takeAt_of {l : List Value} : ∀ {k off : Nat} {vs : List Value}, vs.length = k → (∀ j, j < k → l[off + j]? = vs[j]?) → takeAt l off k = some vs
  | 0, _, vs, hl, _ => by
    have : vs = [] := List.eq_nil_of_length_eq_zero hl
    subst this; rfl
  | k + 1, off, v :: vs, hl, h => by
    have h0 := h 0 (by omega)
    have ih := takeAt_of (l := l) (k := k) (off := off + 1) (vs := vs) (by simpa using hl) (fun j hj => by
      have := h (j + 1) (by omega)
      simpa [Nat.add_assoc, Nat.add_comm 1 j] using this)
    simp only [takeAt]
    rw [show l[off]? = some v from by simpa using h0, ih]
theorem takeRow {A : List (List Int)} (hA : ∀ x ∈ A, x.length = 20) {i off n o' : Nat} (hi : i < A.length) (ho : off + n ≤ 20) (e : o' = i * 20 + off) : takeAt (rowsI A).flatten o' n = some (ints (endL (A.getD i []) off n)) := by
  subst e
  have hl := len20 hA hi
  refine takeAt_of (by simp only [length_ints, endL, List.length_take, List.length_drop, hl]; omega) fun j hj => ?_
  have hrow : (rowsI A)[i]? = some (ints (A.getD i [])) := by simp [rowsI, hi]
  have h1 : (ints (A.getD i []))[off + j]? = some (.int .i64 (G (A.getD i []) (off + j))) := Go.X.intsAtX rfl (by omega)
  have := flatten_at (k := 20) (by intro q hq; obtain ⟨x, hx, rfl⟩ := List.mem_map.1 hq; simp [hA x hx]) hrow h1
  rw [Nat.add_assoc, this]
  have h2 := endL_at (X := A.getD i []) (off := off) (n := n) hj
  rw [← h2]
  exact (Go.X.intsAtX rfl (by simp only [endL, List.length_take, List.length_drop, hl]; omega)).symm
end Go.S

/- The calculus' rules: a field of a value. Nothing of the program stands here. -/
namespace Go.X
open Go Go.RowKit
/-- A field of one cell: where it lies. -/
def fieldV (P : Program) (t : TypeId) (i : Nat) : Option Nat := match P.underlying t with
  | some (.struct fs) => (match fs[i]? with
    | some f => (match shapeT P f.type with | some none => some f.offset | _ => none)
    | none => none)
  | _ => none
section
variable {C : Cx} {Q : Post} {env : Env} {own : Own} {D : List Deferred} {ops : Array Oper} {rest : List Oper}
variable {d : Nat} {ty : TypeId} {pos : String} {aft : Array Edge} {g : Option (Nat × Bool)} {x y : Operand} {T T' : TypeId}
theorem SXL.field1 {cs : List Value} {i o : Nat} {v : Value} (hf : fieldV C.P T i = some o) (hx : ev env x = some (.agg ⟨cs⟩)) (hv : cs[o]? = some v)
    (h : SXL C ops rest Q ⟨(d, v) :: env, own, D⟩) (hd : Nat.blt d C.n = true := by rfl) (hw : Wanted ops g env = some true := by rfl) :
    SXL C ops ({ dst := some d, op := .field T x i, type := ty, pos, after := aft, guard := g } :: rest) Q ⟨env, own, D⟩ :=
  SXL.val rfl hd hw (fun _ e => by cases e) (fun a w ha hI => by
    unfold fieldV at hf
    split at hf
    · rename_i fs hu
      split at hf
      · rename_i f hfi
        split at hf
        · rename_i hs
          simp at hf; subst hf
          simp only [execOp, ha.eval hx]
          refine run_val ?_
          simp [Instr.field, run_underlying hu, hfi, Result.andThen, part, run_isAgg hs, asAgg, hv]
        · cases hf
      · cases hf
    · cases hf) h
end
end Go.X

/- The calculus' rules: elements of slices of the call's own. Nothing of the program stands here. -/
namespace Go.X
open Go Go.RowKit
section
variable {C : Cx} {Q : Post} {env : Env} {own : Own} {D : List Deferred} {ops : Array Oper} {rest : List Oper}
variable {d : Nat} {ty : TypeId} {pos : String} {aft : Array Edge} {g : Option (Nat × Bool)} {x y : Operand} {T T' : TypeId}
theorem SXL.indexSl (j : Nat) {r : Sl} {n s : Nat} {k : IntKind} {i : Int} {E : TypeId} {cells : List Value} (he : elemP C.P T = some (none, s)) (hx : ev env x = some (r.val n)) (hy : ev env y = some (.int k i)) (hb : 0 ≤ i ∧ i < n)
    (_hi : own[j]? = some (r.ent E cells)) (hok : r.Ok n s cells)
    (h : ∀ b, r.blk = some b → SXL C ops rest Q ⟨(d, .pointer (some ⟨b, 0 + i.toNat * s, none⟩)) :: env, own, D⟩) (hd : Nat.blt d C.n = true := by rfl) (hw : Wanted ops g env = some true := by rfl) :
    SXL C ops ({ dst := some d, op := .indexAddr T x y, type := ty, pos, after := aft, guard := g } :: rest) Q ⟨env, own, D⟩ := by
  obtain ⟨b, hbl⟩ := hok.some (show 0 < n by omega)
  refine SXL.indexR he hx hy (ao := r.addr) (b := b) (off := 0) (by simp [Sl.addr, hbl]) hb (h b hbl) hd hw
theorem SXL.loadSl (j : Nat) {r : Sl} {n s k off b : Nat} {E : TypeId} {cells vs : List Value} (hT : shapeT C.P T = some (some k)) (hx : ev env x = some (.pointer (some ⟨b, off, none⟩))) (hbl : r.blk = some b)
    (hi : own[j]? = some (r.ent E cells)) (_hok : r.Ok n s cells) (hv : takeAt cells off k = some vs)
    (h : SXL C ops rest Q ⟨(d, .agg ⟨vs⟩) :: env, own, D⟩) (hd : Nat.blt d C.n = true := by rfl) (hw : Wanted ops g env = some true := by rfl) :
    SXL C ops ({ dst := some d, op := .load T x, type := ty, pos, after := aft, guard := g } :: rest) Q ⟨env, own, D⟩ := by
  have hm : Mem C.w0 own b off vs := by
    have hent : r.ent E cells = (b, .cells ⟨cells ++ r.sp⟩ E (0, 0)) := by simp [Sl.ent, hbl]
    rw [hent] at hi
    exact Mem.own (k := k) hi (takeAt_append hv)
  exact SXL.loadN hT hx hm (takeAt_spec hv).1 h hd hw
theorem SXL.loadSl1 (j : Nat) {r : Sl} {n s off b : Nat} {E : TypeId} {cells : List Value} {v : Value} (hT : shapeT C.P T = some none) (hx : ev env x = some (.pointer (some ⟨b, off, none⟩))) (hbl : r.blk = some b)
    (hi : own[j]? = some (r.ent E cells)) (_hok : r.Ok n s cells) (hv : cells[off]? = some v)
    (h : SXL C ops rest Q ⟨(d, v) :: env, own, D⟩) (hd : Nat.blt d C.n = true := by rfl) (hw : Wanted ops g env = some true := by rfl) :
    SXL C ops ({ dst := some d, op := .load T x, type := ty, pos, after := aft, guard := g } :: rest) Q ⟨env, own, D⟩ := by
  have hm : Mem C.w0 own b off [v] := by
    have hent : r.ent E cells = (b, .cells ⟨cells ++ r.sp⟩ E (0, 0)) := by simp [Sl.ent, hbl]
    rw [hent] at hi
    exact Mem.own (k := 1) hi (takeAt_append (takeAt_one hv))
  exact SXL.load1 hT hx hm h hd hw
theorem srcSl {w0 : World} {r : Sl} {E : TypeId} {cells vs : List Value} {b off k m : Nat} (j : Nat) (hbl : r.blk = some b) (hi : own[j]? = some (r.ent E cells)) (hv : takeAt cells off k = some vs) : Src w0 own (some ⟨b, off, none⟩) m vs := by
  refine .inr ⟨b, off, rfl, ?_⟩
  have hent : r.ent E cells = (b, .cells ⟨cells ++ r.sp⟩ E (0, 0)) := by simp [Sl.ent, hbl]
  rw [hent] at hi
  exact Mem.own (k := k) hi (takeAt_append hv)
end
end Go.X

/- The walks of functions. -/
namespace Go.Proofs.YtknflipongbngaaDoor
open Go.X Go.S Go.RowKit
theorem rfails_any (s : Sp) (bo ro : Option Addr) (bc rc : Nat) (need : Int) (w : World) (hs : SpAt w s bo ro) :
    CallsR Tryd.prog 43 [.agg ⟨[.int .i64 s.weeks, .int .i64 s.most, .int .i64 s.fall, .int .i64 s.a0, .int .i64 s.a1, .int .i64 s.w0, .int .i64 s.w1, (.slice bo s.book.length bc), (.slice ro s.reads.length rc)]⟩, .int .i64 need] w (fun v _ => v = .tuple ⟨[.int .i64 (wkV s (loI s need)), .int .i64 (wkE s (loI s need))]⟩) := by
  refine CallsR.of_SX (n := 32) (rs := [.tmp 4, .tmp 5]) Tryd.func43 rfl rfl rfl rfl ?_
  show SX _ _ _ ⟨[(0, .agg ⟨[.int .i64 s.weeks, .int .i64 s.most, .int .i64 s.fall, .int .i64 s.a0, .int .i64 s.a1, .int .i64 s.w0, .int .i64 s.w1, (.slice bo s.book.length bc), (.slice ro s.reads.length rc)]⟩), (1, .int .i64 need)], [], []⟩
  refine SX.seq ?_
  refine SX.region ?_
  refine SXL.box rfl rfl ?_; intro b0
  refine SXL.assign rfl ?_
  refine SXL.assign rfl ?_
  refine SXL.nil ?_
  refine thenQ.normal ?_
  refine SX.seq ?_
  refine SX.region ?_
  refine SXL.loadNo 0 sh_27 rfl rfl rfl ?_
  refine SXL.callF (RnR3 (toldL s 0) (toldA s 0) (toldE s 0)) fn_77 rfl (fun w hI => told_any s bo ro _ _ 0 _ (hs.inv hI)) ?_; rintro _ _ ⟨r1, r2, o1, o2, rfl, rfl⟩
  refine SXL.move rfl ?_
  refine SXL.extract rfl rfl ?_
  refine SXL.extract rfl rfl ?_
  refine SXL.extract rfl rfl ?_
  refine SXL.assign rfl ?_
  refine SXL.assign rfl ?_
  refine SXL.assign rfl ?_
  refine SXL.nil ?_
  refine thenQ.normal ?_
  refine SX.seq ?_
  refine SX.seq ?_
  refine SX.region ?_
  refine SXL.move rfl ?_
  refine SXL.neqI rfl rfl ?_
  refine SXL.nil ?_
  refine thenQ.normal ?_
  refine SX.condP rfl (fun c17 => ?_) (fun c17 => ?_)
  · refine SX.seq ?_
    refine SX.region ?_
    refine SXL.move rfl ?_
    refine SXL.assign rfl ?_
    refine SXL.assign rfl ?_
    refine SXL.nil ?_
    refine thenQ.normal ?_
    refine SX.ret ?_
    refine thenQ.ret ?_
    refine retQ.dead [] rfl ?_
    refine retQ.two (ResAt.tmp rfl) (ResAt.tmp rfl) ?_
    rw [wkV, wkE, if_pos c17, if_pos c17]
  · refine SX.skip ?_
    refine thenQ.normal ?_
    refine SX.seq ?_
    refine SX.seq ?_
    have he : toldE s 0 = 0 := Decidable.not_not.1 c17
    obtain ⟨hv, hwk, hne⟩ := toldE_valid he
    have hH := hv.1
    unfold HeadP at hH
    have hA0 : 0 < (toldA s 0).length := by rw [told_lens]; exact toldL_pos he
    have hA21 := toldA_max he
    have hL21 := told_lens (s := s) (week := 0)
    refine SX.region ?_
    refine SXL.assign rfl ?_
    refine SXL.nil ?_
    refine thenQ.normal ?_
    refine SX.block ?_
    refine SX.loopG (α := Nat) [1, 2, 4, 5, 7] rfl (fun k => [(9, .int .i64 ((k : Int)))]) (fun k => []) (fun k => k ≤ s.weeks.toNat ∧ ∀ i, i < k → ¬hLo (toldA s 0) i < need) (fun k => s.weeks.toNat - k) 0 ⟨Nat.zero_le _, fun i h => absurd h (Nat.not_lt_zero _)⟩ ⟨rfl, trivial⟩ rfl ?_
    rintro k ⟨hk, hall⟩
    refine SX.seq ?_
    refine SX.seq ?_
    refine SX.region ?_
    refine SXL.move rfl ?_
    refine SXL.fieldAddr fp_27_0 rfl ?_
    refine SXL.load1o 0 sh_3 rfl rfl rfl ?_
    refine SXL.lss rfl rfl ?_
    refine SXL.nil ?_
    refine thenQ.normal ?_
    refine SX.condP rfl (fun c22 => ?_) (fun c22 => ?_)
    · refine SX.skip ?_
      refine thenQ.normal ?_
      refine SX.seq ?_
      refine SX.block ?_
      refine SX.seq ?_
      refine SX.region ?_
      refine SXL.move rfl ?_
      refine SXL.move rfl ?_
      refine SXL.call1 (.agg ⟨[.int .i64 ((hLo (toldA s 0) k)), .int .i64 ((hHi (toldA s 0) k))]⟩) fn_79 rfl (fun w hI => hull_any (toldA s 0) (toldA_len 0) hA0 hA21 k (by omega) _ _ _ (slRows (i := 2) hI (toldA_len 0) o2 rfl)) ?_
      refine SXL.field1 (o := 0) (by kernel_rfl) rfl rfl ?_
      refine SXL.move rfl ?_
      refine SXL.lss rfl rfl ?_
      refine SXL.nil ?_
      refine thenQ.normal ?_
      refine SX.condP rfl (fun c30 => ?_) (fun c30 => ?_)
      · refine SX.seq ?_
        refine SX.region ?_
        refine SXL.move rfl ?_
        refine SXL.assign rfl ?_
        refine SXL.assign rfl ?_
        refine SXL.nil ?_
        refine thenQ.normal ?_
        refine SX.ret ?_
        refine blockQ.ret ?_
        refine thenQ.ret ?_
        refine thenQ.ret ?_
        refine blockQ.ret ?_
        refine thenQ.ret ?_
        refine retQ.dead [] rfl ?_
        refine retQ.two (ResAt.tmp rfl) (ResAt.tmp rfl) ?_
        have hi : loI s need = (k : Int) := idxF_some (p := fun w => hLo (toldA s 0) w < need) (by omega) c30 hall
        rw [wkV, wkE, hi, if_neg c17, if_neg c17, if_pos (by omega), if_pos (by omega)]
      · refine SX.skip ?_
        refine blockQ.normal ?_
        refine thenQ.normal ?_
        refine SX.region ?_
        refine SXL.move rfl ?_
        refine SXL.add rfl rfl (by omega) ?_
        refine SXL.assign rfl ?_
        refine SXL.nil ?_
        refine thenQ.normal ?_
        refine ⟨k + 1, Meets.mk _ ⟨rfl, trivial⟩ ⟨rfl, rfl, rfl, rfl, rfl, trivial⟩ rfl, ⟨by omega, fun i hi => by
          by_cases e : i = k
          · subst e; exact c30
          · exact hall i (by omega)⟩, (by omega)⟩
    · refine SX.exit ?_
      refine thenQ.exit ?_
      refine thenQ.exit ?_
      refine blockQ.exit ?_
      refine thenQ.normal ?_
      refine SX.seq ?_
      obtain rfl : k = s.weeks.toNat := by omega
      refine SX.region ?_
      refine SXL.assign rfl ?_
      refine SXL.assign rfl ?_
      refine SXL.nil ?_
      refine thenQ.normal ?_
      refine SX.ret ?_
      refine retQ.dead [] rfl ?_
      refine retQ.two (ResAt.tmp rfl) (ResAt.tmp rfl) ?_
      have hi : loI s need = -1 := idxF_none (p := fun w => hLo (toldA s 0) w < need) hall
      rw [wkV, wkE, hi, if_neg c17, if_neg c17, if_neg (by omega), if_neg (by omega)]
theorem rsurely_any (s : Sp) (bo ro : Option Addr) (bc rc : Nat) (need : Int) (w : World) (hs : SpAt w s bo ro) :
    CallsR Tryd.prog 45 [.agg ⟨[.int .i64 s.weeks, .int .i64 s.most, .int .i64 s.fall, .int .i64 s.a0, .int .i64 s.a1, .int .i64 s.w0, .int .i64 s.w1, (.slice bo s.book.length bc), (.slice ro s.reads.length rc)]⟩, .int .i64 need] w (fun v _ => v = .tuple ⟨[.int .i64 (wkV s (hiI s need)), .int .i64 (wkE s (hiI s need))]⟩) := by
  refine CallsR.of_SX (n := 32) (rs := [.tmp 4, .tmp 5]) Tryd.func45 rfl rfl rfl rfl ?_
  show SX _ _ _ ⟨[(0, .agg ⟨[.int .i64 s.weeks, .int .i64 s.most, .int .i64 s.fall, .int .i64 s.a0, .int .i64 s.a1, .int .i64 s.w0, .int .i64 s.w1, (.slice bo s.book.length bc), (.slice ro s.reads.length rc)]⟩), (1, .int .i64 need)], [], []⟩
  refine SX.seq ?_
  refine SX.region ?_
  refine SXL.box rfl rfl ?_; intro b0
  refine SXL.assign rfl ?_
  refine SXL.assign rfl ?_
  refine SXL.nil ?_
  refine thenQ.normal ?_
  refine SX.seq ?_
  refine SX.region ?_
  refine SXL.loadNo 0 sh_27 rfl rfl rfl ?_
  refine SXL.callF (RnR3 (toldL s 0) (toldA s 0) (toldE s 0)) fn_77 rfl (fun w hI => told_any s bo ro _ _ 0 _ (hs.inv hI)) ?_; rintro _ _ ⟨r1, r2, o1, o2, rfl, rfl⟩
  refine SXL.move rfl ?_
  refine SXL.extract rfl rfl ?_
  refine SXL.extract rfl rfl ?_
  refine SXL.extract rfl rfl ?_
  refine SXL.assign rfl ?_
  refine SXL.assign rfl ?_
  refine SXL.assign rfl ?_
  refine SXL.nil ?_
  refine thenQ.normal ?_
  refine SX.seq ?_
  refine SX.seq ?_
  refine SX.region ?_
  refine SXL.move rfl ?_
  refine SXL.neqI rfl rfl ?_
  refine SXL.nil ?_
  refine thenQ.normal ?_
  refine SX.condP rfl (fun c17 => ?_) (fun c17 => ?_)
  · refine SX.seq ?_
    refine SX.region ?_
    refine SXL.move rfl ?_
    refine SXL.assign rfl ?_
    refine SXL.assign rfl ?_
    refine SXL.nil ?_
    refine thenQ.normal ?_
    refine SX.ret ?_
    refine thenQ.ret ?_
    refine retQ.dead [] rfl ?_
    refine retQ.two (ResAt.tmp rfl) (ResAt.tmp rfl) ?_
    rw [wkV, wkE, if_pos c17, if_pos c17]
  · refine SX.skip ?_
    refine thenQ.normal ?_
    refine SX.seq ?_
    refine SX.seq ?_
    have he : toldE s 0 = 0 := Decidable.not_not.1 c17
    obtain ⟨hv, hwk, hne⟩ := toldE_valid he
    have hH := hv.1
    unfold HeadP at hH
    have hA0 : 0 < (toldA s 0).length := by rw [told_lens]; exact toldL_pos he
    have hA21 := toldA_max he
    have hL21 := told_lens (s := s) (week := 0)
    refine SX.region ?_
    refine SXL.assign rfl ?_
    refine SXL.nil ?_
    refine thenQ.normal ?_
    refine SX.block ?_
    refine SX.loopG (α := Nat) [1, 2, 4, 5, 7] rfl (fun k => [(9, .int .i64 ((k : Int)))]) (fun k => []) (fun k => k ≤ s.weeks.toNat ∧ ∀ i, i < k → ¬hHi (toldA s 0) i < need) (fun k => s.weeks.toNat - k) 0 ⟨Nat.zero_le _, fun i h => absurd h (Nat.not_lt_zero _)⟩ ⟨rfl, trivial⟩ rfl ?_
    rintro k ⟨hk, hall⟩
    refine SX.seq ?_
    refine SX.seq ?_
    refine SX.region ?_
    refine SXL.move rfl ?_
    refine SXL.fieldAddr fp_27_0 rfl ?_
    refine SXL.load1o 0 sh_3 rfl rfl rfl ?_
    refine SXL.lss rfl rfl ?_
    refine SXL.nil ?_
    refine thenQ.normal ?_
    refine SX.condP rfl (fun c22 => ?_) (fun c22 => ?_)
    · refine SX.skip ?_
      refine thenQ.normal ?_
      refine SX.seq ?_
      refine SX.block ?_
      refine SX.seq ?_
      refine SX.region ?_
      refine SXL.move rfl ?_
      refine SXL.move rfl ?_
      refine SXL.call1 (.agg ⟨[.int .i64 ((hLo (toldA s 0) k)), .int .i64 ((hHi (toldA s 0) k))]⟩) fn_79 rfl (fun w hI => hull_any (toldA s 0) (toldA_len 0) hA0 hA21 k (by omega) _ _ _ (slRows (i := 2) hI (toldA_len 0) o2 rfl)) ?_
      refine SXL.field1 (o := 1) (by kernel_rfl) rfl rfl ?_
      refine SXL.move rfl ?_
      refine SXL.lss rfl rfl ?_
      refine SXL.nil ?_
      refine thenQ.normal ?_
      refine SX.condP rfl (fun c30 => ?_) (fun c30 => ?_)
      · refine SX.seq ?_
        refine SX.region ?_
        refine SXL.move rfl ?_
        refine SXL.assign rfl ?_
        refine SXL.assign rfl ?_
        refine SXL.nil ?_
        refine thenQ.normal ?_
        refine SX.ret ?_
        refine blockQ.ret ?_
        refine thenQ.ret ?_
        refine thenQ.ret ?_
        refine blockQ.ret ?_
        refine thenQ.ret ?_
        refine retQ.dead [] rfl ?_
        refine retQ.two (ResAt.tmp rfl) (ResAt.tmp rfl) ?_
        have hi : hiI s need = (k : Int) := idxF_some (p := fun w => hHi (toldA s 0) w < need) (by omega) c30 hall
        rw [wkV, wkE, hi, if_neg c17, if_neg c17, if_pos (by omega), if_pos (by omega)]
      · refine SX.skip ?_
        refine blockQ.normal ?_
        refine thenQ.normal ?_
        refine SX.region ?_
        refine SXL.move rfl ?_
        refine SXL.add rfl rfl (by omega) ?_
        refine SXL.assign rfl ?_
        refine SXL.nil ?_
        refine thenQ.normal ?_
        refine ⟨k + 1, Meets.mk _ ⟨rfl, trivial⟩ ⟨rfl, rfl, rfl, rfl, rfl, trivial⟩ rfl, ⟨by omega, fun i hi => by
          by_cases e : i = k
          · subst e; exact c30
          · exact hall i (by omega)⟩, (by omega)⟩
    · refine SX.exit ?_
      refine thenQ.exit ?_
      refine thenQ.exit ?_
      refine blockQ.exit ?_
      refine thenQ.normal ?_
      refine SX.seq ?_
      obtain rfl : k = s.weeks.toNat := by omega
      refine SX.region ?_
      refine SXL.assign rfl ?_
      refine SXL.assign rfl ?_
      refine SXL.nil ?_
      refine thenQ.normal ?_
      refine SX.ret ?_
      refine retQ.dead [] rfl ?_
      refine retQ.two (ResAt.tmp rfl) (ResAt.tmp rfl) ?_
      have hi : hiI s need = -1 := idxF_none (p := fun w => hHi (toldA s 0) w < need) hall
      rw [wkV, wkE, hi, if_neg c17, if_neg c17, if_neg (by omega), if_neg (by omega)]
/-- A rain, a list, an error. -/
structure IsR3 (r : Int) (l : List Int) (e : Int) (v : Value) (own : X.Own) : Prop where
  ex : ∃ q : Sl, q.Ok l.length 1 (ints l) ∧ v = .tuple ⟨[.int .i64 r, q.val l.length, .int .i64 e]⟩ ∧ own = [q.ent 3 (ints l)]
theorem sumTo_end {s : Sp} (he : toldE s 0 = 0) {k off : Nat} (hk : k < (toldA s 0).length) (ho : off ≤ 10) : sumTo (endL ((toldA s 0).getD k []) off s.weeks.toNat) s.weeks.toNat = sumL (endsL s off k) := by
  have hv := (toldE_valid he).1.1
  unfold HeadP at hv
  rw [sumL, endsL, endL_len (toldA_len 0 _ (getD_mem hk)) ho (by omega)]
theorem sum_bd {s : Sp} (he : toldE s 0 = 0) {k off : Nat} (hk : k < (toldA s 0).length) (ho : off ≤ 10) {j : Nat} (hj : j ≤ s.weeks.toNat) : -10000 ≤ sumTo (endL ((toldA s 0).getD k []) off s.weeks.toNat) j ∧ sumTo (endL ((toldA s 0).getD k []) off s.weeks.toNat) j ≤ 10000 := by
  have hv := (toldE_valid he).1.1
  unfold HeadP at hv
  have hb := toldA_bd he _ (getD_mem hk)
  have hl := endL_len (toldA_len 0 _ (getD_mem hk)) ho (n := s.weeks.toNat) (by omega)
  have := sumTo_bd (l := endL ((toldA s 0).getD k []) off s.weeks.toNat) (fun i hi => by rw [hl] at hi; rw [endL_at hi]; exact hb.2 _ (by omega)) j (by omega)
  omega
theorem sum_nonneg {s : Sp} (he : toldE s 0 = 0) {k : Nat} (hk : k < (toldA s 0).length) : ∀ j, j ≤ s.weeks.toNat → 0 ≤ sumTo (endL ((toldA s 0).getD k []) 10 s.weeks.toNat) j
  | 0, _ => Int.le_refl _
  | j + 1, hj => by
    have ih := sum_nonneg he hk j (by omega)
    have := toldA_nonneg he hk (w := j) (by omega)
    simp only [sumTo]
    rw [endL_at (by omega)]
    omega
set_option maxHeartbeats 3000000 in
set_option maxRecDepth 100000 in
theorem rpoor_any (s : Sp) (bo ro : Option Addr) (bc rc : Nat) (w : World) (hs : SpAt w s bo ro) :
    CallsR Tryd.prog 47 [.agg ⟨[.int .i64 s.weeks, .int .i64 s.most, .int .i64 s.fall, .int .i64 s.a0, .int .i64 s.a1, .int .i64 s.w0, .int .i64 s.w1, (.slice bo s.book.length bc), (.slice ro s.reads.length rc)]⟩] w (IsR3 (bestR s (poorI s)) (bestL s 0 (poorI s)) (toldE s 0)) := by
  refine CallsR.of_SX (n := 65) (rs := [.tmp 2, .tmp 3, .tmp 4]) Tryd.func47 rfl rfl rfl rfl ?_
  show SX _ _ _ ⟨[(0, .agg ⟨[.int .i64 s.weeks, .int .i64 s.most, .int .i64 s.fall, .int .i64 s.a0, .int .i64 s.a1, .int .i64 s.w0, .int .i64 s.w1, (.slice bo s.book.length bc), (.slice ro s.reads.length rc)]⟩)], [], []⟩
  refine SX.seq ?_
  refine SX.region ?_
  refine SXL.box rfl rfl ?_; intro b0
  refine SXL.assign rfl ?_
  refine SXL.assign rfl ?_
  refine SXL.assign rfl ?_
  refine SXL.nil ?_
  refine thenQ.normal ?_
  refine SX.seq ?_
  refine SX.region ?_
  refine SXL.loadNo 0 sh_27 rfl rfl rfl ?_
  refine SXL.callF (RnR3 (toldL s 0) (toldA s 0) (toldE s 0)) fn_77 rfl (fun w hI => told_any s bo ro _ _ 0 _ (hs.inv hI)) ?_; rintro _ _ ⟨r1, r2, o1, o2, rfl, rfl⟩
  refine SXL.move rfl ?_
  refine SXL.extract rfl rfl ?_
  refine SXL.extract rfl rfl ?_
  refine SXL.extract rfl rfl ?_
  refine SXL.assign rfl ?_
  refine SXL.assign rfl ?_
  refine SXL.assign rfl ?_
  refine SXL.nil ?_
  refine thenQ.normal ?_
  refine SX.seq ?_
  refine SX.seq ?_
  refine SX.region ?_
  refine SXL.move rfl ?_
  refine SXL.neqI rfl rfl ?_
  refine SXL.nil ?_
  refine thenQ.normal ?_
  refine SX.condP rfl (fun c21 => ?_) (fun c21 => ?_)
  · refine SX.seq ?_
    refine SX.region ?_
    refine SXL.move rfl ?_
    refine SXL.assign rfl ?_
    refine SXL.assign rfl ?_
    refine SXL.assign rfl ?_
    refine SXL.nil ?_
    refine thenQ.normal ?_
    refine SX.ret ?_
    refine thenQ.ret ?_
    refine retQ.dead [Sl.nil.ent 3 []] rfl ?_
    refine retQ.three (ResAt.tmp rfl) (ResAt.tmp rfl) (ResAt.tmp rfl) ?_
    rw [bestR, bestL, if_neg c21, if_neg c21]; exact ⟨Sl.nil, Sl.Ok.none _, rfl, rfl⟩
  · refine SX.skip ?_
    refine thenQ.normal ?_
    refine SX.seq ?_
    have he : toldE s 0 = 0 := Decidable.not_not.1 c21
    obtain ⟨hv, hwk, hne⟩ := toldE_valid he
    have hH := hv.1
    unfold HeadP at hH
    have hA0 : 0 < (toldA s 0).length := by rw [told_lens]; exact toldL_pos he
    have hA21 := toldA_max he
    have hL21 := told_lens (s := s) (week := 0)
    refine SX.region ?_
    refine SXL.assign rfl ?_
    refine SXL.assign rfl ?_
    refine SXL.nil ?_
    refine thenQ.normal ?_
    refine SX.seq ?_
    refine SX.seq ?_
    refine SX.region ?_
    refine SXL.move rfl ?_
    refine SXL.len is_125 rfl ?_
    refine SXL.move rfl ?_
    refine SXL.nil ?_
    refine thenQ.normal ?_
    refine SX.block ?_
    refine SX.loopG (α := Nat) [1, 2, 3, 4, 5, 6, 23, 24] rfl (fun k => [(25, .int .i64 ((k : Int))), (8, .int .i64 (((bI (fun i => sumL (endsL s 0 i)) k : Nat) : Int))), (9, .int .i64 ((bV 0 (fun i => sumL (endsL s 0 i)) k)))]) (fun k => []) (fun k => k ≤ (toldA s 0).length) (fun k => (toldA s 0).length - k) 0 (Nat.zero_le _) ⟨rfl, rfl, rfl, trivial⟩ rfl ?_
    rintro k hkA
    refine SX.seq ?_
    refine SX.region ?_
    refine SXL.lss rfl rfl ?_
    refine SXL.nil ?_
    refine thenQ.normal ?_
    refine SX.seq ?_
    refine SX.condP rfl (fun c26 => ?_) (fun c26 => ?_)
    · refine SX.skip ?_
      refine thenQ.normal ?_
      refine SX.seq ?_
      refine SX.block ?_
      refine SX.seq ?_
      have hk : k < (toldA s 0).length := by omega
      have hl20 := len20 (toldA_len 0) hk
      refine SX.region ?_
      refine SXL.move rfl ?_
      refine SXL.indexSl 2 el_125 rfl rfl (by omega) rfl o2 ?_; intro b7 hb7
      refine SXL.loadSl 2 sh_156 rfl hb7 rfl o2 (takeRow (toldA_len 0) (i := k) (off := 0) (n := 20) hk (by omega) (by omega)) ?_; rw [show endL ((toldA s 0).getD k []) 0 20 = ((toldA s 0).getD k []) from by rw [endL, List.drop_zero, List.take_of_length_le (by omega)]]
      refine SXL.alloc zp_156 ?_; intro b3
      refine SXL.assign rfl ?_
      refine SXL.store 3 sz_156 rfl rfl rfl rfl (by simp only [length_ints, hl20]) (putAt_all _ _ (by simp only [length_ints, hl20]; rfl)) ?_ (ints_isOne _)
      refine SXL.nil ?_
      refine thenQ.normal ?_
      refine SX.seq ?_
      refine SX.region ?_
      refine SXL.assign rfl ?_
      refine SXL.nil ?_
      refine thenQ.normal ?_
      refine SX.seq ?_
      refine SX.seq ?_
      refine SX.region ?_
      refine SXL.assign rfl ?_
      refine SXL.nil ?_
      refine thenQ.normal ?_
      refine SX.block ?_
      refine SX.loopG (α := Nat) [1, 2, 3, 4, 5, 6, 8, 9, 10, 11, 23, 24, 25] rfl (fun j => [(13, .int .i64 ((j : Int))), (12, .int .i64 ((sumTo (endL ((toldA s 0).getD k []) 0 s.weeks.toNat) j)))]) (fun j => []) (fun j => j ≤ s.weeks.toNat) (fun j => s.weeks.toNat - j) 0 (Nat.zero_le _) ⟨rfl, rfl, trivial⟩ rfl ?_
      rintro j hjN
      refine SX.seq ?_
      refine SX.seq ?_
      refine SX.region ?_
      refine SXL.move rfl ?_
      refine SXL.fieldAddr fp_27_0 rfl ?_
      refine SXL.load1o 0 sh_3 rfl rfl rfl ?_
      refine SXL.lss rfl rfl ?_
      refine SXL.nil ?_
      refine thenQ.normal ?_
      refine SX.condP rfl (fun c33 => ?_) (fun c33 => ?_)
      · refine SX.skip ?_
        refine thenQ.normal ?_
        refine SX.seq ?_
        refine SX.block ?_
        have hj : j < s.weeks.toNat := by omega
        have hxb := (toldA_bd he _ (getD_mem hk)).2 (0 + j) (by omega)
        have hsb := sum_bd he hk (off := 0) (by omega) (j := j) (by omega)
        refine SX.region ?_
        refine SXL.move rfl ?_
        refine SXL.move rfl ?_
        refine SXL.fieldAddr fp_156_0 rfl ?_
        refine SXL.indexA el_154 rfl rfl (by omega) ?_
        refine SXL.load1o 3 sh_3 rfl rfl (intsAtX (i := 0 + j) (by simp <;> omega) (by omega)) ?_
        refine SXL.add rfl rfl (by omega) ?_
        refine SXL.assign rfl ?_
        refine SXL.nil ?_
        refine blockQ.normal ?_
        refine thenQ.normal ?_
        refine SX.region ?_
        refine SXL.move rfl ?_
        refine SXL.add rfl rfl (by omega) ?_
        refine SXL.assign rfl ?_
        refine SXL.nil ?_
        refine thenQ.normal ?_
        refine ⟨j + 1, Meets.mk _ ⟨rfl, congrArg (fun z => some (Value.int .i64 z)) (show sumTo (endL ((toldA s 0).getD k []) 0 s.weeks.toNat) j + G ((toldA s 0).getD k []) (0 + j) = sumTo (endL ((toldA s 0).getD k []) 0 s.weeks.toNat) (j + 1) by rw [sumTo, endL_at (by omega)]), trivial⟩ ⟨rfl, rfl, rfl, rfl, rfl, rfl, rfl, rfl, rfl, rfl, rfl, rfl, rfl, trivial⟩ rfl, (by omega), (by omega)⟩
      · refine SX.exit ?_
        refine thenQ.exit ?_
        refine thenQ.exit ?_
        refine blockQ.exit ?_
        refine thenQ.normal ?_
        refine SX.seq ?_
        obtain rfl : j = s.weeks.toNat := by omega
        have hse := sumTo_end he hk (off := 0) (by omega)
        refine SX.region ?_
        refine SXL.move rfl ?_
        refine SXL.eqlI rfl rfl ?_
        refine SXL.move rfl ?_
        apply SXL.orG 3
        case hl => exact rfl
        case hd => exact rfl
        case hg => exact rfl
        case ht =>
          intro c48
          refine SXL.pass rfl rfl rfl ?_
          refine SXL.pass rfl rfl rfl ?_
          refine SXL.pass rfl rfl rfl ?_
          exact SXL.nil (segQ.mk (.skip rfl (.skip rfl (.skip rfl (.skip rfl (EnvSub.refl _))))) rfl rfl rfl)
        case hf =>
          intro c48
          refine SXL.move rfl ?_
          refine SXL.move rfl ?_
          refine SXL.lss rfl rfl ?_
          exact SXL.nil (segQ.mk (.skip rfl (.skip rfl (.skip rfl (.skip rfl (EnvSub.refl _))))) rfl rfl ⟨rfl, rfl⟩)
        refine SXL.nil ?_
        refine thenQ.normal ?_
        refine SX.condP rfl (fun c48 => ?_) (fun c48 => ?_)
        · refine SX.region ?_
          refine SXL.move rfl ?_
          refine SXL.move rfl ?_
          refine SXL.assign rfl ?_
          refine SXL.assign rfl ?_
          refine SXL.nil ?_
          refine blockQ.normal ?_
          refine thenQ.normal ?_
          refine SX.region ?_
          refine SXL.add rfl rfl (by omega) ?_
          refine SXL.move rfl ?_
          refine SXL.nil ?_
          refine thenQ.normal ?_
          refine ⟨k + 1, Meets.mk _ ⟨rfl, (by
            first
            | exact congrArg (fun z : Nat => some (Value.int .i64 (z : Int))) (b_yes (c := 0) (f := (fun i => sumL (endsL s 0 i))) (c48.imp (fun h => by omega) (fun h => by show sumL (endsL s 0 k) < _; rw [← hse]; exact h))).1.symm
            | exact congrArg (fun z : Nat => some (Value.int .i64 (z : Int))) (b_no (c := 0) (f := (fun i => sumL (endsL s 0 i))) (fun h => c48 (h.imp (fun h => by omega) (fun h => by rw [hse]; exact h)))).1.symm), (by
            first
            | exact congrArg (fun z : Int => some (Value.int .i64 z)) (show sumTo (endL ((toldA s 0).getD k []) 0 s.weeks.toNat) s.weeks.toNat = (bV 0 (fun i => sumL (endsL s 0 i)) (k + 1)) by rw [(b_yes (c := 0) (f := (fun i => sumL (endsL s 0 i))) (c48.imp (fun h => by omega) (fun h => by show sumL (endsL s 0 k) < _; rw [← hse]; exact h))).2]; exact hse)
            | exact congrArg (fun z : Int => some (Value.int .i64 (z))) (b_no (c := 0) (f := (fun i => sumL (endsL s 0 i))) (fun h => c48 (h.imp (fun h => by omega) (fun h => by rw [hse]; exact h)))).2.symm), trivial⟩ ⟨rfl, rfl, rfl, rfl, rfl, rfl, rfl, rfl, trivial⟩ rfl, (by omega), (by omega)⟩
        · refine SX.skip ?_
          refine blockQ.normal ?_
          refine thenQ.normal ?_
          refine SX.region ?_
          refine SXL.add rfl rfl (by omega) ?_
          refine SXL.move rfl ?_
          refine SXL.nil ?_
          refine thenQ.normal ?_
          refine ⟨k + 1, Meets.mk _ ⟨rfl, (by
            first
            | exact congrArg (fun z : Nat => some (Value.int .i64 (z : Int))) (b_yes (c := 0) (f := (fun i => sumL (endsL s 0 i))) (c48.imp (fun h => by omega) (fun h => by show sumL (endsL s 0 k) < _; rw [← hse]; exact h))).1.symm
            | exact congrArg (fun z : Nat => some (Value.int .i64 (z : Int))) (b_no (c := 0) (f := (fun i => sumL (endsL s 0 i))) (fun h => c48 (h.imp (fun h => by omega) (fun h => by rw [hse]; exact h)))).1.symm), (by
            first
            | exact congrArg (fun z : Int => some (Value.int .i64 z)) (show sumTo (endL ((toldA s 0).getD k []) 0 s.weeks.toNat) s.weeks.toNat = (bV 0 (fun i => sumL (endsL s 0 i)) (k + 1)) by rw [(b_yes (c := 0) (f := (fun i => sumL (endsL s 0 i))) (c48.imp (fun h => by omega) (fun h => by show sumL (endsL s 0 k) < _; rw [← hse]; exact h))).2]; exact hse)
            | exact congrArg (fun z : Int => some (Value.int .i64 (z))) (b_no (c := 0) (f := (fun i => sumL (endsL s 0 i))) (fun h => c48 (h.imp (fun h => by omega) (fun h => by rw [hse]; exact h)))).2.symm), trivial⟩ ⟨rfl, rfl, rfl, rfl, rfl, rfl, rfl, rfl, trivial⟩ rfl, (by omega), (by omega)⟩
    · refine SX.exit ?_
      refine thenQ.exit ?_
      refine thenQ.exit ?_
      refine blockQ.exit ?_
      refine thenQ.normal ?_
      refine SX.seq ?_
      have hkl : k = (toldA s 0).length := by omega
      have hbl := amin_le (fun i => sumL (endsL s 0 i)) (k - 1)
      have hbi : bI (fun i => sumL (endsL s 0 i)) k = poorI s := by rw [hkl, told_lens]; rfl
      have hbl2 : bI (fun i => sumL (endsL s 0 i)) k = amin (fun i => sumL (endsL s 0 i)) (k - 1) := rfl
      have hbk : bI (fun i => sumL (endsL s 0 i)) k < (toldA s 0).length := by omega
      refine SX.draw 16 (by kernel_rfl) (by kernel_rfl) {} ?_
      refine SXA.take 0 4 rfl (by kernel_rfl) rfl ?_
      refine SXL.move rfl ?_
      refine SXL.move rfl ?_
      refine SXL.indexSl 1 el_35 rfl rfl (by omega) rfl o1 ?_; intro b8 hb8
      refine SXL.loadSl1 1 (v := .int .i64 ((toldL s 0).getD (bI (fun i => sumL (endsL s 0 i)) k) 0)) sh_3 rfl hb8 rfl o1 (by simp [ints, show bI (fun i => sumL (endsL s 0 i)) k < (toldL s 0).length by omega]) ?_
      refine SXL.nil ⟨rfl, rfl, rfl, ?_⟩
      refine SXA.take 5 7 rfl (by kernel_rfl) rfl ?_
      refine SXL.move rfl ?_
      refine SXL.move rfl ?_
      refine SXL.indexSl 2 el_125 rfl rfl (by omega) rfl o2 ?_; intro b9 hb9
      refine SXL.fieldAddr fp_156_0 rfl ?_
      refine SXL.fieldAddr fp_27_0 rfl ?_
      refine SXL.load1o 0 sh_3 rfl rfl rfl ?_
      refine SXL.sliceAH el_154 rfl rfl (by omega) ?_
      refine SXL.nil ⟨rfl, rfl, rfl, ?_⟩
      refine SXA.all [4] (by kernel_rfl) rfl ⟨⟨?_, rfl⟩, trivial⟩
      refine (show SXL _ _ [_] _ _ from ?_)
      refine SXL.buildSlice0 et_35 ?_; intro b3
      refine SXL.nil (stepQ.mk _ rfl rfl ?_)
      refine SXA.all [12] (by kernel_rfl) rfl ⟨⟨?_, rfl⟩, trivial⟩
      refine (show SXL _ _ [_] _ _ from ?_)
      refine SXL.appendE (some b3) ap_35 rfl rfl (srcSl 2 hb9 rfl (takeRow (toldA_len 0) (i := bI (fun i => sumL (endsL s 0 i)) k) (off := 0) (n := s.weeks.toNat) hbk (by omega) (by simp <;> omega))) (by rw [length_ints, endL_len (toldA_len 0 _ (getD_mem hbk)) (by omega) (by omega)]; omega) (ints_isOne _) ⟨by simp only [maxLen]; omega, by omega⟩ ?_; intro r_64 o_64
      refine SXL.nil (stepQ.mk _ rfl rfl ?_)
      refine SXA.take 13 3 rfl (by kernel_rfl) rfl ?_
      refine SXL.assign rfl ?_
      refine SXL.assign rfl ?_
      refine SXL.assign rfl ?_
      refine SXL.nil ⟨rfl, rfl, rfl, ?_⟩
      refine SXA.done (by kernel_rfl) ?_
      refine SXL.nil ?_
      refine thenQ.normal ?_
      refine SX.ret ?_
      refine retQ.sel [4] rfl rfl ?_
      refine retQ.three (ResAt.tmp rfl) (ResAt.tmp rfl) (ResAt.tmp rfl) ?_
      simp only [hbi] at *
      have hel : (endsL s 0 (poorI s)).length = s.weeks.toNat := endL_len (toldA_len 0 _ (getD_mem hbk)) (by omega) (by omega)
      rw [bestR, bestL, if_pos he, if_pos he, he]
      refine ⟨r_64, ?_, ?_, rfl⟩
      · rw [hel]; exact o_64
      · rw [hel]
set_option maxHeartbeats 3000000 in
set_option maxRecDepth 100000 in
theorem rrich_any (s : Sp) (bo ro : Option Addr) (bc rc : Nat) (w : World) (hs : SpAt w s bo ro) :
    CallsR Tryd.prog 49 [.agg ⟨[.int .i64 s.weeks, .int .i64 s.most, .int .i64 s.fall, .int .i64 s.a0, .int .i64 s.a1, .int .i64 s.w0, .int .i64 s.w1, (.slice bo s.book.length bc), (.slice ro s.reads.length rc)]⟩] w (IsR3 (bestR s (richI s)) (bestL s 10 (richI s)) (toldE s 0)) := by
  refine CallsR.of_SX (n := 61) (rs := [.tmp 2, .tmp 3, .tmp 4]) Tryd.func49 rfl rfl rfl rfl ?_
  show SX _ _ _ ⟨[(0, .agg ⟨[.int .i64 s.weeks, .int .i64 s.most, .int .i64 s.fall, .int .i64 s.a0, .int .i64 s.a1, .int .i64 s.w0, .int .i64 s.w1, (.slice bo s.book.length bc), (.slice ro s.reads.length rc)]⟩)], [], []⟩
  refine SX.seq ?_
  refine SX.region ?_
  refine SXL.box rfl rfl ?_; intro b0
  refine SXL.assign rfl ?_
  refine SXL.assign rfl ?_
  refine SXL.assign rfl ?_
  refine SXL.nil ?_
  refine thenQ.normal ?_
  refine SX.seq ?_
  refine SX.region ?_
  refine SXL.loadNo 0 sh_27 rfl rfl rfl ?_
  refine SXL.callF (RnR3 (toldL s 0) (toldA s 0) (toldE s 0)) fn_77 rfl (fun w hI => told_any s bo ro _ _ 0 _ (hs.inv hI)) ?_; rintro _ _ ⟨r1, r2, o1, o2, rfl, rfl⟩
  refine SXL.move rfl ?_
  refine SXL.extract rfl rfl ?_
  refine SXL.extract rfl rfl ?_
  refine SXL.extract rfl rfl ?_
  refine SXL.assign rfl ?_
  refine SXL.assign rfl ?_
  refine SXL.assign rfl ?_
  refine SXL.nil ?_
  refine thenQ.normal ?_
  refine SX.seq ?_
  refine SX.seq ?_
  refine SX.region ?_
  refine SXL.move rfl ?_
  refine SXL.neqI rfl rfl ?_
  refine SXL.nil ?_
  refine thenQ.normal ?_
  refine SX.condP rfl (fun c21 => ?_) (fun c21 => ?_)
  · refine SX.seq ?_
    refine SX.region ?_
    refine SXL.move rfl ?_
    refine SXL.assign rfl ?_
    refine SXL.assign rfl ?_
    refine SXL.assign rfl ?_
    refine SXL.nil ?_
    refine thenQ.normal ?_
    refine SX.ret ?_
    refine thenQ.ret ?_
    refine retQ.dead [Sl.nil.ent 3 []] rfl ?_
    refine retQ.three (ResAt.tmp rfl) (ResAt.tmp rfl) (ResAt.tmp rfl) ?_
    rw [bestR, bestL, if_neg c21, if_neg c21]; exact ⟨Sl.nil, Sl.Ok.none _, rfl, rfl⟩
  · refine SX.skip ?_
    refine thenQ.normal ?_
    refine SX.seq ?_
    have he : toldE s 0 = 0 := Decidable.not_not.1 c21
    obtain ⟨hv, hwk, hne⟩ := toldE_valid he
    have hH := hv.1
    unfold HeadP at hH
    have hA0 : 0 < (toldA s 0).length := by rw [told_lens]; exact toldL_pos he
    have hA21 := toldA_max he
    have hL21 := told_lens (s := s) (week := 0)
    refine SX.region ?_
    refine SXL.assign rfl ?_
    refine SXL.assign rfl ?_
    refine SXL.nil ?_
    refine thenQ.normal ?_
    refine SX.seq ?_
    refine SX.seq ?_
    refine SX.region ?_
    refine SXL.move rfl ?_
    refine SXL.len is_125 rfl ?_
    refine SXL.move rfl ?_
    refine SXL.nil ?_
    refine thenQ.normal ?_
    refine SX.block ?_
    refine SX.loopG (α := Nat) [1, 2, 3, 4, 5, 6, 23, 24] rfl (fun k => [(25, .int .i64 ((k : Int))), (8, .int .i64 (((bI (fun i => -sumL (endsL s 10 i)) k : Nat) : Int))), (9, .int .i64 ((-bV 1 (fun i => -sumL (endsL s 10 i)) k)))]) (fun k => []) (fun k => k ≤ (toldA s 0).length) (fun k => (toldA s 0).length - k) 0 (Nat.zero_le _) ⟨rfl, rfl, rfl, trivial⟩ rfl ?_
    rintro k hkA
    refine SX.seq ?_
    refine SX.region ?_
    refine SXL.lss rfl rfl ?_
    refine SXL.nil ?_
    refine thenQ.normal ?_
    refine SX.seq ?_
    refine SX.condP rfl (fun c26 => ?_) (fun c26 => ?_)
    · refine SX.skip ?_
      refine thenQ.normal ?_
      refine SX.seq ?_
      refine SX.block ?_
      refine SX.seq ?_
      have hk : k < (toldA s 0).length := by omega
      have hl20 := len20 (toldA_len 0) hk
      refine SX.region ?_
      refine SXL.move rfl ?_
      refine SXL.indexSl 2 el_125 rfl rfl (by omega) rfl o2 ?_; intro b7 hb7
      refine SXL.loadSl 2 sh_156 rfl hb7 rfl o2 (takeRow (toldA_len 0) (i := k) (off := 0) (n := 20) hk (by omega) (by omega)) ?_; rw [show endL ((toldA s 0).getD k []) 0 20 = ((toldA s 0).getD k []) from by rw [endL, List.drop_zero, List.take_of_length_le (by omega)]]
      refine SXL.alloc zp_156 ?_; intro b3
      refine SXL.assign rfl ?_
      refine SXL.store 3 sz_156 rfl rfl rfl rfl (by simp only [length_ints, hl20]) (putAt_all _ _ (by simp only [length_ints, hl20]; rfl)) ?_ (ints_isOne _)
      refine SXL.nil ?_
      refine thenQ.normal ?_
      refine SX.seq ?_
      refine SX.region ?_
      refine SXL.assign rfl ?_
      refine SXL.nil ?_
      refine thenQ.normal ?_
      refine SX.seq ?_
      refine SX.seq ?_
      refine SX.region ?_
      refine SXL.assign rfl ?_
      refine SXL.nil ?_
      refine thenQ.normal ?_
      refine SX.block ?_
      refine SX.loopG (α := Nat) [1, 2, 3, 4, 5, 6, 8, 9, 10, 11, 23, 24, 25] rfl (fun j => [(13, .int .i64 ((j : Int))), (12, .int .i64 ((sumTo (endL ((toldA s 0).getD k []) 10 s.weeks.toNat) j)))]) (fun j => []) (fun j => j ≤ s.weeks.toNat) (fun j => s.weeks.toNat - j) 0 (Nat.zero_le _) ⟨rfl, rfl, trivial⟩ rfl ?_
      rintro j hjN
      refine SX.seq ?_
      refine SX.seq ?_
      refine SX.region ?_
      refine SXL.move rfl ?_
      refine SXL.fieldAddr fp_27_0 rfl ?_
      refine SXL.load1o 0 sh_3 rfl rfl rfl ?_
      refine SXL.lss rfl rfl ?_
      refine SXL.nil ?_
      refine thenQ.normal ?_
      refine SX.condP rfl (fun c33 => ?_) (fun c33 => ?_)
      · refine SX.skip ?_
        refine thenQ.normal ?_
        refine SX.seq ?_
        refine SX.block ?_
        have hj : j < s.weeks.toNat := by omega
        have hxb := (toldA_bd he _ (getD_mem hk)).2 (10 + j) (by omega)
        have hsb := sum_bd he hk (off := 10) (by omega) (j := j) (by omega)
        refine SX.region ?_
        refine SXL.move rfl ?_
        refine SXL.move rfl ?_
        refine SXL.fieldAddr fp_156_1 rfl ?_
        refine SXL.indexA el_154 rfl rfl (by omega) ?_
        refine SXL.load1o 3 sh_3 rfl rfl (intsAtX (i := 10 + j) (by simp <;> omega) (by omega)) ?_
        refine SXL.add rfl rfl (by omega) ?_
        refine SXL.assign rfl ?_
        refine SXL.nil ?_
        refine blockQ.normal ?_
        refine thenQ.normal ?_
        refine SX.region ?_
        refine SXL.move rfl ?_
        refine SXL.add rfl rfl (by omega) ?_
        refine SXL.assign rfl ?_
        refine SXL.nil ?_
        refine thenQ.normal ?_
        refine ⟨j + 1, Meets.mk _ ⟨rfl, congrArg (fun z => some (Value.int .i64 z)) (show sumTo (endL ((toldA s 0).getD k []) 10 s.weeks.toNat) j + G ((toldA s 0).getD k []) (10 + j) = sumTo (endL ((toldA s 0).getD k []) 10 s.weeks.toNat) (j + 1) by rw [sumTo, endL_at (by omega)]), trivial⟩ ⟨rfl, rfl, rfl, rfl, rfl, rfl, rfl, rfl, rfl, rfl, rfl, rfl, rfl, trivial⟩ rfl, (by omega), (by omega)⟩
      · refine SX.exit ?_
        refine thenQ.exit ?_
        refine thenQ.exit ?_
        refine blockQ.exit ?_
        refine thenQ.normal ?_
        refine SX.seq ?_
        obtain rfl : j = s.weeks.toNat := by omega
        have hse := sumTo_end he hk (off := 10) (by omega)
        have hnn := sum_nonneg he hk s.weeks.toNat (Nat.le_refl _)
        rw [hse] at hnn
        refine SX.region ?_
        refine SXL.move rfl ?_
        refine SXL.move rfl ?_
        refine SXL.gtr rfl rfl ?_
        refine SXL.nil ?_
        refine thenQ.normal ?_
        refine SX.condP rfl (fun c48 => ?_) (fun c48 => ?_)
        · refine SX.region ?_
          refine SXL.move rfl ?_
          refine SXL.move rfl ?_
          refine SXL.assign rfl ?_
          refine SXL.assign rfl ?_
          refine SXL.nil ?_
          refine blockQ.normal ?_
          refine thenQ.normal ?_
          refine SX.region ?_
          refine SXL.add rfl rfl (by omega) ?_
          refine SXL.move rfl ?_
          refine SXL.nil ?_
          refine thenQ.normal ?_
          refine ⟨k + 1, Meets.mk _ ⟨rfl, (by
            first
            | exact congrArg (fun z : Nat => some (Value.int .i64 (z : Int))) (b_yes (c := 1) (f := (fun i => -sumL (endsL s 10 i))) (.inr (show -sumL (endsL s 10 k) < _ by omega))).1.symm
            | exact congrArg (fun z : Nat => some (Value.int .i64 (z : Int))) (b_no (c := 1) (f := (fun i => -sumL (endsL s 10 i))) (fun h => c48 (by
                  rcases h with h | h
                  · subst h; show -(1 : Int) < _; omega
                  · have h2 : -sumL (endsL s 10 k) < bV 1 (fun i => -sumL (endsL s 10 i)) k := h
                    omega))).1.symm), (by
            first
            | exact congrArg (fun z : Int => some (Value.int .i64 z)) (show sumTo (endL ((toldA s 0).getD k []) 10 s.weeks.toNat) s.weeks.toNat = -(bV 1 (fun i => -sumL (endsL s 10 i)) (k + 1)) by rw [(b_yes (c := 1) (f := (fun i => -sumL (endsL s 10 i))) (.inr (show -sumL (endsL s 10 k) < _ by omega))).2]; show _ = -(-sumL (endsL s 10 k)); omega)
            | exact congrArg (fun z : Int => some (Value.int .i64 (-z))) (b_no (c := 1) (f := (fun i => -sumL (endsL s 10 i))) (fun h => c48 (by
                  rcases h with h | h
                  · subst h; show -(1 : Int) < _; omega
                  · have h2 : -sumL (endsL s 10 k) < bV 1 (fun i => -sumL (endsL s 10 i)) k := h
                    omega))).2.symm), trivial⟩ ⟨rfl, rfl, rfl, rfl, rfl, rfl, rfl, rfl, trivial⟩ rfl, (by omega), (by omega)⟩
        · refine SX.skip ?_
          refine blockQ.normal ?_
          refine thenQ.normal ?_
          refine SX.region ?_
          refine SXL.add rfl rfl (by omega) ?_
          refine SXL.move rfl ?_
          refine SXL.nil ?_
          refine thenQ.normal ?_
          refine ⟨k + 1, Meets.mk _ ⟨rfl, (by
            first
            | exact congrArg (fun z : Nat => some (Value.int .i64 (z : Int))) (b_yes (c := 1) (f := (fun i => -sumL (endsL s 10 i))) (.inr (show -sumL (endsL s 10 k) < _ by omega))).1.symm
            | exact congrArg (fun z : Nat => some (Value.int .i64 (z : Int))) (b_no (c := 1) (f := (fun i => -sumL (endsL s 10 i))) (fun h => c48 (by
                  rcases h with h | h
                  · subst h; show -(1 : Int) < _; omega
                  · have h2 : -sumL (endsL s 10 k) < bV 1 (fun i => -sumL (endsL s 10 i)) k := h
                    omega))).1.symm), (by
            first
            | exact congrArg (fun z : Int => some (Value.int .i64 z)) (show sumTo (endL ((toldA s 0).getD k []) 10 s.weeks.toNat) s.weeks.toNat = -(bV 1 (fun i => -sumL (endsL s 10 i)) (k + 1)) by rw [(b_yes (c := 1) (f := (fun i => -sumL (endsL s 10 i))) (.inr (show -sumL (endsL s 10 k) < _ by omega))).2]; show _ = -(-sumL (endsL s 10 k)); omega)
            | exact congrArg (fun z : Int => some (Value.int .i64 (-z))) (b_no (c := 1) (f := (fun i => -sumL (endsL s 10 i))) (fun h => c48 (by
                  rcases h with h | h
                  · subst h; show -(1 : Int) < _; omega
                  · have h2 : -sumL (endsL s 10 k) < bV 1 (fun i => -sumL (endsL s 10 i)) k := h
                    omega))).2.symm), trivial⟩ ⟨rfl, rfl, rfl, rfl, rfl, rfl, rfl, rfl, trivial⟩ rfl, (by omega), (by omega)⟩
    · refine SX.exit ?_
      refine thenQ.exit ?_
      refine thenQ.exit ?_
      refine blockQ.exit ?_
      refine thenQ.normal ?_
      refine SX.seq ?_
      have hkl : k = (toldA s 0).length := by omega
      have hbl := amin_le (fun i => -sumL (endsL s 10 i)) (k - 1)
      have hbi : bI (fun i => -sumL (endsL s 10 i)) k = richI s := by rw [hkl, told_lens]; rfl
      have hbl2 : bI (fun i => -sumL (endsL s 10 i)) k = amin (fun i => -sumL (endsL s 10 i)) (k - 1) := rfl
      have hbk : bI (fun i => -sumL (endsL s 10 i)) k < (toldA s 0).length := by omega
      refine SX.draw 16 (by kernel_rfl) (by kernel_rfl) {} ?_
      refine SXA.take 0 4 rfl (by kernel_rfl) rfl ?_
      refine SXL.move rfl ?_
      refine SXL.move rfl ?_
      refine SXL.indexSl 1 el_35 rfl rfl (by omega) rfl o1 ?_; intro b8 hb8
      refine SXL.loadSl1 1 (v := .int .i64 ((toldL s 0).getD (bI (fun i => -sumL (endsL s 10 i)) k) 0)) sh_3 rfl hb8 rfl o1 (by simp [ints, show bI (fun i => -sumL (endsL s 10 i)) k < (toldL s 0).length by omega]) ?_
      refine SXL.nil ⟨rfl, rfl, rfl, ?_⟩
      refine SXA.take 5 7 rfl (by kernel_rfl) rfl ?_
      refine SXL.move rfl ?_
      refine SXL.move rfl ?_
      refine SXL.indexSl 2 el_125 rfl rfl (by omega) rfl o2 ?_; intro b9 hb9
      refine SXL.fieldAddr fp_156_1 rfl ?_
      refine SXL.fieldAddr fp_27_0 rfl ?_
      refine SXL.load1o 0 sh_3 rfl rfl rfl ?_
      refine SXL.sliceAH el_154 rfl rfl (by omega) ?_
      refine SXL.nil ⟨rfl, rfl, rfl, ?_⟩
      refine SXA.all [4] (by kernel_rfl) rfl ⟨⟨?_, rfl⟩, trivial⟩
      refine (show SXL _ _ [_] _ _ from ?_)
      refine SXL.buildSlice0 et_35 ?_; intro b3
      refine SXL.nil (stepQ.mk _ rfl rfl ?_)
      refine SXA.all [12] (by kernel_rfl) rfl ⟨⟨?_, rfl⟩, trivial⟩
      refine (show SXL _ _ [_] _ _ from ?_)
      refine SXL.appendE (some b3) ap_35 rfl rfl (srcSl 2 hb9 rfl (takeRow (toldA_len 0) (i := bI (fun i => -sumL (endsL s 10 i)) k) (off := 10) (n := s.weeks.toNat) hbk (by omega) (by simp <;> omega))) (by rw [length_ints, endL_len (toldA_len 0 _ (getD_mem hbk)) (by omega) (by omega)]; omega) (ints_isOne _) ⟨by simp only [maxLen]; omega, by omega⟩ ?_; intro r_60 o_60
      refine SXL.nil (stepQ.mk _ rfl rfl ?_)
      refine SXA.take 13 3 rfl (by kernel_rfl) rfl ?_
      refine SXL.assign rfl ?_
      refine SXL.assign rfl ?_
      refine SXL.assign rfl ?_
      refine SXL.nil ⟨rfl, rfl, rfl, ?_⟩
      refine SXA.done (by kernel_rfl) ?_
      refine SXL.nil ?_
      refine thenQ.normal ?_
      refine SX.ret ?_
      refine retQ.sel [4] rfl rfl ?_
      refine retQ.three (ResAt.tmp rfl) (ResAt.tmp rfl) (ResAt.tmp rfl) ?_
      simp only [hbi] at *
      have hel : (endsL s 10 (richI s)).length = s.weeks.toNat := endL_len (toldA_len 0 _ (getD_mem hbk)) (by omega) (by omega)
      rw [bestR, bestL, if_pos he, if_pos he, he]
      refine ⟨r_60, ?_, ?_, rfl⟩
      · rw [hel]; exact o_60
      · rw [hel]
theorem gives_bd {s : Sp} {week : Int} (he : toldE s week = 0) : (0 ≤ givesLo s week ∧ givesLo s week ≤ givesHi s week) ∧ givesHi s week ≤ 100 := by
  obtain ⟨hv, hw, hne⟩ := toldE_valid he
  have hH := hv.1
  unfold HeadP at hH
  rw [givesLo, givesHi, if_pos he, if_pos he]
  have hA0 : 0 < (toldA s week).length := by rw [told_lens]; exact toldL_pos he
  have key : ∀ k, k ≤ (toldA s week).length → (0 ≤ hLoTo (toldA s week) week.toNat k ∧ hLoTo (toldA s week) week.toNat k ≤ hHiTo (toldA s week) week.toNat k) ∧ hHiTo (toldA s week) week.toNat k ≤ s.most := by
    intro k
    induction k with
    | zero =>
      intro _
      have := toldA_nonneg he (i := 0) (w := week.toNat) hA0 (by omega)
      simp only [hLoTo, hHiTo]
      omega
    | succ k ih =>
      intro hk
      have ih := ih (by omega)
      have := toldA_nonneg he (i := k) (w := week.toNat) (by omega) (by omega)
      simp only [hLoTo, hHiTo]
      omega
  have := key _ (Nat.le_refl _)
  unfold hLo hHi
  omega
set_option maxHeartbeats 1000000 in
theorem rfill_any (s : Sp) (bo ro : Option Addr) (bc rc : Nat) (week bucket : Int) (w : World) (hs : SpAt w s bo ro) :
    CallsR Tryd.prog 51 [.agg ⟨[.int .i64 s.weeks, .int .i64 s.most, .int .i64 s.fall, .int .i64 s.a0, .int .i64 s.a1, .int .i64 s.w0, .int .i64 s.w1, (.slice bo s.book.length bc), (.slice ro s.reads.length rc)]⟩, .int .i64 week, .int .i64 bucket] w (fun v _ => v = .tuple ⟨[.agg ⟨[.int .i64 ((fillLo s week bucket)), .int .i64 ((fillHi s week bucket))]⟩, .int .i64 (fillE s week bucket)]⟩) := by
  refine CallsR.of_SX (n := 54) (rs := [.cell 6 23, .tmp 7]) Tryd.func51 rfl rfl rfl rfl ?_
  show SX _ _ _ ⟨[(0, .agg ⟨[.int .i64 s.weeks, .int .i64 s.most, .int .i64 s.fall, .int .i64 s.a0, .int .i64 s.a1, .int .i64 s.w0, .int .i64 s.w1, (.slice bo s.book.length bc), (.slice ro s.reads.length rc)]⟩), (1, .int .i64 week), (2, .int .i64 bucket)], [], []⟩
  refine SX.seq ?_
  refine SX.region ?_
  refine SXL.box rfl rfl ?_; intro b0
  refine SXL.alloc zp_23 ?_; intro b1
  refine SXL.assign rfl ?_
  refine SXL.nil ?_
  refine thenQ.normal ?_
  refine SX.seq ?_
  refine SX.seq ?_
  refine SX.region ?_
  refine SXL.loadNo 0 sh_27 rfl rfl rfl ?_
  refine SXL.call1 (.bool (decide (SpP s))) fn_74 rfl (fun w hI => spring_any s bo ro bc rc _ (hs.inv hI)) ?_
  refine SXL.not rfl ?_
  refine SXL.nil ?_
  refine thenQ.normal ?_
  refine SX.condP rfl (fun c12 => ?_) (fun c12 => ?_)
  · refine SX.seq ?_
    refine SX.region ?_
    refine SXL.buildS pl_23 zp_23 rfl rfl ?_
    refine SXL.store 1 sz_23 rfl rfl rfl rfl rfl rfl ?_
    refine SXL.assign rfl ?_
    refine SXL.nil ?_
    refine thenQ.normal ?_
    refine SX.ret ?_
    refine thenQ.ret ?_
    refine retQ.two (ResAt.cellNo 1 sh_23 rfl rfl rfl) (ResAt.tmp rfl) ?_
    have he : fillE s week bucket = 10 := by rw [fillE, if_pos c12]
    rw [fillLo, fillHi, if_neg (by rw [he]; omega), if_neg (by rw [he]; omega), he]
  · refine SX.skip ?_
    refine thenQ.normal ?_
    refine SX.seq ?_
    refine SX.seq ?_
    have hv : SpP s := Decidable.not_not.1 c12
    have hH := hv.1
    unfold HeadP at hH
    refine SX.region ?_
    refine SXL.move rfl ?_
    refine SXL.fieldAddr fp_27_0 rfl ?_
    refine SXL.load1o 0 sh_3 rfl rfl rfl ?_
    refine SXL.sub rfl rfl (by omega) ?_
    refine SXL.call1 (.bool (decide (Wi week 0 (s.weeks - 1)))) fn_104 rfl (fun w hI => within_any _ _ _ _) ?_
    refine SXL.not rfl ?_
    refine SXL.nil ?_
    refine thenQ.normal ?_
    refine SX.condP rfl (fun c19 => ?_) (fun c19 => ?_)
    · refine SX.seq ?_
      refine SX.region ?_
      refine SXL.buildS pl_23 zp_23 rfl rfl ?_
      refine SXL.store 1 sz_23 rfl rfl rfl rfl rfl rfl ?_
      refine SXL.assign rfl ?_
      refine SXL.nil ?_
      refine thenQ.normal ?_
      refine SX.ret ?_
      refine thenQ.ret ?_
      refine retQ.two (ResAt.cellNo 1 sh_23 rfl rfl rfl) (ResAt.tmp rfl) ?_
      have he : fillE s week bucket = 11 := by rw [fillE, if_neg (not_not_intro hv), if_pos c19]
      rw [fillLo, fillHi, if_neg (by rw [he]; omega), if_neg (by rw [he]; omega), he]
    · refine SX.skip ?_
      refine thenQ.normal ?_
      refine SX.seq ?_
      refine SX.seq ?_
      have hwk : Wi week 0 (s.weeks - 1) := Decidable.not_not.1 c19
      refine SX.region ?_
      refine SXL.move rfl ?_
      refine SXL.call1 (.bool (decide (Wi bucket 1 40))) fn_104 rfl (fun w hI => within_any _ _ _ _) ?_
      refine SXL.not rfl ?_
      refine SXL.nil ?_
      refine thenQ.normal ?_
      refine SX.condP rfl (fun c23 => ?_) (fun c23 => ?_)
      · refine SX.seq ?_
        refine SX.region ?_
        refine SXL.buildS pl_23 zp_23 rfl rfl ?_
        refine SXL.store 1 sz_23 rfl rfl rfl rfl rfl rfl ?_
        refine SXL.assign rfl ?_
        refine SXL.nil ?_
        refine thenQ.normal ?_
        refine SX.ret ?_
        refine thenQ.ret ?_
        refine retQ.two (ResAt.cellNo 1 sh_23 rfl rfl rfl) (ResAt.tmp rfl) ?_
        have he : fillE s week bucket = 14 := by rw [fillE, if_neg (not_not_intro hv), if_neg (not_not_intro hwk), if_pos c23]
        rw [fillLo, fillHi, if_neg (by rw [he]; omega), if_neg (by rw [he]; omega), he]
      · refine SX.skip ?_
        refine thenQ.normal ?_
        refine SX.seq ?_
        have hbk : Wi bucket 1 40 := Decidable.not_not.1 c23
        refine SX.region ?_
        refine SXL.loadNo 0 sh_27 rfl rfl rfl ?_
        refine SXL.move rfl ?_
        refine SXL.call1 (.tuple ⟨[.agg ⟨[.int .i64 ((givesLo s week)), .int .i64 ((givesHi s week))]⟩, .int .i64 (toldE s week)]⟩) fn_23 rfl (fun w hI => gives_any s bo ro bc rc week _ (hs.inv hI)) ?_
        refine SXL.move rfl ?_
        refine SXL.extract rfl rfl ?_
        refine SXL.extract rfl rfl ?_
        refine SXL.alloc zp_23 ?_; intro b2
        refine SXL.store 2 sz_23 rfl rfl rfl rfl rfl rfl ?_
        refine SXL.assign rfl ?_
        refine SXL.nil ?_
        refine thenQ.normal ?_
        refine SX.seq ?_
        refine SX.seq ?_
        refine SX.region ?_
        refine SXL.move rfl ?_
        refine SXL.neqI rfl rfl ?_
        refine SXL.nil ?_
        refine thenQ.normal ?_
        refine SX.condP rfl (fun c32 => ?_) (fun c32 => ?_)
        · refine SX.seq ?_
          refine SX.region ?_
          refine SXL.buildS pl_23 zp_23 rfl rfl ?_
          refine SXL.move rfl ?_
          refine SXL.store 1 sz_23 rfl rfl rfl rfl rfl rfl ?_
          refine SXL.assign rfl ?_
          refine SXL.nil ?_
          refine thenQ.normal ?_
          refine SX.ret ?_
          refine thenQ.ret ?_
          refine retQ.two (ResAt.cellNo 1 sh_23 rfl rfl rfl) (ResAt.tmp rfl) ?_
          have he : fillE s week bucket = toldE s week := by rw [fillE, if_neg (not_not_intro hv), if_neg (not_not_intro hwk), if_neg (not_not_intro hbk), if_pos c32]
          rw [fillLo, fillHi, if_neg (by rw [he]; omega), if_neg (by rw [he]; omega), he]
        · refine SX.skip ?_
          refine thenQ.normal ?_
          refine SX.seq ?_
          refine SX.seq ?_
          refine SX.region ?_
          refine SXL.fieldAddr fp_23_0 rfl ?_
          refine SXL.load1o 2 sh_3 rfl rfl rfl ?_
          refine SXL.eqlI rfl rfl ?_
          refine SXL.nil ?_
          refine thenQ.normal ?_
          refine SX.condP rfl (fun c37 => ?_) (fun c37 => ?_)
          · refine SX.seq ?_
            refine SX.region ?_
            refine SXL.buildS pl_23 zp_23 rfl rfl ?_
            refine SXL.store 1 sz_23 rfl rfl rfl rfl rfl rfl ?_
            refine SXL.assign rfl ?_
            refine SXL.nil ?_
            refine thenQ.normal ?_
            refine SX.ret ?_
            refine thenQ.ret ?_
            refine retQ.two (ResAt.cellNo 1 sh_23 rfl rfl rfl) (ResAt.tmp rfl) ?_
            have he : fillE s week bucket = 6 := by rw [fillE, if_neg (not_not_intro hv), if_neg (not_not_intro hwk), if_neg (not_not_intro hbk), if_neg c32, if_pos c37]
            rw [fillLo, fillHi, if_neg (by rw [he]; omega), if_neg (by rw [he]; omega), he]
          · refine SX.skip ?_
            refine thenQ.normal ?_
            refine SX.seq ?_
            have he0 := Decidable.not_not.1 c32
            obtain ⟨g1, g2⟩ := gives_bd he0
            refine SX.draw 15 (by kernel_rfl) (by kernel_rfl) {} ?_
            refine SXA.take 0 15 rfl (by kernel_rfl) rfl ?_
            refine SXL.move rfl ?_
            refine SXL.mul rfl rfl (by omega) ?_
            refine SXL.fieldAddr fp_23_1 rfl ?_
            refine SXL.load1o 2 sh_3 rfl rfl rfl ?_
            refine SXL.quo rfl rfl (by omega) ?_
            refine SXL.move rfl ?_
            refine SXL.mul rfl rfl (by omega) ?_
            refine SXL.fieldAddr fp_23_0 rfl ?_
            refine SXL.load1o 2 sh_3 rfl rfl rfl ?_
            refine SXL.add rfl rfl (by omega) ?_
            refine SXL.sub rfl rfl (by omega) ?_
            refine SXL.fieldAddr fp_23_0 rfl ?_
            refine SXL.load1o 2 sh_3 rfl rfl rfl ?_
            refine SXL.quo rfl rfl (by omega) ?_
            refine SXL.buildS pl_23 zp_23 rfl rfl ?_
            refine SXL.nil ⟨rfl, rfl, rfl, ?_⟩
            refine SXA.done (by kernel_rfl) ?_
            refine SXL.store 1 sz_23 rfl rfl rfl rfl rfl rfl ?_
            refine SXL.assign rfl ?_
            refine SXL.nil ?_
            refine thenQ.normal ?_
            refine SX.ret ?_
            refine retQ.two (ResAt.cellNo 1 sh_23 rfl rfl rfl) (ResAt.tmp rfl) ?_
            have he : fillE s week bucket = 0 := by rw [fillE, if_neg (not_not_intro hv), if_neg (not_not_intro hwk), if_neg (not_not_intro hbk), if_neg c32, if_neg c37]
            rw [fillLo, fillHi, if_pos he, if_pos he, he]
set_option maxHeartbeats 1000000 in
theorem rwide_any (s : Sp) (bo ro : Option Addr) (bc rc : Nat) (L : List Int) (hL : Bd L) (hv : SpP s) (w : World) (hs : SpAt w s bo ro) :
    CallsR Tryd.prog 114 [.agg ⟨[.int .i64 s.weeks, .int .i64 s.most, .int .i64 s.fall, .int .i64 s.a0, .int .i64 s.a1, .int .i64 s.w0, .int .i64 s.w1, (.slice bo s.book.length bc), (.slice ro s.reads.length rc)]⟩, .agg ⟨ints L⟩] w (fun v _ => v = .int .i64 (wideP s L)) := by
  have hH := hv.1
  unfold HeadP at hH
  have hLn := hL.len
  refine CallsR.of_SX (n := 36) (rs := [.tmp 4]) Tryd.func114 rfl rfl rfl rfl ?_
  show SX _ _ _ ⟨[(0, .agg ⟨[.int .i64 s.weeks, .int .i64 s.most, .int .i64 s.fall, .int .i64 s.a0, .int .i64 s.a1, .int .i64 s.w0, .int .i64 s.w1, (.slice bo s.book.length bc), (.slice ro s.reads.length rc)]⟩), (1, .agg ⟨ints L⟩)], [], []⟩
  refine SX.seq ?_
  refine SX.region ?_
  refine SXL.box rfl rfl ?_; intro b0
  refine SXL.box rfl rfl ?_; intro b1
  refine SXL.assign rfl ?_
  refine SXL.nil ?_
  refine thenQ.normal ?_
  refine SX.seq ?_
  refine SX.region ?_
  refine SXL.loadNo 0 sh_27 rfl rfl rfl ?_
  refine SXL.loadNo 1 sh_156 rfl rfl (takeAt_full (by simp only [length_ints, hLn])) ?_
  refine SXL.callF (RnR (rnsL s L) (lvsL s L (rnsL s L))) fn_129 rfl (fun w hI => rained_any s bo ro bc rc L hL hv w (hs.inv hI)) ?_; rintro _ _ ⟨r1, r2, o1, o2, rfl, rfl⟩
  refine SXL.move rfl ?_
  refine SXL.extract rfl rfl ?_
  refine SXL.extract rfl rfl ?_
  refine SXL.assign rfl ?_
  refine SXL.assign rfl ?_
  refine SXL.nil ?_
  refine thenQ.normal ?_
  refine SX.seq ?_
  refine SX.seq ?_
  refine SX.region ?_
  refine SXL.move rfl ?_
  refine SXL.len is_125 rfl ?_
  refine SXL.eqlI rfl rfl ?_
  refine SXL.nil ?_
  refine thenQ.normal ?_
  refine SX.condP rfl (fun c18 => ?_) (fun c18 => ?_)
  · refine SX.seq ?_
    refine SX.region ?_
    refine SXL.assign rfl ?_
    refine SXL.nil ?_
    refine thenQ.normal ?_
    refine SX.ret ?_
    refine thenQ.ret ?_
    refine retQ.dead [] rfl ?_
    refine retQ.one (ResAt.tmp rfl) ?_
    have hln : (lvsL s L (rnsL s L)).length = (rnsL s L).length := by simp [lvsL]
    rw [wideP, if_pos (List.eq_nil_of_length_eq_zero (by omega))]
  · refine SX.skip ?_
    refine thenQ.normal ?_
    refine SX.seq ?_
    have hln : (lvsL s L (rnsL s L)).length = (rnsL s L).length := by simp [lvsL]
    have hne : rnsL s L ≠ [] := fun h => c18 (by rw [hln, h]; rfl)
    have hA0 : 0 < (lvsL s L (rnsL s L)).length := by rw [hln]; exact List.length_pos_iff.2 hne
    have hA20 : ∀ x ∈ (lvsL s L (rnsL s L)), x.length = 20 := lvsL_len hL hv _
    have hA21 : (lvsL s L (rnsL s L)).length ≤ 21 := by rw [hln]; exact rnsL_max hv L
    have hAB : ∀ x ∈ (lvsL s L (rnsL s L)), Bd x := fun x hx => by obtain ⟨r, _, rfl⟩ := List.mem_map.1 hx; exact hL.lv hv r
    refine SX.region ?_
    refine SXL.assign rfl ?_
    refine SXL.nil ?_
    refine thenQ.normal ?_
    refine SX.seq ?_
    refine SX.seq ?_
    refine SX.region ?_
    refine SXL.assign rfl ?_
    refine SXL.nil ?_
    refine thenQ.normal ?_
    refine SX.block ?_
    refine SX.loopG (α := Nat) [2, 4, 6] rfl (fun k => [(8, .int .i64 ((k : Int))), (7, .int .i64 ((widTo (lvsL s L (rnsL s L)) k)))]) (fun k => []) (fun k => k ≤ s.weeks.toNat) (fun k => s.weeks.toNat - k) 0 (Nat.zero_le _) ⟨rfl, rfl, trivial⟩ rfl ?_
    rintro k hk
    refine SX.seq ?_
    refine SX.seq ?_
    refine SX.region ?_
    refine SXL.move rfl ?_
    refine SXL.fieldAddr fp_27_0 rfl ?_
    refine SXL.load1o 0 sh_3 rfl rfl rfl ?_
    refine SXL.lss rfl rfl ?_
    refine SXL.nil ?_
    refine thenQ.normal ?_
    refine SX.condP rfl (fun c22 => ?_) (fun c22 => ?_)
    · refine SX.skip ?_
      refine thenQ.normal ?_
      refine SX.seq ?_
      refine SX.block ?_
      refine SX.seq ?_
      refine SX.region ?_
      refine SXL.move rfl ?_
      refine SXL.move rfl ?_
      refine SXL.call1 (.agg ⟨[.int .i64 ((hLo (lvsL s L (rnsL s L)) k)), .int .i64 ((hHi (lvsL s L (rnsL s L)) k))]⟩) fn_79 rfl (fun w hI => hull_any (lvsL s L (rnsL s L)) hA20 hA0 hA21 k (by omega) _ _ _ (slRows (i := 3) hI hA20 o2 rfl)) ?_
      refine SXL.alloc zp_23 ?_; intro b4
      refine SXL.store 4 sz_23 rfl rfl rfl rfl rfl rfl ?_
      refine SXL.nil ?_
      refine thenQ.normal ?_
      have hwb := widTo_bd hAB hA0 k (by omega)
      have hhb := h_bd hAB hA0 (w := k) (by omega) _ (Nat.le_refl _)
      have e1 : hLo (lvsL s L (rnsL s L)) k = hLoTo (lvsL s L (rnsL s L)) k (lvsL s L (rnsL s L)).length := rfl
      have e2 : hHi (lvsL s L (rnsL s L)) k = hHiTo (lvsL s L (rnsL s L)) k (lvsL s L (rnsL s L)).length := rfl
      refine SX.region ?_
      refine SXL.move rfl ?_
      refine SXL.fieldAddr fp_23_1 rfl ?_
      refine SXL.load1o 4 sh_3 rfl rfl rfl ?_
      refine SXL.fieldAddr fp_23_0 rfl ?_
      refine SXL.load1o 4 sh_3 rfl rfl rfl ?_
      refine SXL.sub rfl rfl (by omega) ?_
      refine SXL.add rfl rfl (by omega) ?_
      refine SXL.assign rfl ?_
      refine SXL.nil ?_
      refine blockQ.normal ?_
      refine thenQ.normal ?_
      refine SX.region ?_
      refine SXL.move rfl ?_
      refine SXL.add rfl rfl (by omega) ?_
      refine SXL.assign rfl ?_
      refine SXL.nil ?_
      refine thenQ.normal ?_
      refine ⟨k + 1, Meets.mk _ ⟨rfl, rfl, trivial⟩ ⟨rfl, rfl, rfl, trivial⟩ rfl, (by omega), (by omega)⟩
    · refine SX.exit ?_
      refine thenQ.exit ?_
      refine thenQ.exit ?_
      refine blockQ.exit ?_
      refine thenQ.normal ?_
      refine SX.seq ?_
      obtain rfl : k = s.weeks.toNat := by omega
      refine SX.region ?_
      refine SXL.move rfl ?_
      refine SXL.assign rfl ?_
      refine SXL.nil ?_
      refine thenQ.normal ?_
      refine SX.ret ?_
      refine retQ.dead [] rfl ?_
      refine retQ.one (ResAt.tmp rfl) ?_
      rw [wideP, if_neg hne]
set_option maxHeartbeats 1000000 in
theorem rleft_any (s : Sp) (bo ro : Option Addr) (bc rc : Nat) (week : Nat) (hv : SpP s) (hw : week < s.weeks.toNat) (w : World) (hs : SpAt w s bo ro) :
    CallsR Tryd.prog 65 [.agg ⟨[.int .i64 s.weeks, .int .i64 s.most, .int .i64 s.fall, .int .i64 s.a0, .int .i64 s.a1, .int .i64 s.w0, .int .i64 s.w1, (.slice bo s.book.length bc), (.slice ro s.reads.length rc)]⟩, .int .i64 ((week : Int))] w (fun v _ => v = .int .i64 (leftP s week)) := by
  have hH := hv.1
  unfold HeadP at hH
  have hB := baseL_Bd hv
  have hBl := hB.len
  have hb1 := hB.2 week (by omega)
  have hb2 := hB.2 (10 + week) (by omega)
  have hlN : leftN s week = (G (baseL s) (10 + week) + 1 - G (baseL s) week).toNat := rfl
  refine CallsR.of_SX (n := 38) (rs := [.tmp 4]) Tryd.func65 rfl rfl rfl rfl ?_
  show SX _ _ _ ⟨[(0, .agg ⟨[.int .i64 s.weeks, .int .i64 s.most, .int .i64 s.fall, .int .i64 s.a0, .int .i64 s.a1, .int .i64 s.w0, .int .i64 s.w1, (.slice bo s.book.length bc), (.slice ro s.reads.length rc)]⟩), (1, .int .i64 ((week : Int)))], [], []⟩
  refine SX.seq ?_
  refine SX.region ?_
  refine SXL.box rfl rfl ?_; intro b0
  refine SXL.assign rfl ?_
  refine SXL.nil ?_
  refine thenQ.normal ?_
  refine SX.seq ?_
  refine SX.region ?_
  refine SXL.loadNo 0 sh_27 rfl rfl rfl ?_
  refine SXL.call1 (.agg ⟨ints (baseL s)⟩) fn_113 rfl (fun w hI => base_any s bo ro bc rc hv _ (hs.inv hI)) ?_
  refine SXL.alloc zp_156 ?_; intro b1
  refine SXL.store 1 sz_156 rfl rfl rfl rfl (by simp only [length_ints, hBl]) (putAt_all _ _ (by simp only [length_ints, hBl]; rfl)) ?_ (ints_isOne _)
  refine SXL.nil ?_
  refine thenQ.normal ?_
  refine SX.seq ?_
  refine SX.region ?_
  refine SXL.assign rfl ?_
  refine SXL.nil ?_
  refine thenQ.normal ?_
  refine SX.seq ?_
  refine SX.seq ?_
  refine SX.region ?_
  refine SXL.move rfl ?_
  refine SXL.fieldAddr fp_156_0 rfl ?_
  refine SXL.indexA el_154 rfl rfl (by omega) ?_
  refine SXL.load1o 1 sh_3 rfl rfl (intsAtX (i := week) (by simp <;> omega) (by omega)) ?_
  refine SXL.assign rfl ?_
  refine SXL.nil ?_
  refine thenQ.normal ?_
  refine SX.block ?_
  refine SX.loopG (α := Nat) [1, 2, 4, 5] rfl (fun k => [(7, .int .i64 ((G (baseL s) week + ((k : Nat) : Int)))), (6, .int .i64 ((leftTo s week k)))]) (fun k => []) (fun k => k ≤ leftN s week) (fun k => leftN s week - k) 0 (Nat.zero_le _) ⟨congrArg (fun z => some (Value.int .i64 z)) (show G (baseL s) week = G (baseL s) week + ((0 : Nat) : Int) by omega), rfl, trivial⟩ rfl ?_
  rintro k hk
  refine SX.seq ?_
  refine SX.seq ?_
  refine SX.region ?_
  refine SXL.move rfl ?_
  refine SXL.move rfl ?_
  refine SXL.fieldAddr fp_156_1 rfl ?_
  refine SXL.indexA el_154 rfl rfl (by omega) ?_
  refine SXL.load1o 1 sh_3 rfl rfl (intsAtX (i := 10 + week) (by simp <;> omega) (by omega)) ?_
  refine SXL.leq rfl rfl ?_
  refine SXL.nil ?_
  refine thenQ.normal ?_
  refine SX.condP rfl (fun c20 => ?_) (fun c20 => ?_)
  · refine SX.skip ?_
    refine thenQ.normal ?_
    refine SX.seq ?_
    refine SX.block ?_
    refine SX.seq ?_
    have hlb := leftTo_bd hv hw k hk
    refine SX.region ?_
    refine SXL.loadNo 1 sh_156 rfl rfl (takeAt_full (by simp only [length_ints, hBl])) ?_
    refine SXL.alloc zp_156 ?_; intro b2
    refine SXL.store 2 sz_156 rfl rfl rfl rfl (by simp only [length_ints, hBl]) (putAt_all _ _ (by simp only [length_ints, hBl]; rfl)) ?_ (ints_isOne _)
    refine SXL.nil ?_
    refine thenQ.normal ?_
    refine SX.seq ?_
    refine SX.region ?_
    refine SXL.move rfl ?_
    refine SXL.move rfl ?_
    refine SXL.move rfl ?_
    refine SXL.move rfl ?_
    refine SXL.fieldAddr fp_156_0 rfl ?_
    refine SXL.indexA el_154 rfl rfl (by omega) ?_
    refine SXL.store 2 sz_3 rfl rfl rfl rfl rfl (ints_put (i := week) (by simp <;> omega) (by omega)) ?_
    refine SXL.fieldAddr fp_156_1 rfl ?_
    refine SXL.indexA el_154 rfl rfl (by omega) ?_
    refine SXL.store 2 sz_3 rfl rfl rfl rfl rfl (ints_put (i := 10 + week) (by simp <;> omega) (by simp [hBl]; omega)) ?_
    refine SXL.nil ?_
    refine thenQ.normal ?_
    refine SX.region ?_
    refine SXL.move rfl ?_
    refine SXL.loadNo 0 sh_27 rfl rfl rfl ?_
    refine SXL.loadNo 2 sh_156 rfl rfl (takeAt_full (by simp only [length_ints, List.length_set, hBl])) ?_
    refine SXL.call1 (.int .i64 (wideP s (oneW (baseL s) week (G (baseL s) week + ((k : Nat) : Int))))) fn_114 rfl (fun w hI => rwide_any s bo ro bc rc (oneW (baseL s) week (G (baseL s) week + ((k : Nat) : Int))) (hB.one (by omega)) hv _ (hs.inv hI)) ?_
    refine SXL.max rfl rfl ?_
    refine SXL.assign rfl ?_
    refine SXL.nil ?_
    refine blockQ.normal ?_
    refine thenQ.normal ?_
    refine SX.region ?_
    refine SXL.move rfl ?_
    refine SXL.add rfl rfl (by omega) ?_
    refine SXL.assign rfl ?_
    refine SXL.nil ?_
    refine thenQ.normal ?_
    refine ⟨k + 1, Meets.mk _ ⟨congrArg (fun z => some (Value.int .i64 z)) (show G (baseL s) week + (k : Int) + 1 = G (baseL s) week + ((k + 1 : Nat) : Int) by omega), rfl, trivial⟩ ⟨rfl, rfl, rfl, rfl, trivial⟩ rfl, (by omega), (by omega)⟩
  · refine SX.exit ?_
    refine thenQ.exit ?_
    refine thenQ.exit ?_
    refine blockQ.exit ?_
    refine thenQ.normal ?_
    refine SX.seq ?_
    obtain rfl : k = leftN s week := by omega
    refine SX.region ?_
    refine SXL.move rfl ?_
    refine SXL.assign rfl ?_
    refine SXL.nil ?_
    refine thenQ.normal ?_
    refine SX.ret ?_
    refine retQ.dead [] rfl ?_
    refine retQ.one (ResAt.tmp rfl) ?_
    rfl
set_option maxHeartbeats 1000000 in
theorem rlook_any (s : Sp) (bo ro : Option Addr) (bc rc : Nat) (w : World) (hs : SpAt w s bo ro) :
    CallsR Tryd.prog 53 [.agg ⟨[.int .i64 s.weeks, .int .i64 s.most, .int .i64 s.fall, .int .i64 s.a0, .int .i64 s.a1, .int .i64 s.w0, .int .i64 s.w1, (.slice bo s.book.length bc), (.slice ro s.reads.length rc)]⟩] w (fun v _ => v = .tuple ⟨[.int .i64 (lookW s), .int .i64 (lookV s), .int .i64 (toldE s 0)]⟩) := by
  refine CallsR.of_SX (n := 39) (rs := [.tmp 2, .tmp 3, .tmp 4]) Tryd.func53 rfl rfl rfl rfl ?_
  show SX _ _ _ ⟨[(0, .agg ⟨[.int .i64 s.weeks, .int .i64 s.most, .int .i64 s.fall, .int .i64 s.a0, .int .i64 s.a1, .int .i64 s.w0, .int .i64 s.w1, (.slice bo s.book.length bc), (.slice ro s.reads.length rc)]⟩)], [], []⟩
  refine SX.seq ?_
  refine SX.region ?_
  refine SXL.box rfl rfl ?_; intro b0
  refine SXL.assign rfl ?_
  refine SXL.assign rfl ?_
  refine SXL.assign rfl ?_
  refine SXL.nil ?_
  refine thenQ.normal ?_
  refine SX.seq ?_
  refine SX.seq ?_
  refine SX.region ?_
  refine SXL.loadNo 0 sh_27 rfl rfl rfl ?_
  refine SXL.callF (RnR3 (toldL s 0) (toldA s 0) (toldE s 0)) fn_77 rfl (fun w hI => told_any s bo ro _ _ 0 _ (hs.inv hI)) ?_; rintro _ _ ⟨r1, r2, o1, o2, rfl, rfl⟩
  refine SXL.move rfl ?_
  refine SXL.extract rfl rfl ?_
  refine SXL.extract rfl rfl ?_
  refine SXL.extract rfl rfl ?_
  refine SXL.assign rfl ?_
  refine SXL.assign rfl ?_
  refine SXL.assign rfl ?_
  refine SXL.nil ?_
  refine thenQ.normal ?_
  refine SX.seq ?_
  refine SX.region ?_
  refine SXL.move rfl ?_
  refine SXL.neqI rfl rfl ?_
  refine SXL.nil ?_
  refine thenQ.normal ?_
  refine SX.condP rfl (fun c19 => ?_) (fun c19 => ?_)
  · refine SX.seq ?_
    refine SX.region ?_
    refine SXL.move rfl ?_
    refine SXL.assign rfl ?_
    refine SXL.assign rfl ?_
    refine SXL.assign rfl ?_
    refine SXL.nil ?_
    refine thenQ.normal ?_
    refine SX.ret ?_
    refine thenQ.ret ?_
    refine retQ.dead [] rfl ?_
    refine retQ.three (ResAt.tmp rfl) (ResAt.tmp rfl) (ResAt.tmp rfl) ?_
    rw [lookW, lookV, if_neg c19, if_neg c19]
  · refine SX.skip ?_
    refine thenQ.normal ?_
    refine SX.seq ?_
    have he : toldE s 0 = 0 := Decidable.not_not.1 c19
    obtain ⟨hv, hwk, hne⟩ := toldE_valid he
    have hH := hv.1
    unfold HeadP at hH
    have hA0 : 0 < (toldA s 0).length := by rw [told_lens]; exact toldL_pos he
    have hA21 := toldA_max he
    have hL21 := told_lens (s := s) (week := 0)
    refine SX.region ?_
    refine SXL.loadNo 0 sh_27 rfl rfl rfl ?_
    refine SXL.call1 (.int .i64 (leftP s 0)) fn_65 rfl (fun w hI => rleft_any s bo ro bc rc 0 hv (by omega) _ (hs.inv hI)) ?_
    refine SXL.assign rfl ?_
    refine SXL.assign rfl ?_
    refine SXL.nil ?_
    refine thenQ.normal ?_
    refine SX.seq ?_
    refine SX.seq ?_
    refine SX.region ?_
    refine SXL.assign rfl ?_
    refine SXL.nil ?_
    refine thenQ.normal ?_
    refine SX.block ?_
    refine SX.loopG (α := Nat) [1, 2, 3, 4] rfl (fun k => [(10, .int .i64 ((k : Int))), (8, .int .i64 (((amin (leftP s) (k - 1) : Nat) : Int))), (9, .int .i64 ((leftP s (amin (leftP s) (k - 1)))))]) (fun k => []) (fun k => 1 ≤ k ∧ k ≤ s.weeks.toNat) (fun k => s.weeks.toNat - k) 1 ⟨Nat.le_refl _, by omega⟩ ⟨rfl, rfl, rfl, trivial⟩ rfl ?_
    rintro k ⟨hk1, hk⟩
    refine SX.seq ?_
    refine SX.seq ?_
    refine SX.region ?_
    refine SXL.move rfl ?_
    refine SXL.fieldAddr fp_27_0 rfl ?_
    refine SXL.load1o 0 sh_3 rfl rfl rfl ?_
    refine SXL.lss rfl rfl ?_
    refine SXL.nil ?_
    refine thenQ.normal ?_
    refine SX.condP rfl (fun c26 => ?_) (fun c26 => ?_)
    · refine SX.skip ?_
      refine thenQ.normal ?_
      refine SX.seq ?_
      refine SX.block ?_
      refine SX.seq ?_
      refine SX.region ?_
      refine SXL.loadNo 0 sh_27 rfl rfl rfl ?_
      refine SXL.move rfl ?_
      refine SXL.call1 (.int .i64 (leftP s k)) fn_65 rfl (fun w hI => rleft_any s bo ro bc rc k hv (by omega) _ (hs.inv hI)) ?_
      refine SXL.assign rfl ?_
      refine SXL.nil ?_
      refine thenQ.normal ?_
      refine SX.seq ?_
      refine SX.region ?_
      refine SXL.move rfl ?_
      refine SXL.move rfl ?_
      refine SXL.lss rfl rfl ?_
      refine SXL.nil ?_
      refine thenQ.normal ?_
      refine SX.condP rfl (fun c34 => ?_) (fun c34 => ?_)
      · refine SX.region ?_
        refine SXL.move rfl ?_
        refine SXL.move rfl ?_
        refine SXL.assign rfl ?_
        refine SXL.assign rfl ?_
        refine SXL.nil ?_
        refine blockQ.normal ?_
        refine thenQ.normal ?_
        refine SX.region ?_
        refine SXL.move rfl ?_
        refine SXL.add rfl rfl (by omega) ?_
        refine SXL.assign rfl ?_
        refine SXL.nil ?_
        refine thenQ.normal ?_
        refine ⟨k + 1, Meets.mk _ ⟨rfl, (by
          first
          | exact congrArg (fun z : Nat => some (Value.int .i64 (z : Int))) (show k = amin (leftP s) k from by rw [amin_at _ hk1, if_pos c34])
          | exact congrArg (fun z : Nat => some (Value.int .i64 (z : Int))) (show amin (leftP s) (k - 1) = amin (leftP s) k from by rw [amin_at _ hk1, if_neg c34])), (by
          first
          | exact congrArg (fun z : Nat => some (Value.int .i64 (leftP s z))) (show k = amin (leftP s) k from by rw [amin_at _ hk1, if_pos c34])
          | exact congrArg (fun z : Nat => some (Value.int .i64 (leftP s z))) (show amin (leftP s) (k - 1) = amin (leftP s) k from by rw [amin_at _ hk1, if_neg c34])), trivial⟩ ⟨rfl, rfl, rfl, rfl, trivial⟩ rfl, ⟨by omega, by omega⟩, (by omega)⟩
      · refine SX.skip ?_
        refine blockQ.normal ?_
        refine thenQ.normal ?_
        refine SX.region ?_
        refine SXL.move rfl ?_
        refine SXL.add rfl rfl (by omega) ?_
        refine SXL.assign rfl ?_
        refine SXL.nil ?_
        refine thenQ.normal ?_
        refine ⟨k + 1, Meets.mk _ ⟨rfl, (by
          first
          | exact congrArg (fun z : Nat => some (Value.int .i64 (z : Int))) (show k = amin (leftP s) k from by rw [amin_at _ hk1, if_pos c34])
          | exact congrArg (fun z : Nat => some (Value.int .i64 (z : Int))) (show amin (leftP s) (k - 1) = amin (leftP s) k from by rw [amin_at _ hk1, if_neg c34])), (by
          first
          | exact congrArg (fun z : Nat => some (Value.int .i64 (leftP s z))) (show k = amin (leftP s) k from by rw [amin_at _ hk1, if_pos c34])
          | exact congrArg (fun z : Nat => some (Value.int .i64 (leftP s z))) (show amin (leftP s) (k - 1) = amin (leftP s) k from by rw [amin_at _ hk1, if_neg c34])), trivial⟩ ⟨rfl, rfl, rfl, rfl, trivial⟩ rfl, ⟨by omega, by omega⟩, (by omega)⟩
    · refine SX.exit ?_
      refine thenQ.exit ?_
      refine thenQ.exit ?_
      refine blockQ.exit ?_
      refine thenQ.normal ?_
      refine SX.seq ?_
      obtain rfl : k = s.weeks.toNat := by omega
      refine SX.region ?_
      refine SXL.move rfl ?_
      refine SXL.move rfl ?_
      refine SXL.assign rfl ?_
      refine SXL.assign rfl ?_
      refine SXL.assign rfl ?_
      refine SXL.nil ?_
      refine thenQ.normal ?_
      refine SX.ret ?_
      refine retQ.dead [] rfl ?_
      refine retQ.three (ResAt.tmp rfl) (ResAt.tmp rfl) (ResAt.tmp rfl) ?_
      rw [lookW, lookV, if_pos he, if_pos he, he]; rfl
end Go.Proofs.YtknflipongbngaaDoor

/- The walks of functions. -/
namespace Go.Proofs.YtknflipongbngaaDoor
open Go.X Go.S Go.RowKit
theorem indexFuncInts (l : List Int) (ao : Option Addr) (c : Nat) (F : Nat) (first capt : List Value) (p : Nat → Prop) [DecidablePred p] (hF : fnOk Tryd.prog F = true) (hmx : l.length ≤ 1000000) (w : World) (h : RowsAt w ao 1 (ones l)) (hc : ∀ k, k < l.length → ∀ w', Below w.heap.size w w' → CallsR Tryd.prog F (first ++ [.int .i64 (l.getD k 0)] ++ capt) w' (fun v _ => v = .bool (decide (p k)))) :
    CallsR Tryd.prog 131 [.slice ao l.length c, .func (.func F) ⟨first⟩ ⟨capt⟩] w (fun v _ => v = .int .i64 (idxF p l.length)) := by
  refine CallsR.of_SX (n := 19) (rs := [.tmp 4]) Tryd.func131 rfl rfl rfl rfl ?_
  show SX _ _ _ ⟨[(0, .slice ao l.length c), (1, .func (.func F) ⟨first⟩ ⟨capt⟩)], [], []⟩
  refine SX.seq ?_
  refine SX.region ?_
  refine SXL.assign rfl ?_
  refine SXL.nil ?_
  refine thenQ.normal ?_
  refine SX.seq ?_
  refine SX.seq ?_
  refine SX.region ?_
  refine SXL.move rfl ?_
  refine SXL.len is_35 rfl ?_
  refine SXL.move rfl ?_
  refine SXL.nil ?_
  refine thenQ.normal ?_
  refine SX.block ?_
  refine SX.loopG (α := Nat) [0, 1, 4, 7] rfl (fun k => [(8, .int .i64 ((k : Int)))]) (fun k => []) (fun k => k ≤ l.length ∧ ∀ i, i < k → ¬p i) (fun k => l.length - k) 0 ⟨Nat.zero_le _, fun _ h => absurd h (Nat.not_lt_zero _)⟩ ⟨rfl, trivial⟩ rfl ?_
  rintro k ⟨hk, hall⟩
  refine SX.seq ?_
  refine SX.region ?_
  refine SXL.lss rfl rfl ?_
  refine SXL.nil ?_
  refine thenQ.normal ?_
  refine SX.seq ?_
  refine SX.condP rfl (fun c9 => ?_) (fun c9 => ?_)
  · refine SX.skip ?_
    refine thenQ.normal ?_
    refine SX.seq ?_
    refine SX.block ?_
    refine SX.seq ?_
    refine SX.region ?_
    refine SXL.move rfl ?_
    refine SXL.assign rfl ?_
    refine SXL.nil ?_
    refine thenQ.normal ?_
    refine SX.seq ?_
    obtain ⟨b, o, ha, hm⟩ := oneI h (i := k) (by omega)
    refine SX.region ?_
    refine SXL.move rfl ?_
    refine SXL.move rfl ?_
    refine SXL.move rfl ?_
    refine SXL.indexR el_35 rfl rfl ha (by omega) ?_
    refine SXL.load1 sh_3 rfl (hm _) ?_
    refine SXL.call1V (.bool (decide (p k))) hF rfl rfl (fun w hI => hc k (by omega) _ hI.below) ?_
    refine SXL.nil ?_
    refine thenQ.normal ?_
    refine SX.condP rfl (fun c16 => ?_) (fun c16 => ?_)
    · refine SX.seq ?_
      refine SX.region ?_
      refine SXL.move rfl ?_
      refine SXL.assign rfl ?_
      refine SXL.nil ?_
      refine thenQ.normal ?_
      refine SX.ret ?_
      refine blockQ.ret ?_
      refine thenQ.ret ?_
      refine thenQ.ret ?_
      refine blockQ.ret ?_
      refine thenQ.ret ?_
      refine retQ.one (ResAt.tmp rfl) ?_
      exact congrArg (Value.int .i64) (idxF_some (by omega) c16 hall).symm
    · refine SX.skip ?_
      refine blockQ.normal ?_
      refine thenQ.normal ?_
      refine SX.region ?_
      refine SXL.add rfl rfl (by omega) ?_
      refine SXL.move rfl ?_
      refine SXL.nil ?_
      refine thenQ.normal ?_
      refine ⟨k + 1, Meets.mk _ ⟨rfl, trivial⟩ ⟨rfl, rfl, rfl, rfl, trivial⟩ rfl, ?_, (by omega)⟩
      refine ⟨by omega, fun i hi => ?_⟩
      by_cases e : i = k
      · subst e; exact c16
      · exact hall i (by omega)
  · refine SX.exit ?_
    refine thenQ.exit ?_
    refine thenQ.exit ?_
    refine blockQ.exit ?_
    refine thenQ.normal ?_
    refine SX.seq ?_
    refine SX.region ?_
    refine SXL.assign rfl ?_
    refine SXL.nil ?_
    refine thenQ.normal ?_
    refine SX.ret ?_
    refine retQ.one (ResAt.tmp rfl) ?_
    exact congrArg (Value.int .i64) (idxF_none fun i hi => hall i (by omega)).symm
theorem containsFuncInts (l : List Int) (ao : Option Addr) (c : Nat) (F : Nat) (first capt : List Value) (p : Nat → Prop) [DecidablePred p] (hF : fnOk Tryd.prog F = true) (hmx : l.length ≤ 1000000) (w : World) (h : RowsAt w ao 1 (ones l)) (hc : ∀ k, k < l.length → ∀ w', Below w.heap.size w w' → CallsR Tryd.prog F (first ++ [.int .i64 (l.getD k 0)] ++ capt) w' (fun v _ => v = .bool (decide (p k)))) :
    CallsR Tryd.prog 119 [.slice ao l.length c, .func (.func F) ⟨first⟩ ⟨capt⟩] w (fun v _ => v = .bool (decide (0 ≤ idxF p l.length))) := by
  refine CallsR.of_SX (n := 9) (rs := [.tmp 4]) Tryd.func119 rfl rfl rfl rfl ?_
  show SX _ _ _ ⟨[(0, .slice ao l.length c), (1, .func (.func F) ⟨first⟩ ⟨capt⟩)], [], []⟩
  refine SX.seq ?_
  refine SX.region ?_
  refine SXL.assign rfl ?_
  refine SXL.nil ?_
  refine thenQ.normal ?_
  refine SX.seq ?_
  refine SX.region ?_
  refine SXL.move rfl ?_
  refine SXL.move rfl ?_
  refine SXL.call1 (.int .i64 (idxF p l.length)) fn_131 rfl (fun w hI => indexFuncInts l ao c F first capt p hF hmx w (h.inv hI) (fun k hk w' hb => hc k hk w' (belowT hI hb))) ?_
  refine SXL.geq rfl rfl ?_
  refine SXL.assign rfl ?_
  refine SXL.nil ?_
  refine thenQ.normal ?_
  refine SX.ret ?_
  refine retQ.one (ResAt.tmp rfl) ?_
  first | rfl | assumption
theorem indexFuncLines (s : Sp) (ao : Option Addr) (c : Nat) (F : Nat) (first capt : List Value) (p : Nat → Prop) [DecidablePred p] (hF : fnOk Tryd.prog F = true) (hmx : s.book.length ≤ 1000000) (w : World) (h : RowsAt w ao 5 (s.book.map Ln.cells)) (hc : ∀ k, k < s.book.length → ∀ w', Below w.heap.size w w' → CallsR Tryd.prog F (first ++ [.agg ⟨(s.book.getD k default).cells⟩] ++ capt) w' (fun v _ => v = .bool (decide (p k)))) :
    CallsR Tryd.prog 160 [.slice ao s.book.length c, .func (.func F) ⟨first⟩ ⟨capt⟩] w (fun v _ => v = .int .i64 (idxF p s.book.length)) := by
  refine CallsR.of_SX (n := 19) (rs := [.tmp 4]) Tryd.func160 rfl rfl rfl rfl ?_
  show SX _ _ _ ⟨[(0, .slice ao s.book.length c), (1, .func (.func F) ⟨first⟩ ⟨capt⟩)], [], []⟩
  refine SX.seq ?_
  refine SX.region ?_
  refine SXL.assign rfl ?_
  refine SXL.nil ?_
  refine thenQ.normal ?_
  refine SX.seq ?_
  refine SX.seq ?_
  refine SX.region ?_
  refine SXL.move rfl ?_
  refine SXL.len is_24 rfl ?_
  refine SXL.move rfl ?_
  refine SXL.nil ?_
  refine thenQ.normal ?_
  refine SX.block ?_
  refine SX.loopG (α := Nat) [0, 1, 4, 7] rfl (fun k => [(8, .int .i64 ((k : Int)))]) (fun k => []) (fun k => k ≤ s.book.length ∧ ∀ i, i < k → ¬p i) (fun k => s.book.length - k) 0 ⟨Nat.zero_le _, fun _ h => absurd h (Nat.not_lt_zero _)⟩ ⟨rfl, trivial⟩ rfl ?_
  rintro k ⟨hk, hall⟩
  refine SX.seq ?_
  refine SX.region ?_
  refine SXL.lss rfl rfl ?_
  refine SXL.nil ?_
  refine thenQ.normal ?_
  refine SX.seq ?_
  refine SX.condP rfl (fun c9 => ?_) (fun c9 => ?_)
  · refine SX.skip ?_
    refine thenQ.normal ?_
    refine SX.seq ?_
    refine SX.block ?_
    refine SX.seq ?_
    refine SX.region ?_
    refine SXL.move rfl ?_
    refine SXL.assign rfl ?_
    refine SXL.nil ?_
    refine thenQ.normal ?_
    refine SX.seq ?_
    obtain ⟨b, o, ha, hm⟩ := h.get (i := k) (r := (s.book.getD k default).cells) (by have hk2 : k < s.book.length := (by omega); simp [hk2])
    refine SX.region ?_
    refine SXL.move rfl ?_
    refine SXL.move rfl ?_
    refine SXL.move rfl ?_
    refine SXL.indexR el_24 rfl rfl ha (by omega) ?_
    refine SXL.loadN sh_61 rfl (hm _) rfl ?_
    refine SXL.call1V (.bool (decide (p k))) hF rfl rfl (fun w hI => hc k (by omega) _ hI.below) ?_
    refine SXL.nil ?_
    refine thenQ.normal ?_
    refine SX.condP rfl (fun c16 => ?_) (fun c16 => ?_)
    · refine SX.seq ?_
      refine SX.region ?_
      refine SXL.move rfl ?_
      refine SXL.assign rfl ?_
      refine SXL.nil ?_
      refine thenQ.normal ?_
      refine SX.ret ?_
      refine blockQ.ret ?_
      refine thenQ.ret ?_
      refine thenQ.ret ?_
      refine blockQ.ret ?_
      refine thenQ.ret ?_
      refine retQ.one (ResAt.tmp rfl) ?_
      exact congrArg (Value.int .i64) (idxF_some (by omega) c16 hall).symm
    · refine SX.skip ?_
      refine blockQ.normal ?_
      refine thenQ.normal ?_
      refine SX.region ?_
      refine SXL.add rfl rfl (by omega) ?_
      refine SXL.move rfl ?_
      refine SXL.nil ?_
      refine thenQ.normal ?_
      refine ⟨k + 1, Meets.mk _ ⟨rfl, trivial⟩ ⟨rfl, rfl, rfl, rfl, trivial⟩ rfl, ?_, (by omega)⟩
      refine ⟨by omega, fun i hi => ?_⟩
      by_cases e : i = k
      · subst e; exact c16
      · exact hall i (by omega)
  · refine SX.exit ?_
    refine thenQ.exit ?_
    refine thenQ.exit ?_
    refine blockQ.exit ?_
    refine thenQ.normal ?_
    refine SX.seq ?_
    refine SX.region ?_
    refine SXL.assign rfl ?_
    refine SXL.nil ?_
    refine thenQ.normal ?_
    refine SX.ret ?_
    refine retQ.one (ResAt.tmp rfl) ?_
    exact congrArg (Value.int .i64) (idxF_none fun i hi => hall i (by omega)).symm
theorem containsFuncLines (s : Sp) (ao : Option Addr) (c : Nat) (F : Nat) (first capt : List Value) (p : Nat → Prop) [DecidablePred p] (hF : fnOk Tryd.prog F = true) (hmx : s.book.length ≤ 1000000) (w : World) (h : RowsAt w ao 5 (s.book.map Ln.cells)) (hc : ∀ k, k < s.book.length → ∀ w', Below w.heap.size w w' → CallsR Tryd.prog F (first ++ [.agg ⟨(s.book.getD k default).cells⟩] ++ capt) w' (fun v _ => v = .bool (decide (p k)))) :
    CallsR Tryd.prog 157 [.slice ao s.book.length c, .func (.func F) ⟨first⟩ ⟨capt⟩] w (fun v _ => v = .bool (decide (0 ≤ idxF p s.book.length))) := by
  refine CallsR.of_SX (n := 9) (rs := [.tmp 4]) Tryd.func157 rfl rfl rfl rfl ?_
  show SX _ _ _ ⟨[(0, .slice ao s.book.length c), (1, .func (.func F) ⟨first⟩ ⟨capt⟩)], [], []⟩
  refine SX.seq ?_
  refine SX.region ?_
  refine SXL.assign rfl ?_
  refine SXL.nil ?_
  refine thenQ.normal ?_
  refine SX.seq ?_
  refine SX.region ?_
  refine SXL.move rfl ?_
  refine SXL.move rfl ?_
  refine SXL.call1 (.int .i64 (idxF p s.book.length)) fn_160 rfl (fun w hI => indexFuncLines s ao c F first capt p hF hmx w (h.inv hI) (fun k hk w' hb => hc k hk w' (belowT hI hb))) ?_
  refine SXL.geq rfl rfl ?_
  refine SXL.assign rfl ?_
  refine SXL.nil ?_
  refine thenQ.normal ?_
  refine SX.ret ?_
  refine retQ.one (ResAt.tmp rfl) ?_
  first | rfl | assumption
theorem in1c_any (n lo hi : Int) (b3 b4 : Nat) (w : World) (h3 : w.cell? ⟨b3, 0, none⟩ = some (.int .i64 lo)) (h4 : w.cell? ⟨b4, 0, none⟩ = some (.int .i64 hi)) :
    CallsR Tryd.prog 120 [.int .i64 n, .pointer (some ⟨b3, 0, none⟩), .pointer (some ⟨b4, 0, none⟩)] w (fun v _ => v = .bool (decide (n < lo ∨ hi < n))) := by
  refine CallsR.of_SX (n := 13) (rs := [.tmp 4]) Tryd.func120 rfl rfl rfl rfl ?_
  show SX _ _ _ ⟨[(0, .int .i64 n), (1, .pointer (some ⟨b3, 0, none⟩)), (2, .pointer (some ⟨b4, 0, none⟩))], [], []⟩
  refine SX.seq ?_
  refine SX.region ?_
  refine SXL.assign rfl ?_
  refine SXL.nil ?_
  refine thenQ.normal ?_
  refine SX.seq ?_
  refine SX.region ?_
  refine SXL.move rfl ?_
  refine SXL.load1 sh_3 rfl (Mem.out1 h3) ?_
  refine SXL.lss rfl rfl ?_
  refine SXL.move rfl ?_
  apply SXL.orG 3
  case hl => exact rfl
  case hd => exact rfl
  case hg => exact rfl
  case ht =>
    intro g1
    refine SXL.pass rfl rfl rfl ?_
    refine SXL.pass rfl rfl rfl ?_
    refine SXL.pass rfl rfl rfl ?_
    exact SXL.nil (segQ.mk (.skip rfl (.skip rfl (.skip rfl (.skip rfl (EnvSub.refl _))))) rfl rfl rfl)
  case hf =>
    intro g1
    refine SXL.move rfl ?_
    refine SXL.load1 sh_3 rfl (Mem.out1 h4) ?_
    refine SXL.gtr rfl rfl ?_
    exact SXL.nil (segQ.mk (.skip rfl (.skip rfl (.skip rfl (.skip rfl (EnvSub.refl _))))) rfl rfl ⟨rfl, rfl⟩)
  refine SXL.assign rfl ?_
  refine SXL.nil ?_
  refine thenQ.normal ?_
  refine SX.ret ?_
  refine retQ.one (ResAt.tmp rfl) ?_
  first | rfl | assumption
theorem in_any (l : List Int) (lo hi : Int) (ao : Option Addr) (c : Nat) (hmx : l.length ≤ 1000000) (w : World) (h : RowsAt w ao 1 (ones l)) :
    CallsR Tryd.prog 78 [.int .i64 lo, .int .i64 hi, .slice ao l.length c] w (fun v _ => v = .bool (decide (∀ x ∈ l, Wi x lo hi))) := by
  refine CallsR.of_SX (n := 11) (rs := [.tmp 6]) Tryd.func78 rfl rfl rfl rfl ?_
  show SX _ _ _ ⟨[(0, .int .i64 lo), (1, .int .i64 hi), (2, .slice ao l.length c)], [], []⟩
  refine SX.seq ?_
  refine SX.region ?_
  refine SXL.box rfl rfl ?_; intro b0
  refine SXL.box rfl rfl ?_; intro b1
  refine SXL.assign rfl ?_
  refine SXL.nil ?_
  refine thenQ.normal ?_
  refine SX.seq ?_
  refine SX.region ?_
  refine SXL.move rfl ?_
  refine SXL.makeFunc rfl rfl ?_
  refine SXL.call1 (.bool (decide (0 ≤ idxF (fun k => l.getD k 0 < lo ∨ hi < l.getD k 0) l.length))) fn_119 rfl (fun w hI => containsFuncInts l ao c 120 [] [.pointer (some ⟨b0, 0, none⟩), .pointer (some ⟨b1, 0, none⟩)] (fun k => l.getD k 0 < lo ∨ hi < l.getD k 0) fn_120 hmx w (h.inv hI) (fun k hk w' hb => in1c_any _ lo hi b0 b1 w' (ownCell (hI.ext hb) (i := 0) rfl rfl) (ownCell (hI.ext hb) (i := 1) rfl rfl))) ?_
  refine SXL.not rfl ?_
  refine SXL.assign rfl ?_
  refine SXL.nil ?_
  refine thenQ.normal ?_
  refine SX.ret ?_
  refine retQ.one (ResAt.tmp rfl) ?_
  exact congrArg Value.bool (decide_eq_decide.2 (by rw [idxF_nonneg]; exact in_iff l lo hi))
theorem in1_own {w0 w : World} {own : X.Own} (hI : Inv w0 own w) (i : Nat) {b : Nat} (x lo hi : Int) {E : TypeId} {fz : Nat × Nat} (he : own[i]? = some (b, .cells ⟨ints [x]⟩ E fz)) :
    CallsR Tryd.prog 78 [.int .i64 lo, .int .i64 hi, .slice (some ⟨b, 0, none⟩) 1 1] w (fun v _ => v = .bool (decide (Wi x lo hi))) :=
  (in_any [x] lo hi _ 1 (by simp) w (ownOnes hI [x] he)).iff (by simp)
theorem in2_own {w0 w : World} {own : X.Own} (hI : Inv w0 own w) (i : Nat) {b : Nat} (x y lo hi : Int) {E : TypeId} {fz : Nat × Nat} (he : own[i]? = some (b, .cells ⟨ints [x, y]⟩ E fz)) :
    CallsR Tryd.prog 78 [.int .i64 lo, .int .i64 hi, .slice (some ⟨b, 0, none⟩) 2 2] w (fun v _ => v = .bool (decide (Wi x lo hi ∧ Wi y lo hi))) :=
  (in_any [x, y] lo hi _ 2 (by simp) w (ownOnes hI [x, y] he)).iff (by simp)
theorem span_any (a b lo hi : Int) (w : World) :
    CallsR Tryd.prog 121 [.agg ⟨[.int .i64 a, .int .i64 b]⟩, .int .i64 lo, .int .i64 hi] w (fun v _ => v = .bool (decide (Spn a b lo hi))) := by
  refine CallsR.of_SX (n := 22) (rs := [.tmp 6]) Tryd.func121 rfl rfl rfl rfl ?_
  show SX _ _ _ ⟨[(0, .agg ⟨[.int .i64 a, .int .i64 b]⟩), (1, .int .i64 lo), (2, .int .i64 hi)], [], []⟩
  refine SX.seq ?_
  refine SX.region ?_
  refine SXL.box rfl rfl ?_; intro b0
  refine SXL.assign rfl ?_
  refine SXL.nil ?_
  refine thenQ.normal ?_
  refine SX.seq ?_
  refine SX.region ?_
  refine SXL.move rfl ?_
  refine SXL.move rfl ?_
  refine SXL.fieldAddr fp_23_0 rfl ?_
  refine SXL.load1o 0 sh_3 rfl rfl rfl ?_
  refine SXL.fieldAddr fp_23_1 rfl ?_
  refine SXL.load1o 0 sh_3 rfl rfl rfl ?_
  refine SXL.buildSlice et_35 zp_3 rfl rfl rfl rfl ?_; intro b1
  refine SXL.call1 (.bool (decide (Wi (a) (lo) (hi) ∧ Wi (b) (lo) (hi)))) fn_78 rfl (fun w hI => in2_own hI 1 (a) (b) (lo) (hi) rfl) ?_
  refine SXL.move rfl ?_
  apply SXL.andG 5
  case hl => exact rfl
  case hd => exact rfl
  case hg => exact rfl
  case ht =>
    intro g1
    refine SXL.fieldAddr fp_23_0 rfl ?_
    refine SXL.load1o 0 sh_3 rfl rfl rfl ?_
    refine SXL.fieldAddr fp_23_1 rfl ?_
    refine SXL.load1o 0 sh_3 rfl rfl rfl ?_
    refine SXL.leq rfl rfl ?_
    exact SXL.nil (segQ.mk (.skip rfl (.skip rfl (.skip rfl (.skip rfl (.skip rfl (.skip rfl (EnvSub.refl _))))))) rfl rfl ⟨rfl, rfl⟩)
  case hf =>
    intro g1
    refine SXL.pass rfl rfl rfl ?_
    refine SXL.pass rfl rfl rfl ?_
    refine SXL.pass rfl rfl rfl ?_
    refine SXL.pass rfl rfl rfl ?_
    refine SXL.pass rfl rfl rfl ?_
    exact SXL.nil (segQ.mk (.skip rfl (.skip rfl (.skip rfl (.skip rfl (.skip rfl (.skip rfl (EnvSub.refl _))))))) rfl rfl rfl)
  refine SXL.assign rfl ?_
  refine SXL.nil ?_
  refine thenQ.normal ?_
  refine SX.ret ?_
  refine retQ.one (ResAt.tmp rfl) ?_
  exact congrArg Value.bool (decide_eq_decide.2 (by omega))
theorem readable_any (x : Rd) (weeks : Int) (hw : -9223372036854775807 ≤ weeks ∧ weeks ≤ 9223372036854775807) (w : World) :
    CallsR Tryd.prog 80 [.agg ⟨x.cells⟩, .int .i64 weeks] w (fun v _ => v = .bool (decide (RdP x weeks))) := by
  refine CallsR.of_SX (n := 34) (rs := [.tmp 4]) Tryd.func80 rfl rfl rfl rfl ?_
  show SX _ _ _ ⟨[(0, .agg ⟨x.cells⟩), (1, .int .i64 weeks)], [], []⟩
  refine SX.seq ?_
  refine SX.region ?_
  refine SXL.box rfl rfl ?_; intro b0
  refine SXL.assign rfl ?_
  refine SXL.nil ?_
  refine thenQ.normal ?_
  refine SX.seq ?_
  refine SX.region ?_
  refine SXL.fieldAddr fp_54_0 rfl ?_
  refine SXL.load1o 0 sh_3 rfl rfl rfl ?_
  refine SXL.buildSlice et_35 zp_3 rfl rfl rfl rfl ?_; intro b1
  refine SXL.call1 (.bool (decide (Wi (x.num) (1) (9999)))) fn_78 rfl (fun w hI => in1_own hI 1 (x.num) (1) (9999) rfl) ?_
  refine SXL.move rfl ?_
  apply SXL.andG 6
  case hl => exact rfl
  case hd => exact rfl
  case hg => exact rfl
  case ht =>
    intro g1
    refine SXL.move rfl ?_
    refine SXL.sub rfl rfl (by omega) ?_
    refine SXL.fieldAddr fp_54_1 rfl ?_
    refine SXL.load1o 0 sh_3 rfl rfl rfl ?_
    refine SXL.buildSlice et_35 zp_3 rfl rfl rfl rfl ?_; intro b2
    refine SXL.call1 (.bool (decide (Wi (x.wk) (0) (weeks - 1)))) fn_78 rfl (fun w hI => in1_own hI 2 (x.wk) (0) (weeks - 1) rfl) ?_
    exact SXL.ownPre (SXL.nil (segQ.mk (.skip rfl (.skip rfl (.skip rfl (.skip rfl (.skip rfl (.skip rfl (.skip rfl (EnvSub.refl _)))))))) rfl rfl ⟨rfl, rfl⟩)) rfl
  case hf =>
    intro g1
    refine SXL.pass rfl rfl rfl ?_
    refine SXL.pass rfl rfl rfl ?_
    refine SXL.pass rfl rfl rfl ?_
    refine SXL.pass rfl rfl rfl ?_
    refine SXL.pass rfl rfl rfl ?_
    refine SXL.pass rfl rfl rfl ?_
    exact SXL.nil (segQ.mk (.skip rfl (.skip rfl (.skip rfl (.skip rfl (.skip rfl (.skip rfl (.skip rfl (EnvSub.refl _)))))))) rfl rfl rfl)
  refine SXL.move rfl ?_
  apply SXL.andG 4
  case hl => exact rfl
  case hd => exact rfl
  case hg => exact rfl
  case ht =>
    intro g2
    refine SXL.fieldAddr fp_54_2 rfl ?_
    refine SXL.load1o 0 sh_3 rfl rfl rfl ?_
    refine SXL.buildSlice et_35 zp_3 rfl rfl rfl rfl ?_; intro b2
    refine SXL.call1 (.bool (decide (Wi (x.bu) (1) (40)))) fn_78 rfl (fun w hI => in1_own hI 2 (x.bu) (1) (40) rfl) ?_
    exact SXL.ownPre (SXL.nil (segQ.mk (.skip rfl (.skip rfl (.skip rfl (.skip rfl (.skip rfl (EnvSub.refl _)))))) rfl rfl ⟨rfl, rfl⟩)) rfl
  case hf =>
    intro g2
    refine SXL.pass rfl rfl rfl ?_
    refine SXL.pass rfl rfl rfl ?_
    refine SXL.pass rfl rfl rfl ?_
    refine SXL.pass rfl rfl rfl ?_
    exact SXL.nil (segQ.mk (.skip rfl (.skip rfl (.skip rfl (.skip rfl (.skip rfl (EnvSub.refl _)))))) rfl rfl rfl)
  refine SXL.move rfl ?_
  apply SXL.andG 3
  case hl => exact rfl
  case hd => exact rfl
  case hg => exact rfl
  case ht =>
    intro g3
    refine SXL.fieldAddr fp_54_3 rfl ?_
    refine SXL.loadNo 0 sh_23 rfl rfl rfl ?_
    refine SXL.call1 (.bool (decide (Spn x.s0 x.s1 0 99))) fn_121 rfl (fun w hI => span_any _ _ _ _ _) ?_
    exact SXL.nil (segQ.mk (.skip rfl (.skip rfl (.skip rfl (.skip rfl (EnvSub.refl _))))) rfl rfl ⟨rfl, rfl⟩)
  case hf =>
    intro g3
    refine SXL.pass rfl rfl rfl ?_
    refine SXL.pass rfl rfl rfl ?_
    refine SXL.pass rfl rfl rfl ?_
    exact SXL.nil (segQ.mk (.skip rfl (.skip rfl (.skip rfl (.skip rfl (EnvSub.refl _))))) rfl rfl rfl)
  refine SXL.move rfl ?_
  apply SXL.andG 4
  case hl => exact rfl
  case hd => exact rfl
  case hg => exact rfl
  case ht =>
    intro g4
    refine SXL.fieldAddr fp_54_3 rfl ?_
    refine SXL.fieldAddr fp_23_1 rfl ?_
    refine SXL.load1o 0 sh_3 rfl rfl rfl ?_
    refine SXL.gtr rfl rfl ?_
    exact SXL.nil (segQ.mk (.skip rfl (.skip rfl (.skip rfl (.skip rfl (.skip rfl (EnvSub.refl _)))))) rfl rfl ⟨rfl, rfl⟩)
  case hf =>
    intro g4
    refine SXL.pass rfl rfl rfl ?_
    refine SXL.pass rfl rfl rfl ?_
    refine SXL.pass rfl rfl rfl ?_
    refine SXL.pass rfl rfl rfl ?_
    exact SXL.nil (segQ.mk (.skip rfl (.skip rfl (.skip rfl (.skip rfl (.skip rfl (EnvSub.refl _)))))) rfl rfl rfl)
  refine SXL.assign rfl ?_
  refine SXL.nil ?_
  refine thenQ.normal ?_
  refine SX.ret ?_
  refine retQ.one (ResAt.tmp rfl) ?_
  first | rfl | assumption
theorem chk0_any (s : Sp) (bo ro : Option Addr) (bc rc : Nat) (w : World) :
    CallsR Tryd.prog 153 [.agg ⟨[.int .i64 s.weeks, .int .i64 s.most, .int .i64 s.fall, .int .i64 s.a0, .int .i64 s.a1, .int .i64 s.w0, .int .i64 s.w1, (.slice bo s.book.length bc), (.slice ro s.reads.length rc)]⟩] w (fun v _ => v = .bool (decide (ckP s 0))) := by
  refine CallsR.of_SX (n := 15) (rs := [.tmp 2]) Tryd.func153 rfl rfl rfl rfl ?_
  show SX _ _ _ ⟨[(0, .agg ⟨[.int .i64 s.weeks, .int .i64 s.most, .int .i64 s.fall, .int .i64 s.a0, .int .i64 s.a1, .int .i64 s.w0, .int .i64 s.w1, (.slice bo s.book.length bc), (.slice ro s.reads.length rc)]⟩)], [], []⟩
  refine SX.seq ?_
  refine SX.region ?_
  refine SXL.box rfl rfl ?_; intro b0
  refine SXL.assign rfl ?_
  refine SXL.nil ?_
  refine thenQ.normal ?_
  refine SX.seq ?_
  refine SX.region ?_
  refine SXL.fieldAddr fp_27_0 rfl ?_
  refine SXL.load1o 0 sh_3 rfl rfl rfl ?_
  refine SXL.buildSlice et_35 zp_3 rfl rfl rfl rfl ?_; intro b1
  refine SXL.call1 (.bool (decide (Wi (s.weeks) (1) (10)))) fn_78 rfl (fun w hI => in1_own hI 1 (s.weeks) (1) (10) rfl) ?_
  refine SXL.move rfl ?_
  apply SXL.andG 6
  case hl => exact rfl
  case hd => exact rfl
  case hg => exact rfl
  case ht =>
    intro g1
    refine SXL.fieldAddr fp_27_1 rfl ?_
    refine SXL.load1o 0 sh_3 rfl rfl rfl ?_
    refine SXL.fieldAddr fp_27_2 rfl ?_
    refine SXL.load1o 0 sh_3 rfl rfl rfl ?_
    refine SXL.buildSlice et_35 zp_3 rfl rfl rfl rfl ?_; intro b2
    refine SXL.call1 (.bool (decide (Wi (s.most) (0) (100) ∧ Wi (s.fall) (0) (100)))) fn_78 rfl (fun w hI => in2_own hI 2 (s.most) (s.fall) (0) (100) rfl) ?_
    exact SXL.ownPre (SXL.nil (segQ.mk (.skip rfl (.skip rfl (.skip rfl (.skip rfl (.skip rfl (.skip rfl (.skip rfl (EnvSub.refl _)))))))) rfl rfl ⟨rfl, rfl⟩)) rfl
  case hf =>
    intro g1
    refine SXL.pass rfl rfl rfl ?_
    refine SXL.pass rfl rfl rfl ?_
    refine SXL.pass rfl rfl rfl ?_
    refine SXL.pass rfl rfl rfl ?_
    refine SXL.pass rfl rfl rfl ?_
    refine SXL.pass rfl rfl rfl ?_
    exact SXL.nil (segQ.mk (.skip rfl (.skip rfl (.skip rfl (.skip rfl (.skip rfl (.skip rfl (.skip rfl (EnvSub.refl _)))))))) rfl rfl rfl)
  refine SXL.assign rfl ?_
  refine SXL.nil ?_
  refine thenQ.normal ?_
  refine SX.ret ?_
  refine retQ.one (ResAt.tmp rfl) ?_
  first | rfl | assumption
theorem chk1_any (s : Sp) (bo ro : Option Addr) (bc rc : Nat) (w : World) :
    CallsR Tryd.prog 154 [.agg ⟨[.int .i64 s.weeks, .int .i64 s.most, .int .i64 s.fall, .int .i64 s.a0, .int .i64 s.a1, .int .i64 s.w0, .int .i64 s.w1, (.slice bo s.book.length bc), (.slice ro s.reads.length rc)]⟩] w (fun v _ => v = .bool (decide (ckP s 1))) := by
  refine CallsR.of_SX (n := 11) (rs := [.tmp 2]) Tryd.func154 rfl rfl rfl rfl ?_
  show SX _ _ _ ⟨[(0, .agg ⟨[.int .i64 s.weeks, .int .i64 s.most, .int .i64 s.fall, .int .i64 s.a0, .int .i64 s.a1, .int .i64 s.w0, .int .i64 s.w1, (.slice bo s.book.length bc), (.slice ro s.reads.length rc)]⟩)], [], []⟩
  refine SX.seq ?_
  refine SX.region ?_
  refine SXL.box rfl rfl ?_; intro b0
  refine SXL.assign rfl ?_
  refine SXL.nil ?_
  refine thenQ.normal ?_
  refine SX.seq ?_
  refine SX.region ?_
  refine SXL.fieldAddr fp_27_3 rfl ?_
  refine SXL.loadNo 0 sh_23 rfl rfl rfl ?_
  refine SXL.call1 (.bool (decide (Spn s.a0 s.a1 1 600))) fn_121 rfl (fun w hI => span_any _ _ _ _ _) ?_
  refine SXL.move rfl ?_
  apply SXL.andG 3
  case hl => exact rfl
  case hd => exact rfl
  case hg => exact rfl
  case ht =>
    intro g1
    refine SXL.fieldAddr fp_27_4 rfl ?_
    refine SXL.loadNo 0 sh_23 rfl rfl rfl ?_
    refine SXL.call1 (.bool (decide (Spn s.w0 s.w1 0 20))) fn_121 rfl (fun w hI => span_any _ _ _ _ _) ?_
    exact SXL.nil (segQ.mk (.skip rfl (.skip rfl (.skip rfl (.skip rfl (EnvSub.refl _))))) rfl rfl ⟨rfl, rfl⟩)
  case hf =>
    intro g1
    refine SXL.pass rfl rfl rfl ?_
    refine SXL.pass rfl rfl rfl ?_
    refine SXL.pass rfl rfl rfl ?_
    exact SXL.nil (segQ.mk (.skip rfl (.skip rfl (.skip rfl (.skip rfl (EnvSub.refl _))))) rfl rfl rfl)
  refine SXL.assign rfl ?_
  refine SXL.nil ?_
  refine thenQ.normal ?_
  refine SX.ret ?_
  refine retQ.one (ResAt.tmp rfl) ?_
  first | rfl | assumption
theorem chk2_any (s : Sp) (bo ro : Option Addr) (bc rc : Nat) (w : World) :
    CallsR Tryd.prog 155 [.agg ⟨[.int .i64 s.weeks, .int .i64 s.most, .int .i64 s.fall, .int .i64 s.a0, .int .i64 s.a1, .int .i64 s.w0, .int .i64 s.w1, (.slice bo s.book.length bc), (.slice ro s.reads.length rc)]⟩] w (fun v _ => v = .bool (decide (ckP s 2))) := by
  refine CallsR.of_SX (n := 13) (rs := [.tmp 2]) Tryd.func155 rfl rfl rfl rfl ?_
  show SX _ _ _ ⟨[(0, .agg ⟨[.int .i64 s.weeks, .int .i64 s.most, .int .i64 s.fall, .int .i64 s.a0, .int .i64 s.a1, .int .i64 s.w0, .int .i64 s.w1, (.slice bo s.book.length bc), (.slice ro s.reads.length rc)]⟩)], [], []⟩
  refine SX.seq ?_
  refine SX.region ?_
  refine SXL.box rfl rfl ?_; intro b0
  refine SXL.assign rfl ?_
  refine SXL.nil ?_
  refine thenQ.normal ?_
  refine SX.seq ?_
  refine SX.region ?_
  refine SXL.fieldAddr fp_27_5 rfl ?_
  refine SXL.load1o 0 sh_24 rfl rfl rfl ?_
  refine SXL.len is_24 rfl ?_
  refine SXL.leq rfl rfl ?_
  refine SXL.move rfl ?_
  apply SXL.andG 4
  case hl => exact rfl
  case hd => exact rfl
  case hg => exact rfl
  case ht =>
    intro g1
    refine SXL.fieldAddr fp_27_6 rfl ?_
    refine SXL.load1o 0 sh_25 rfl rfl rfl ?_
    refine SXL.len is_25 rfl ?_
    refine SXL.leq rfl rfl ?_
    exact SXL.nil (segQ.mk (.skip rfl (.skip rfl (.skip rfl (.skip rfl (.skip rfl (EnvSub.refl _)))))) rfl rfl ⟨rfl, rfl⟩)
  case hf =>
    intro g1
    refine SXL.pass rfl rfl rfl ?_
    refine SXL.pass rfl rfl rfl ?_
    refine SXL.pass rfl rfl rfl ?_
    refine SXL.pass rfl rfl rfl ?_
    exact SXL.nil (segQ.mk (.skip rfl (.skip rfl (.skip rfl (.skip rfl (.skip rfl (EnvSub.refl _)))))) rfl rfl rfl)
  refine SXL.assign rfl ?_
  refine SXL.nil ?_
  refine thenQ.normal ?_
  refine SX.ret ?_
  refine retQ.one (ResAt.tmp rfl) ?_
  first | rfl | assumption
theorem line_any (x : Ln) (weeks : Int) (b : Nat) (hw : Wi weeks 1 10) (w : World) (h : w.cell? ⟨b, 0, none⟩ = some (.int .i64 weeks)) :
    CallsR Tryd.prog 158 [.agg ⟨x.cells⟩, .pointer (some ⟨b, 0, none⟩)] w (fun v _ => v = .bool (decide (¬LnP x weeks))) := by
  refine CallsR.of_SX (n := 24) (rs := [.tmp 3]) Tryd.func158 rfl rfl rfl rfl ?_
  show SX _ _ _ ⟨[(0, .agg ⟨x.cells⟩), (1, .pointer (some ⟨b, 0, none⟩))], [], []⟩
  refine SX.seq ?_
  refine SX.region ?_
  refine SXL.box rfl rfl ?_; intro b0
  refine SXL.assign rfl ?_
  refine SXL.nil ?_
  refine thenQ.normal ?_
  refine SX.seq ?_
  refine SX.region ?_
  refine SXL.fieldAddr fp_61_0 rfl ?_
  refine SXL.loadNo 0 sh_23 rfl rfl rfl ?_
  refine SXL.call1 (.bool (decide (Spn x.r0 x.r1 0 20))) fn_121 rfl (fun w hI => span_any _ _ _ _ _) ?_
  refine SXL.not rfl ?_
  refine SXL.move rfl ?_
  apply SXL.orG 8
  case hl => exact rfl
  case hd => exact rfl
  case hg => exact rfl
  case ht =>
    intro g1
    refine SXL.pass rfl rfl rfl ?_
    refine SXL.pass rfl rfl rfl ?_
    refine SXL.pass rfl rfl rfl ?_
    refine SXL.pass rfl rfl rfl ?_
    refine SXL.pass rfl rfl rfl ?_
    refine SXL.pass rfl rfl rfl ?_
    refine SXL.pass rfl rfl rfl ?_
    refine SXL.pass rfl rfl rfl ?_
    exact SXL.nil (segQ.mk (.skip rfl (.skip rfl (.skip rfl (.skip rfl (.skip rfl (.skip rfl (.skip rfl (.skip rfl (.skip rfl (EnvSub.refl _)))))))))) rfl rfl rfl)
  case hf =>
    intro g1
    refine SXL.fieldAddr fp_27_0 rfl ?_
    refine SXL.load1 sh_3 rfl (Mem.out1 h) ?_
    refine SXL.sub rfl rfl (by omega) ?_
    refine SXL.fieldAddr fp_61_1 rfl ?_
    refine SXL.load1o 0 sh_3 rfl rfl rfl ?_
    refine SXL.buildSlice et_35 zp_3 rfl rfl rfl rfl ?_; intro b1
    refine SXL.call1 (.bool (decide (Wi (x.wk) (0) (weeks - 1)))) fn_78 rfl (fun w hI => in1_own hI 1 (x.wk) (0) (weeks - 1) rfl) ?_
    refine SXL.not rfl ?_
    exact SXL.ownPre (SXL.nil (segQ.mk (.skip rfl (.skip rfl (.skip rfl (.skip rfl (.skip rfl (.skip rfl (.skip rfl (.skip rfl (.skip rfl (EnvSub.refl _)))))))))) rfl rfl ⟨rfl, rfl⟩)) rfl
  refine SXL.move rfl ?_
  apply SXL.orG 4
  case hl => exact rfl
  case hd => exact rfl
  case hg => exact rfl
  case ht =>
    intro g2
    refine SXL.pass rfl rfl rfl ?_
    refine SXL.pass rfl rfl rfl ?_
    refine SXL.pass rfl rfl rfl ?_
    refine SXL.pass rfl rfl rfl ?_
    exact SXL.nil (segQ.mk (.skip rfl (.skip rfl (.skip rfl (.skip rfl (.skip rfl (EnvSub.refl _)))))) rfl rfl rfl)
  case hf =>
    intro g2
    refine SXL.fieldAddr fp_61_2 rfl ?_
    refine SXL.loadNo 0 sh_23 rfl rfl rfl ?_
    refine SXL.call1 (.bool (decide (Spn x.g0 x.g1 0 100))) fn_121 rfl (fun w hI => span_any _ _ _ _ _) ?_
    refine SXL.not rfl ?_
    exact SXL.nil (segQ.mk (.skip rfl (.skip rfl (.skip rfl (.skip rfl (.skip rfl (EnvSub.refl _)))))) rfl rfl ⟨rfl, rfl⟩)
  refine SXL.assign rfl ?_
  refine SXL.nil ?_
  refine thenQ.normal ?_
  refine SX.ret ?_
  refine retQ.one (ResAt.tmp rfl) ?_
  exact congrArg Value.bool (decide_eq_decide.2 (by unfold LnP Spn; omega))
theorem chk3_any (s : Sp) (bo ro : Option Addr) (bc rc : Nat) (hw : Wi s.weeks 1 10) (hb : s.book.length ≤ 1000000) (w : World) (hs : SpAt w s bo ro) :
    CallsR Tryd.prog 156 [.agg ⟨[.int .i64 s.weeks, .int .i64 s.most, .int .i64 s.fall, .int .i64 s.a0, .int .i64 s.a1, .int .i64 s.w0, .int .i64 s.w1, (.slice bo s.book.length bc), (.slice ro s.reads.length rc)]⟩] w (fun v _ => v = .bool (decide (ckP s 3))) := by
  refine CallsR.of_SX (n := 8) (rs := [.tmp 2]) Tryd.func156 rfl rfl rfl rfl ?_
  show SX _ _ _ ⟨[(0, .agg ⟨[.int .i64 s.weeks, .int .i64 s.most, .int .i64 s.fall, .int .i64 s.a0, .int .i64 s.a1, .int .i64 s.w0, .int .i64 s.w1, (.slice bo s.book.length bc), (.slice ro s.reads.length rc)]⟩)], [], []⟩
  refine SX.seq ?_
  refine SX.region ?_
  refine SXL.box rfl rfl ?_; intro b0
  refine SXL.assign rfl ?_
  refine SXL.nil ?_
  refine thenQ.normal ?_
  refine SX.seq ?_
  refine SX.region ?_
  refine SXL.fieldAddr fp_27_5 rfl ?_
  refine SXL.load1o 0 sh_24 rfl rfl rfl ?_
  refine SXL.makeFunc rfl rfl ?_
  refine SXL.call1 (.bool (decide (0 ≤ idxF (fun k => ¬LnP (s.book.getD k default) s.weeks) s.book.length))) fn_157 rfl (fun w hI => containsFuncLines s bo bc 158 [] [.pointer (some ⟨b0, 0, none⟩)] (fun k => ¬LnP (s.book.getD k default) s.weeks) fn_158 hb w (hs.book.inv hI) (fun k hk w' hb => line_any _ s.weeks b0 hw w' (ownCell (hI.ext hb) (i := 0) rfl rfl))) ?_
  refine SXL.not rfl ?_
  refine SXL.assign rfl ?_
  refine SXL.nil ?_
  refine thenQ.normal ?_
  refine SX.ret ?_
  refine retQ.one (ResAt.tmp rfl) ?_
  exact congrArg Value.bool (decide_eq_decide.2 (by rw [idxF_nonneg]; exact book_iff s))
theorem chk4_any (s : Sp) (bo ro : Option Addr) (bc rc : Nat) (hw : Wi s.weeks 1 10) (hr : s.reads.length ≤ 1000000) (w : World) (hs : SpAt w s bo ro) :
    CallsR Tryd.prog 159 [.agg ⟨[.int .i64 s.weeks, .int .i64 s.most, .int .i64 s.fall, .int .i64 s.a0, .int .i64 s.a1, .int .i64 s.w0, .int .i64 s.w1, (.slice bo s.book.length bc), (.slice ro s.reads.length rc)]⟩] w (fun v _ => v = .bool (decide (ckP s 4))) := by
  refine CallsR.of_SX (n := 27) (rs := [.tmp 2]) Tryd.func159 rfl rfl rfl rfl ?_
  show SX _ _ _ ⟨[(0, .agg ⟨[.int .i64 s.weeks, .int .i64 s.most, .int .i64 s.fall, .int .i64 s.a0, .int .i64 s.a1, .int .i64 s.w0, .int .i64 s.w1, (.slice bo s.book.length bc), (.slice ro s.reads.length rc)]⟩)], [], []⟩
  refine SX.seq ?_
  refine SX.region ?_
  refine SXL.box rfl rfl ?_; intro b0
  refine SXL.assign rfl ?_
  refine SXL.nil ?_
  refine thenQ.normal ?_
  refine SX.seq ?_
  refine SX.region ?_
  refine SXL.assign rfl ?_
  refine SXL.nil ?_
  refine thenQ.normal ?_
  refine SX.seq ?_
  refine SX.seq ?_
  refine SX.region ?_
  refine SXL.fieldAddr fp_27_6 rfl ?_
  refine SXL.load1o 0 sh_25 rfl rfl rfl ?_
  refine SXL.len is_25 rfl ?_
  refine SXL.move rfl ?_
  refine SXL.nil ?_
  refine thenQ.normal ?_
  refine SX.block ?_
  refine SX.loopG (α := Nat) [1, 2, 7, 8] rfl (fun k => [(9, .int .i64 ((k : Int))), (3, .int .i64 ((lastN s k)))]) (fun k => []) (fun k => k ≤ s.reads.length ∧ ∀ i, i < k → RdP (s.reads.getD i default) s.weeks ∧ lastN s i < (s.reads.getD i default).num) (fun k => s.reads.length - k) 0 ⟨Nat.zero_le _, fun _ h => absurd h (Nat.not_lt_zero _)⟩ ⟨rfl, rfl, trivial⟩ rfl ?_
  rintro k ⟨hk, hall⟩
  refine SX.seq ?_
  refine SX.region ?_
  refine SXL.lss rfl rfl ?_
  refine SXL.nil ?_
  refine thenQ.normal ?_
  refine SX.seq ?_
  refine SX.condP rfl (fun c10 => ?_) (fun c10 => ?_)
  · refine SX.skip ?_
    refine thenQ.normal ?_
    refine SX.seq ?_
    refine SX.block ?_
    refine SX.seq ?_
    obtain ⟨b, o, ha, hm⟩ := hs.readD (i := k) (by omega)
    refine SX.region ?_
    refine SXL.indexR el_25 rfl rfl ha (by omega) ?_
    refine SXL.loadN sh_54 rfl (hm _) rfl ?_
    refine SXL.alloc zp_54 ?_; intro b1
    refine SXL.store 1 sz_54 rfl rfl rfl rfl rfl rfl ?_
    refine SXL.nil ?_
    refine thenQ.normal ?_
    refine SX.seq ?_
    refine SX.seq ?_
    refine SX.region ?_
    refine SXL.fieldAddr fp_54_0 rfl ?_
    refine SXL.load1o 1 sh_3 rfl rfl rfl ?_
    refine SXL.move rfl ?_
    refine SXL.leq rfl rfl ?_
    refine SXL.move rfl ?_
    apply SXL.orG 5
    case hl => exact rfl
    case hd => exact rfl
    case hg => exact rfl
    case ht =>
      intro c23
      refine SXL.pass rfl rfl rfl ?_
      refine SXL.pass rfl rfl rfl ?_
      refine SXL.pass rfl rfl rfl ?_
      refine SXL.pass rfl rfl rfl ?_
      refine SXL.pass rfl rfl rfl ?_
      exact SXL.nil (segQ.mk (.skip rfl (.skip rfl (.skip rfl (.skip rfl (.skip rfl (.skip rfl (EnvSub.refl _))))))) rfl rfl rfl)
    case hf =>
      intro c23
      refine SXL.loadNo 1 sh_54 rfl rfl rfl ?_
      refine SXL.fieldAddr fp_27_0 rfl ?_
      refine SXL.load1o 0 sh_3 rfl rfl rfl ?_
      refine SXL.call1 (.bool (decide (RdP (s.reads.getD k default) s.weeks))) fn_80 rfl (fun w hI => readable_any _ _ (by omega) _) ?_
      refine SXL.not rfl ?_
      exact SXL.nil (segQ.mk (.skip rfl (.skip rfl (.skip rfl (.skip rfl (.skip rfl (.skip rfl (EnvSub.refl _))))))) rfl rfl ⟨rfl, rfl⟩)
    refine SXL.nil ?_
    refine thenQ.normal ?_
    refine SX.condP rfl (fun c23 => ?_) (fun c23 => ?_)
    · refine SX.seq ?_
      refine SX.region ?_
      refine SXL.assign rfl ?_
      refine SXL.nil ?_
      refine thenQ.normal ?_
      refine SX.ret ?_
      refine thenQ.ret ?_
      refine blockQ.ret ?_
      refine thenQ.ret ?_
      refine thenQ.ret ?_
      refine blockQ.ret ?_
      refine thenQ.ret ?_
      refine retQ.one (ResAt.tmp rfl) ?_
      exact congrArg Value.bool (decide_eq_false (by intro h; have := (reads_iff s).1 h k (by omega); omega)).symm
    · refine SX.skip ?_
      refine thenQ.normal ?_
      refine SX.region ?_
      refine SXL.fieldAddr fp_54_0 rfl ?_
      refine SXL.load1o 1 sh_3 rfl rfl rfl ?_
      refine SXL.assign rfl ?_
      refine SXL.nil ?_
      refine blockQ.normal ?_
      refine thenQ.normal ?_
      refine SX.region ?_
      refine SXL.add rfl rfl (by omega) ?_
      refine SXL.move rfl ?_
      refine SXL.nil ?_
      refine thenQ.normal ?_
      refine ⟨k + 1, Meets.mk _ ⟨rfl, rfl, trivial⟩ ⟨rfl, rfl, rfl, rfl, trivial⟩ rfl, ?_, (by omega)⟩
      refine ⟨by omega, fun i hi => ?_⟩
      by_cases e : i = k
      · subst e; omega
      · exact hall i (by omega)
  · refine SX.exit ?_
    refine thenQ.exit ?_
    refine thenQ.exit ?_
    refine blockQ.exit ?_
    refine thenQ.normal ?_
    refine SX.seq ?_
    refine SX.region ?_
    refine SXL.assign rfl ?_
    refine SXL.nil ?_
    refine thenQ.normal ?_
    refine SX.ret ?_
    refine retQ.one (ResAt.tmp rfl) ?_
    exact congrArg Value.bool (decide_eq_true ((reads_iff s).2 fun i hi => hall i (by omega))).symm
theorem chk_any (s : Sp) (bo ro : Option Addr) (bc rc : Nat) (k : Nat) (hk : k < 5) (hall : ∀ i, i < k → ckP s i) (hb : s.book.length ≤ 1000000) (hr : s.reads.length ≤ 1000000) (w : World) (hs : SpAt w s bo ro) :
    CallsR Tryd.prog (chkId k) [.agg ⟨[.int .i64 s.weeks, .int .i64 s.most, .int .i64 s.fall, .int .i64 s.a0, .int .i64 s.a1, .int .i64 s.w0, .int .i64 s.w1, (.slice bo s.book.length bc), (.slice ro s.reads.length rc)]⟩] w (fun v _ => v = .bool (decide (ckP s k))) := by
  match k, hk with
  | 0, _ => exact chk0_any s bo ro bc rc w
  | 1, _ => exact chk1_any s bo ro bc rc w
  | 2, _ => exact chk2_any s bo ro bc rc w
  | 3, _ => exact chk3_any s bo ro bc rc (hall 0 (by omega)).1 hb w hs
  | 4, _ => exact chk4_any s bo ro bc rc (hall 0 (by omega)).1 hr w hs
theorem fn_chk (k : Nat) (hk : k < 5) : fnOk Tryd.prog (chkId k) = true := by
  match k, hk with
  | 0, _ => exact fn_153
  | 1, _ => exact fn_154
  | 2, _ => exact fn_155
  | 3, _ => exact fn_156
  | 4, _ => exact fn_159
end Go.Proofs.YtknflipongbngaaDoor

/- The walks of functions. -/
namespace Go.Proofs.YtknflipongbngaaDoor
open Go.X Go.S Go.RowKit
theorem scheck_any (s : Sp) (bo ro : Option Addr) (bc rc : Nat) (hb : s.book.length ≤ 1000000) (hr : s.reads.length ≤ 1000000) (w : World) (hg : Gl w) (hs : SpAt w s bo ro) :
    CallsR Tryd.prog 26 [.agg ⟨[.int .i64 s.weeks, .int .i64 s.most, .int .i64 s.fall, .int .i64 s.a0, .int .i64 s.a1, .int .i64 s.w0, .int .i64 s.w1, (.slice bo s.book.length bc), (.slice ro s.reads.length rc)]⟩] w (fun v _ => v = .int .i64 (if SpP s then 0 else 10)) := by
  refine CallsR.of_SX (n := 15) (rs := [.tmp 2]) Tryd.func26 rfl rfl rfl rfl ?_
  show SX _ _ _ ⟨[(0, .agg ⟨[.int .i64 s.weeks, .int .i64 s.most, .int .i64 s.fall, .int .i64 s.a0, .int .i64 s.a1, .int .i64 s.w0, .int .i64 s.w1, (.slice bo s.book.length bc), (.slice ro s.reads.length rc)]⟩)], [], []⟩
  refine SX.seq ?_
  refine SX.region ?_
  refine SXL.box rfl rfl ?_; intro b0
  refine SXL.assign rfl ?_
  refine SXL.nil ?_
  refine thenQ.normal ?_
  refine SX.seq ?_
  refine SX.seq ?_
  refine SX.region ?_
  refine SXL.loadN sh_131 rfl (hg.memC _) rfl ?_
  refine SXL.move rfl ?_
  refine SXL.nil ?_
  refine thenQ.normal ?_
  refine SX.block ?_
  refine SX.loopG (α := Nat) [1, 2, 5] rfl (fun k => [(6, .int .i64 ((k : Int)))]) (fun k => []) (fun k => k ≤ 5 ∧ ∀ i, i < k → ckP s i) (fun k => 5 - k) 0 ⟨Nat.zero_le _, fun _ h => absurd h (Nat.not_lt_zero _)⟩ ⟨rfl, trivial⟩ rfl ?_
  rintro k ⟨hk, hall⟩
  refine SX.seq ?_
  refine SX.region ?_
  refine SXL.lss rfl rfl ?_
  refine SXL.nil ?_
  refine thenQ.normal ?_
  refine SX.seq ?_
  refine SX.condP rfl (fun c7 => ?_) (fun c7 => ?_)
  · refine SX.skip ?_
    refine thenQ.normal ?_
    refine SX.seq ?_
    refine SX.block ?_
    refine SX.seq ?_
    refine SX.region ?_
    refine SXL.indexV ae_131 sh_130 rfl rfl (by omega) (chk_take k (by omega)) ?_
    refine SXL.alloc zp_130 ?_; intro b1
    refine SXL.store 1 sz_130 rfl rfl rfl rfl rfl rfl ?_
    refine SXL.nil ?_
    refine thenQ.normal ?_
    refine SX.seq ?_
    refine SX.region ?_
    refine SXL.fieldAddr fp_130_0 rfl ?_
    refine SXL.load1o 1 sh_28 rfl rfl rfl ?_
    refine SXL.loadNo 0 sh_27 rfl rfl rfl ?_
    refine SXL.call1V (.bool (decide (ckP s k))) (fn_chk k (by omega)) rfl rfl (fun w hI => chk_any s bo ro bc rc k (by omega) hall hb hr w (hs.inv hI)) ?_
    refine SXL.not rfl ?_
    refine SXL.nil ?_
    refine thenQ.normal ?_
    refine SX.condP rfl (fun c13 => ?_) (fun c13 => ?_)
    · refine SX.seq ?_
      refine SX.region ?_
      refine SXL.assign rfl ?_
      refine SXL.nil ?_
      refine thenQ.normal ?_
      refine SX.ret ?_
      refine blockQ.ret ?_
      refine thenQ.ret ?_
      refine thenQ.ret ?_
      refine blockQ.ret ?_
      refine thenQ.ret ?_
      refine retQ.one (ResAt.tmp rfl) ?_
      rw [if_neg (fun h => c13 ((ck_iff s).1 h k (by omega)))]
    · refine SX.skip ?_
      refine blockQ.normal ?_
      refine thenQ.normal ?_
      refine SX.region ?_
      refine SXL.add rfl rfl (by omega) ?_
      refine SXL.move rfl ?_
      refine SXL.nil ?_
      refine thenQ.normal ?_
      refine ⟨k + 1, Meets.mk _ ⟨rfl, trivial⟩ ⟨rfl, rfl, rfl, trivial⟩ rfl, ?_, (by omega)⟩
      refine ⟨by omega, fun i hi => ?_⟩
      by_cases e : i = k
      · subst e; exact Decidable.not_not.1 c13
      · exact hall i (by omega)
  · refine SX.exit ?_
    refine thenQ.exit ?_
    refine thenQ.exit ?_
    refine blockQ.exit ?_
    refine thenQ.normal ?_
    refine SX.seq ?_
    refine SX.region ?_
    refine SXL.assign rfl ?_
    refine SXL.nil ?_
    refine thenQ.normal ?_
    refine SX.ret ?_
    refine retQ.one (ResAt.tmp rfl) ?_
    rw [if_pos ((ck_iff s).2 fun i hi => hall i (by omega))]
theorem both_any (a b c d : Int) (w : World) (hg : Gl w) :
    CallsR Tryd.prog 116 [.agg ⟨[.int .i64 a, .int .i64 b]⟩, .agg ⟨[.int .i64 c, .int .i64 d]⟩] w (fun v _ => v = spanV (bothP a b c d)) := by
  refine CallsR.of_SX (n := 24) (rs := [.cell 4 23]) Tryd.func116 rfl rfl rfl rfl ?_
  show SX _ _ _ ⟨[(0, .agg ⟨[.int .i64 a, .int .i64 b]⟩), (1, .agg ⟨[.int .i64 c, .int .i64 d]⟩)], [], []⟩
  refine SX.seq ?_
  refine SX.region ?_
  refine SXL.box rfl rfl ?_; intro b0
  refine SXL.box rfl rfl ?_; intro b1
  refine SXL.alloc zp_23 ?_; intro b2
  refine SXL.nil ?_
  refine thenQ.normal ?_
  refine SX.seq ?_
  refine SX.region ?_
  refine SXL.fieldAddr fp_23_0 rfl ?_
  refine SXL.load1o 0 sh_3 rfl rfl rfl ?_
  refine SXL.fieldAddr fp_23_0 rfl ?_
  refine SXL.load1o 1 sh_3 rfl rfl rfl ?_
  refine SXL.max rfl rfl ?_
  refine SXL.fieldAddr fp_23_1 rfl ?_
  refine SXL.load1o 0 sh_3 rfl rfl rfl ?_
  refine SXL.fieldAddr fp_23_1 rfl ?_
  refine SXL.load1o 1 sh_3 rfl rfl rfl ?_
  refine SXL.min rfl rfl ?_
  refine SXL.buildS pl_23 zp_23 rfl rfl ?_
  refine SXL.alloc zp_23 ?_; intro b3
  refine SXL.store 3 sz_23 rfl rfl rfl rfl rfl rfl ?_
  refine SXL.nil ?_
  refine thenQ.normal ?_
  refine SX.seq ?_
  refine SX.seq ?_
  refine SX.region ?_
  refine SXL.fieldAddr fp_23_0 rfl ?_
  refine SXL.load1o 3 sh_3 rfl rfl rfl ?_
  refine SXL.fieldAddr fp_23_1 rfl ?_
  refine SXL.load1o 3 sh_3 rfl rfl rfl ?_
  refine SXL.gtr rfl rfl ?_
  refine SXL.nil ?_
  refine thenQ.normal ?_
  refine SX.condP rfl (fun c21 => ?_) (fun c21 => ?_)
  · refine SX.seq ?_
    refine SX.region ?_
    refine SXL.loadN sh_23 rfl (hg.memN _) rfl ?_
    refine SXL.store 2 sz_23 rfl rfl rfl rfl rfl rfl ?_
    refine SXL.nil ?_
    refine thenQ.normal ?_
    refine SX.ret ?_
    refine thenQ.ret ?_
    refine retQ.one (ResAt.cellNo 2 sh_23 rfl rfl rfl) ?_
    rw [bothP, if_pos c21]; rfl
  · refine SX.skip ?_
    refine thenQ.normal ?_
    refine SX.seq ?_
    refine SX.region ?_
    refine SXL.loadNo 3 sh_23 rfl rfl rfl ?_
    refine SXL.store 2 sz_23 rfl rfl rfl rfl rfl rfl ?_
    refine SXL.nil ?_
    refine thenQ.normal ?_
    refine SX.ret ?_
    refine retQ.one (ResAt.cellNo 2 sh_23 rfl rfl rfl) ?_
    rw [bothP, if_neg c21]; rfl
theorem reads_any (s : Sp) (bo ro : Option Addr) (bc rc : Nat) (x : Rd) (h1 : Spn s.a0 s.a1 1 600) (h2 : Spn x.s0 x.s1 0 99) (h3 : Wi x.bu 1 40) (h4 : 0 < x.s1) (_h5 : Wi s.most 0 100) (w : World) (hg : Gl w) :
    CallsR Tryd.prog 81 [.agg ⟨[.int .i64 s.weeks, .int .i64 s.most, .int .i64 s.fall, .int .i64 s.a0, .int .i64 s.a1, .int .i64 s.w0, .int .i64 s.w1, (.slice bo s.book.length bc), (.slice ro s.reads.length rc)]⟩, .agg ⟨x.cells⟩] w (fun v _ => v = spanV (readsP s x)) := by
  have m1 := mul2 (a := x.s1) (b := s.a1) (A := 99) (B := 600) (by omega) (by omega) (by omega) (by omega)
  have m2 := mul2 (a := x.s0) (b := s.a0) (A := 99) (B := 600) (by omega) (by omega) (by omega) (by omega)
  have m3 := Int.mul_pos h4 (show 0 < s.a1 by omega)
  refine CallsR.of_SX (n := 49) (rs := [.cell 4 23]) Tryd.func81 rfl rfl rfl rfl ?_
  show SX _ _ _ ⟨[(0, .agg ⟨[.int .i64 s.weeks, .int .i64 s.most, .int .i64 s.fall, .int .i64 s.a0, .int .i64 s.a1, .int .i64 s.w0, .int .i64 s.w1, (.slice bo s.book.length bc), (.slice ro s.reads.length rc)]⟩), (1, .agg ⟨x.cells⟩)], [], []⟩
  refine SX.seq ?_
  refine SX.region ?_
  refine SXL.box rfl rfl ?_; intro b0
  refine SXL.box rfl rfl ?_; intro b1
  refine SXL.alloc zp_23 ?_; intro b2
  refine SXL.nil ?_
  refine thenQ.normal ?_
  refine SX.seq ?_
  refine SX.region ?_
  refine SXL.fieldAddr fp_54_2 rfl ?_
  refine SXL.load1o 1 sh_3 rfl rfl rfl ?_
  refine SXL.mul rfl rfl (by omega) ?_
  refine SXL.assign rfl ?_
  refine SXL.nil ?_
  refine thenQ.normal ?_
  refine SX.seq ?_
  refine SX.draw 16 (by kernel_rfl) (by kernel_rfl) {} ?_
  refine SXA.take 0 16 rfl (by kernel_rfl) rfl ?_
  refine SXL.fieldAddr fp_54_3 rfl ?_
  refine SXL.fieldAddr fp_23_1 rfl ?_
  refine SXL.load1o 1 sh_3 rfl rfl rfl ?_
  refine SXL.fieldAddr fp_27_3 rfl ?_
  refine SXL.fieldAddr fp_23_1 rfl ?_
  refine SXL.load1o 0 sh_3 rfl rfl rfl ?_
  refine SXL.mul rfl rfl (by omega) ?_
  refine SXL.fieldAddr fp_54_3 rfl ?_
  refine SXL.fieldAddr fp_23_0 rfl ?_
  refine SXL.load1o 1 sh_3 rfl rfl rfl ?_
  refine SXL.fieldAddr fp_27_3 rfl ?_
  refine SXL.fieldAddr fp_23_0 rfl ?_
  refine SXL.load1o 0 sh_3 rfl rfl rfl ?_
  refine SXL.mul rfl rfl (by omega) ?_
  refine SXL.assign rfl ?_
  refine SXL.assign rfl ?_
  refine SXL.nil ⟨rfl, rfl, rfl, ?_⟩
  refine SXA.done (by kernel_rfl) ?_
  refine SXL.nil ?_
  refine thenQ.normal ?_
  refine SX.seq ?_
  refine SX.draw 10 (by kernel_rfl) (by kernel_rfl) {} ?_
  refine SXA.take 0 9 rfl (by kernel_rfl) rfl ?_
  refine SXL.move rfl ?_
  refine SXL.move rfl ?_
  refine SXL.add rfl rfl (by omega) ?_
  refine SXL.sub rfl rfl (by omega) ?_
  refine SXL.move rfl ?_
  refine SXL.quo rfl rfl (by omega) ?_
  refine SXL.fieldAddr fp_27_1 rfl ?_
  refine SXL.load1o 0 sh_3 rfl rfl rfl ?_
  refine SXL.buildS pl_23 zp_23 rfl rfl ?_
  refine SXL.nil ⟨rfl, rfl, rfl, ?_⟩
  refine SXA.all [9] (by kernel_rfl) rfl ⟨⟨?_, rfl⟩, trivial⟩
  refine (show SXL _ _ [_] _ _ from ?_)
  refine SXL.alloc zp_23 ?_; intro b3
  refine SXL.nil (stepQ.mk _ rfl rfl ?_)
  refine SXA.done (by kernel_rfl) ?_
  refine SXL.store 3 sz_23 rfl rfl rfl rfl rfl rfl ?_
  refine SXL.nil ?_
  refine thenQ.normal ?_
  refine SX.cutG (α := Unit) [2, 4, 8] rfl (fun _u => []) (fun _u => [(3, (b3, .cells ⟨[.int .i64 ((3600 * x.bu + x.s1 * s.a1 - 1) / (x.s1 * s.a1)), .int .i64 (if 0 < x.s0 * s.a0 then min s.most ((3600 * x.bu) / (x.s0 * s.a0)) else s.most)]⟩ 23 (0, 0)))]) (fun _u => True) ?_ ?_
  · refine SX.seq ?_
    refine SX.region ?_
    refine SXL.move rfl ?_
    refine SXL.gtr rfl rfl ?_
    refine SXL.nil ?_
    refine thenQ.normal ?_
    refine SX.condP rfl (fun c36 => ?_) (fun c36 => ?_)
    · refine SX.draw 7 (by kernel_rfl) (by kernel_rfl) {} ?_
      refine SXA.take 0 7 rfl (by kernel_rfl) rfl ?_
      refine SXL.fieldAddr fp_23_1 rfl ?_
      refine SXL.load1o 3 sh_3 rfl rfl rfl ?_
      refine SXL.move rfl ?_
      refine SXL.move rfl ?_
      refine SXL.quo rfl rfl (by omega) ?_
      refine SXL.min rfl rfl ?_
      refine SXL.fieldAddr fp_23_1 rfl ?_
      refine SXL.nil ⟨rfl, rfl, rfl, ?_⟩
      refine SXA.done (by kernel_rfl) ?_
      refine SXL.store 3 sz_3 rfl rfl rfl rfl rfl rfl ?_
      refine SXL.nil ?_
      refine thenQ.normal ?_
      refine ⟨(), Meets.mk _ trivial ⟨rfl, rfl, rfl, trivial⟩ (by first | (rw [if_pos c36]; rfl) | (rw [if_neg c36]; rfl)), trivial⟩
    · refine SX.skip ?_
      refine thenQ.normal ?_
      refine ⟨(), Meets.mk _ trivial ⟨rfl, rfl, rfl, trivial⟩ (by first | (rw [if_pos c36]; rfl) | (rw [if_neg c36]; rfl)), trivial⟩
  rintro _ _
  refine SX.seq ?_
  refine SX.region ?_
  refine SXL.loadNo 3 sh_23 rfl rfl rfl ?_
  refine SXL.fieldAddr fp_27_1 rfl ?_
  refine SXL.load1o 0 sh_3 rfl rfl rfl ?_
  refine SXL.buildS pl_23 zp_23 rfl rfl ?_
  refine SXL.call1 (spanV (bothP ((3600 * x.bu + x.s1 * s.a1 - 1) / (x.s1 * s.a1)) (if 0 < x.s0 * s.a0 then min s.most ((3600 * x.bu) / (x.s0 * s.a0)) else s.most) (0) (s.most))) fn_116 rfl (fun w hI => both_any _ _ _ _ _ (hg.inv hI)) ?_
  refine SXL.store 2 sz_23 rfl rfl rfl rfl rfl rfl ?_
  refine SXL.nil ?_
  refine thenQ.normal ?_
  refine SX.ret ?_
  refine retQ.one (ResAt.cellNo 2 sh_23 rfl rfl rfl) ?_
  first | rfl | assumption
theorem flowing_any (s : Sp) (bo ro : Option Addr) (bc rc : Nat) (hv : SpP s) (w : World) (hg : Gl w) (hs : SpAt w s bo ro) :
    CallsR Tryd.prog 72 [.agg ⟨[.int .i64 s.weeks, .int .i64 s.most, .int .i64 s.fall, .int .i64 s.a0, .int .i64 s.a1, .int .i64 s.w0, .int .i64 s.w1, (.slice bo s.book.length bc), (.slice ro s.reads.length rc)]⟩] w (fun v _ => v = .agg ⟨watC s bo ro bc rc (flL s)⟩) := by
  have hH := hv.1
  unfold HeadP at hH
  refine CallsR.of_SX (n := 43) (rs := [.cell 2 117]) Tryd.func72 rfl rfl rfl rfl ?_
  show SX _ _ _ ⟨[(0, .agg ⟨[.int .i64 s.weeks, .int .i64 s.most, .int .i64 s.fall, .int .i64 s.a0, .int .i64 s.a1, .int .i64 s.w0, .int .i64 s.w1, (.slice bo s.book.length bc), (.slice ro s.reads.length rc)]⟩)], [], []⟩
  refine SX.seq ?_
  refine SX.region ?_
  refine SXL.box rfl rfl ?_; intro b0
  refine SXL.alloc zp_117 ?_; intro b1
  refine SXL.nil ?_
  refine thenQ.normal ?_
  refine SX.seq ?_
  refine SX.region ?_
  refine SXL.loadNo 0 sh_27 rfl rfl rfl ?_
  refine SXL.buildS pl_117 zp_117 rfl rfl ?_
  refine SXL.alloc zp_117 ?_; intro b2
  refine SXL.store 2 sz_117 rfl rfl rfl rfl rfl rfl ?_
  refine SXL.nil ?_
  refine thenQ.normal ?_
  refine SX.seq ?_
  refine SX.seq ?_
  refine SX.region ?_
  refine SXL.fieldAddr fp_27_0 rfl ?_
  refine SXL.load1o 0 sh_3 rfl rfl rfl ?_
  refine SXL.move rfl ?_
  refine SXL.nil ?_
  refine thenQ.normal ?_
  refine SX.block ?_
  refine SX.loopG (α := Nat) [1, 2, 3, 10] rfl (fun k => [(11, .int .i64 ((k : Int)))]) (fun k => [(2, (b2, .cells ⟨watC s bo ro bc rc (fl0 s k)⟩ 117 (0, 0)))]) (fun k => k ≤ s.weeks.toNat) (fun k => s.weeks.toNat - k) 0 (Nat.zero_le _) ⟨rfl, trivial⟩ rfl ?_
  rintro k hk
  refine SX.seq ?_
  refine SX.region ?_
  refine SXL.lss rfl rfl ?_
  refine SXL.nil ?_
  refine thenQ.normal ?_
  refine SX.seq ?_
  refine SX.condP rfl (fun c1 => ?_) (fun c1 => ?_)
  · refine SX.skip ?_
    refine thenQ.normal ?_
    refine SX.seq ?_
    refine SX.block ?_
    refine SX.seq ?_
    refine SX.region ?_
    refine SXL.move rfl ?_
    refine SXL.assign rfl ?_
    refine SXL.nil ?_
    refine thenQ.normal ?_
    refine SX.region ?_
    refine SXL.move rfl ?_
    refine SXL.fieldAddr fp_27_1 rfl ?_
    refine SXL.load1o 0 sh_3 rfl rfl rfl ?_
    refine SXL.buildS pl_23 zp_23 rfl rfl ?_
    refine SXL.fieldAddr fp_117_1 rfl ?_
    refine SXL.indexA el_114 rfl rfl (by omega) ?_
    refine SXL.store 2 sz_23 rfl rfl rfl rfl rfl (putApp 9 rfl (ints_put2' (p := (0, s.most)) (i := k) rfl (by simp only [fl0_len]; omega)) (by omega)) ?_
    refine SXL.nil ?_
    refine blockQ.normal ?_
    refine thenQ.normal ?_
    refine SX.region ?_
    refine SXL.add rfl rfl (by omega) ?_
    refine SXL.move rfl ?_
    refine SXL.nil ?_
    refine thenQ.normal ?_
    refine ⟨k + 1, Meets.mk _ ⟨rfl, trivial⟩ ⟨rfl, rfl, rfl, rfl, trivial⟩ rfl, (by omega), (by omega)⟩
  · refine SX.exit ?_
    refine thenQ.exit ?_
    refine thenQ.exit ?_
    refine blockQ.exit ?_
    refine thenQ.normal ?_
    refine SX.seq ?_
    refine SX.seq ?_
    obtain rfl : k = s.weeks.toNat := by omega
    refine SX.region ?_
    refine SXL.fieldAddr fp_27_6 rfl ?_
    refine SXL.load1o 0 sh_25 rfl rfl rfl ?_
    refine SXL.len is_25 rfl ?_
    refine SXL.move rfl ?_
    refine SXL.nil ?_
    refine thenQ.normal ?_
    refine SX.block ?_
    refine SX.loopG (α := Nat) [1, 2, 3, 22, 23] rfl (fun k => [(24, .int .i64 ((k : Int)))]) (fun k => [(2, (b2, .cells ⟨watC s bo ro bc rc (flTo s k)⟩ 117 (0, 0)))]) (fun k => k ≤ s.reads.length) (fun k => s.reads.length - k) 0 (Nat.zero_le _) ⟨rfl, trivial⟩ rfl ?_
    rintro k hk2
    refine SX.seq ?_
    refine SX.region ?_
    refine SXL.lss rfl rfl ?_
    refine SXL.nil ?_
    refine thenQ.normal ?_
    refine SX.seq ?_
    refine SX.condP rfl (fun c2 => ?_) (fun c2 => ?_)
    · refine SX.skip ?_
      refine thenQ.normal ?_
      refine SX.seq ?_
      refine SX.block ?_
      refine SX.seq ?_
      obtain ⟨b, o, ha, hm⟩ := hs.readD (i := k) (by omega)
      have hrd := ((reads_iff s).1 hv.2.2 k (by omega)).1
      refine SX.region ?_
      refine SXL.indexR el_25 rfl rfl ha (by omega) ?_
      refine SXL.loadN sh_54 rfl (hm _) rfl ?_
      refine SXL.alloc zp_54 ?_; intro b3
      refine SXL.store 3 sz_54 rfl rfl rfl rfl rfl rfl ?_
      refine SXL.nil ?_
      refine thenQ.normal ?_
      refine SX.draw 13 (by kernel_rfl) (by kernel_rfl) {} ?_
      refine SXA.take 0 13 rfl (by kernel_rfl) rfl ?_
      refine SXL.fieldAddr fp_54_1 rfl ?_
      refine SXL.load1o 3 sh_3 rfl rfl rfl ?_
      refine SXL.fieldAddr fp_54_1 rfl ?_
      refine SXL.load1o 3 sh_3 rfl rfl rfl ?_
      refine SXL.fieldAddr fp_117_1 rfl ?_
      refine SXL.indexA el_114 rfl rfl (by omega) ?_
      refine SXL.loadNo 2 sh_23 rfl rfl (takeApp 9 rfl (ints_take2' (i := (s.reads.getD k default).wk.toNat) rfl (by simp only [flTo_len]; omega)) (by omega)) ?_
      refine SXL.loadNo 0 sh_27 rfl rfl rfl ?_
      refine SXL.loadNo 3 sh_54 rfl rfl rfl ?_
      refine SXL.call1 (spanV (readsP s (s.reads.getD k default))) fn_81 rfl (fun w hI => reads_any s bo ro bc rc (s.reads.getD k default) (by omega) (by omega) (by omega) (by omega) (by omega) _ (hg.inv hI)) ?_
      refine SXL.call1 (spanV (bothP (Lo (flTo s k) (s.reads.getD k default).wk.toNat) (Hi (flTo s k) (s.reads.getD k default).wk.toNat) ((readsP s (s.reads.getD k default)).1) ((readsP s (s.reads.getD k default)).2))) fn_116 rfl (fun w hI => both_any _ _ _ _ _ (hg.inv hI)) ?_
      refine SXL.fieldAddr fp_117_1 rfl ?_
      refine SXL.indexA el_114 rfl rfl (by omega) ?_
      refine SXL.nil ⟨rfl, rfl, rfl, ?_⟩
      refine SXA.done (by kernel_rfl) ?_
      refine SXL.store 2 sz_23 rfl rfl rfl rfl rfl (putApp 9 rfl (ints_put2' (p := bothP (Lo (flTo s k) (s.reads.getD k default).wk.toNat) (Hi (flTo s k) (s.reads.getD k default).wk.toNat) (readsP s (s.reads.getD k default)).1 (readsP s (s.reads.getD k default)).2) (i := (s.reads.getD k default).wk.toNat) rfl (by simp only [flTo_len]; omega)) (by omega)) ?_
      refine SXL.nil ?_
      refine blockQ.normal ?_
      refine thenQ.normal ?_
      refine SX.region ?_
      refine SXL.add rfl rfl (by omega) ?_
      refine SXL.move rfl ?_
      refine SXL.nil ?_
      refine thenQ.normal ?_
      refine ⟨k + 1, Meets.mk _ ⟨rfl, trivial⟩ ⟨rfl, rfl, rfl, rfl, rfl, trivial⟩ rfl, (by omega), (by omega)⟩
    · refine SX.exit ?_
      refine thenQ.exit ?_
      refine thenQ.exit ?_
      refine blockQ.exit ?_
      refine thenQ.normal ?_
      refine SX.seq ?_
      obtain rfl : k = s.reads.length := by omega
      refine SX.region ?_
      refine SXL.loadNo 2 sh_117 rfl rfl (takeAt_full (watC_len (by simp))) ?_
      refine SXL.store 1 sz_117 rfl rfl rfl rfl (watC_len (by simp)) (putAt_all _ _ (watC_len (by simp))) ?_ (watC_one _ _ _ _ _ _)
      refine SXL.nil ?_
      refine thenQ.normal ?_
      refine SX.ret ?_
      refine retQ.one (ResAt.cellNo 1 sh_117 rfl rfl (takeAt_full (watC_len (by simp)))) ?_
      first | rfl | assumption
end Go.Proofs.YtknflipongbngaaDoor

/- Spans in rows; what a rain leaves, handed back. -/
namespace Go.S
open Go Go.X Go.RowKit
def pairs (M : List Int) (n : Nat) : List (List Value) := (List.range n).map fun i => [.int .i64 (Lo M i), .int .i64 (Hi M i)]
@[simp] theorem length_pairs (M : List Int) (n : Nat) : (pairs M n).length = n := by simp [pairs]
variable {w0 w : World} {own : X.Own}
theorem pairAt {ao : Option Addr} {M : List Int} {n : Nat} (h : RowsAt w ao 2 (pairs M n)) {i : Nat} (hi : i < n) :
    ∃ b o, ao = some ⟨b, o, none⟩ ∧ ∀ own, Mem w own b (o + i * 2) [.int .i64 (Lo M i), .int .i64 (Hi M i)] := h.get (by simp [pairs, hi])
theorem ownPairs (hI : Inv w0 own w) {i b : Nat} {M : List Int} {E : TypeId} {fz : Nat × Nat} (hi : own[i]? = some (b, .cells ⟨ints M⟩ E fz)) {n : Nat} (hM : n * 2 ≤ M.length) : RowsAt w (some ⟨b, 0, none⟩) 2 (pairs M n) :=
  RowsAt.ofOwn hI hi fun k r hk j u hj => by
    simp only [pairs, List.getElem?_map, Option.map_eq_some_iff] at hk
    obtain ⟨i', hi', rfl⟩ := hk
    obtain ⟨hlt, he⟩ := List.getElem?_eq_some_iff.1 hi'
    simp at he hlt
    subst he
    match j, hj with
    | 0, hj => simp at hj; subst hj; exact intsAtX rfl (by omega)
    | 1, hj => simp at hj; subst hj; exact intsAtX rfl (by omega)
    | j + 2, hj => simp at hj
/-- What a rain leaves, handed back: all that is told if there is no truth is that there is none. -/
structure AfterR (s : Sp) (L : List Int) (rain : Int) (v : Value) : Prop where
  ex : ∃ M : List Int, M.length = 20 ∧ (lvB s L rain → M = ilv (lvL s L rain)) ∧ v = .tuple ⟨[.agg ⟨ints M⟩, .bool (decide (lvB s L rain))]⟩
end Go.S
namespace Go.S
open Go Go.X
theorem span_none {M : List Int} {k : Nat} : ([1, 0] = [Lo M k, Hi M k]) ↔ NoneAt M k := by
  unfold NoneAt
  constructor
  · intro h
    obtain ⟨h1, h2⟩ := List.cons.inj h
    exact ⟨h1.symm, (List.cons.inj h2).1.symm⟩
  · rintro ⟨h1, h2⟩; rw [h1, h2]
theorem after_bool {M : List Int} {n : Nat} {p : Prop} [Decidable p] (h : (∀ w, w < n → ¬NoneAt M w) ↔ p) : decide (¬0 ≤ idxF (fun k => [1, 0] = [Lo M k, Hi M k]) n) = decide p := by
  refine decide_eq_decide.2 ?_
  rw [← h, idxF_nonneg]
  constructor
  · intro hn w hw hN; exact hn ⟨w, hw, span_none.2 hN⟩
  · rintro hn ⟨w, hw, hN⟩; exact hn w hw (span_none.1 hN)
end Go.S

/- The walks of functions. -/
namespace Go.Proofs.YtknflipongbngaaDoor
open Go.X Go.S Go.RowKit
theorem indexSpans (M : List Int) (n : Nat) (a b : Int) (ao : Option Addr) (c : Nat) (hn : n ≤ 1000) (w : World) (h : RowsAt w ao 2 (pairs M n)) :
    CallsR Tryd.prog 134 [.slice ao n c, .agg ⟨[.int .i64 a, .int .i64 b]⟩] w (fun v _ => v = .int .i64 (idxF (fun k => [a, b] = [Lo M k, Hi M k]) n)) := by
  refine CallsR.of_SX (n := 19) (rs := [.tmp 4]) Tryd.func134 rfl rfl rfl rfl ?_
  show SX _ _ _ ⟨[(0, .slice ao n c), (1, .agg ⟨[.int .i64 a, .int .i64 b]⟩)], [], []⟩
  refine SX.seq ?_
  refine SX.region ?_
  refine SXL.box rfl rfl ?_; intro b0
  refine SXL.assign rfl ?_
  refine SXL.nil ?_
  refine thenQ.normal ?_
  refine SX.seq ?_
  refine SX.seq ?_
  refine SX.region ?_
  refine SXL.move rfl ?_
  refine SXL.len is_179 rfl ?_
  refine SXL.move rfl ?_
  refine SXL.nil ?_
  refine thenQ.normal ?_
  refine SX.block ?_
  refine SX.loopG (α := Nat) [0, 3, 4, 7] rfl (fun k => [(8, .int .i64 ((k : Int)))]) (fun k => []) (fun k => k ≤ n ∧ ∀ i, i < k → ¬[a, b] = [Lo M i, Hi M i]) (fun k => n - k) 0 ⟨Nat.zero_le _, fun _ h => absurd h (Nat.not_lt_zero _)⟩ ⟨rfl, trivial⟩ rfl ?_
  rintro k ⟨hk, hall⟩
  refine SX.seq ?_
  refine SX.region ?_
  refine SXL.lss rfl rfl ?_
  refine SXL.nil ?_
  refine thenQ.normal ?_
  refine SX.seq ?_
  refine SX.condP rfl (fun c9 => ?_) (fun c9 => ?_)
  · refine SX.skip ?_
    refine thenQ.normal ?_
    refine SX.seq ?_
    refine SX.block ?_
    refine SX.seq ?_
    refine SX.region ?_
    refine SXL.move rfl ?_
    refine SXL.assign rfl ?_
    refine SXL.nil ?_
    refine thenQ.normal ?_
    refine SX.seq ?_
    obtain ⟨b2, o, ha, hm⟩ := pairAt h (i := k) (by omega)
    refine SX.draw 6 (by kernel_rfl) (by kernel_rfl) {} ?_
    refine SXA.take 0 6 rfl (by kernel_rfl) rfl ?_
    refine SXL.loadNo 0 sh_23 rfl rfl rfl ?_
    refine SXL.move rfl ?_
    refine SXL.move rfl ?_
    refine SXL.indexR el_179 rfl rfl ha (by omega) ?_
    refine SXL.loadN sh_23 rfl (hm _) rfl ?_
    refine SXL.eqlV (p := [a, b] = [Lo M k, Hi M k]) (u := .agg ⟨ints ([a, b])⟩) (v := .agg ⟨ints ([Lo M k, Hi M k])⟩) rfl rfl (run_eql_ints eq_23 eg_23 sh_23 rfl rfl) ?_
    refine SXL.nil ⟨rfl, rfl, rfl, ?_⟩
    refine SXA.done (by kernel_rfl) ?_
    refine SXL.nil ?_
    refine thenQ.normal ?_
    refine SX.condP rfl (fun c16 => ?_) (fun c16 => ?_)
    · refine SX.seq ?_
      refine SX.region ?_
      refine SXL.move rfl ?_
      refine SXL.assign rfl ?_
      refine SXL.nil ?_
      refine thenQ.normal ?_
      refine SX.ret ?_
      refine blockQ.ret ?_
      refine thenQ.ret ?_
      refine thenQ.ret ?_
      refine blockQ.ret ?_
      refine thenQ.ret ?_
      refine retQ.one (ResAt.tmp rfl) ?_
      exact congrArg (Value.int .i64) (idxF_some (p := fun k => [a, b] = [Lo M k, Hi M k]) (by omega) c16 hall).symm
    · refine SX.skip ?_
      refine blockQ.normal ?_
      refine thenQ.normal ?_
      refine SX.region ?_
      refine SXL.add rfl rfl (by omega) ?_
      refine SXL.move rfl ?_
      refine SXL.nil ?_
      refine thenQ.normal ?_
      refine ⟨k + 1, Meets.mk _ ⟨rfl, trivial⟩ ⟨rfl, rfl, rfl, rfl, trivial⟩ rfl, ?_, (by omega)⟩
      refine ⟨by omega, fun i hi => ?_⟩
      by_cases e : i = k
      · subst e; exact c16
      · exact hall i (by omega)
  · refine SX.exit ?_
    refine thenQ.exit ?_
    refine thenQ.exit ?_
    refine blockQ.exit ?_
    refine thenQ.normal ?_
    refine SX.seq ?_
    refine SX.region ?_
    refine SXL.assign rfl ?_
    refine SXL.nil ?_
    refine thenQ.normal ?_
    refine SX.ret ?_
    refine retQ.one (ResAt.tmp rfl) ?_
    exact congrArg (Value.int .i64) (idxF_none (p := fun k => [a, b] = [Lo M k, Hi M k]) fun i hi => hall i (by omega)).symm
theorem containsSpans (M : List Int) (n : Nat) (a b : Int) (ao : Option Addr) (c : Nat) (hn : n ≤ 1000) (w : World) (h : RowsAt w ao 2 (pairs M n)) :
    CallsR Tryd.prog 130 [.slice ao n c, .agg ⟨[.int .i64 a, .int .i64 b]⟩] w (fun v _ => v = .bool (decide (0 ≤ idxF (fun k => [a, b] = [Lo M k, Hi M k]) n))) := by
  refine CallsR.of_SX (n := 9) (rs := [.tmp 4]) Tryd.func130 rfl rfl rfl rfl ?_
  show SX _ _ _ ⟨[(0, .slice ao n c), (1, .agg ⟨[.int .i64 a, .int .i64 b]⟩)], [], []⟩
  refine SX.seq ?_
  refine SX.region ?_
  refine SXL.box rfl rfl ?_; intro b0
  refine SXL.assign rfl ?_
  refine SXL.nil ?_
  refine thenQ.normal ?_
  refine SX.seq ?_
  refine SX.region ?_
  refine SXL.move rfl ?_
  refine SXL.loadNo 0 sh_23 rfl rfl rfl ?_
  refine SXL.call1 (.int .i64 (idxF (fun k => [a, b] = [Lo M k, Hi M k]) n)) fn_134 rfl (fun w hI => indexSpans M n a b ao c hn _ (h.inv hI)) ?_
  refine SXL.geq rfl rfl ?_
  refine SXL.assign rfl ?_
  refine SXL.nil ?_
  refine thenQ.normal ?_
  refine SX.ret ?_
  refine retQ.one (ResAt.tmp rfl) ?_
  first | rfl | assumption
set_option maxHeartbeats 2000000 in
theorem after_any (s : Sp) (bo ro : Option Addr) (bc rc : Nat) (R : List Int) (L : List Int) (hv : SpP s) (hW : RelW s R L) (rain : Int) (w : World) (hg : Gl w) (hs : SpAt w s bo ro) :
    CallsR Tryd.prog 118 [.agg ⟨watC s bo ro bc rc R⟩, .int .i64 rain] w (fun v _ => AfterR s L rain v) := by
  have hH := hv.1
  unfold HeadP at hH
  have hR := hW.lr
  refine CallsR.of_SX (n := 120) (rs := [.cell 4 114, .tmp 5]) Tryd.func118 rfl rfl rfl rfl ?_
  show SX _ _ _ ⟨[(0, .agg ⟨watC s bo ro bc rc R⟩), (1, .int .i64 rain)], [], []⟩
  refine SX.seq ?_
  refine SX.region ?_
  refine SXL.box rfl rfl ?_; intro b0
  refine SXL.alloc zp_114 ?_; intro b1
  refine SXL.assign rfl ?_
  refine SXL.nil ?_
  refine thenQ.normal ?_
  refine SX.seq ?_
  refine SX.region ?_
  refine SXL.fieldAddr fp_117_1 rfl ?_
  refine SXL.loadNo 0 sh_114 rfl rfl (takeApp 9 rfl (takeAt_full (k := 20) (by simp [hR])) rfl) ?_
  refine SXL.alloc zp_114 ?_; intro b2
  refine SXL.store 2 sz_114 rfl rfl rfl rfl (by simp [hR]) (putAt_all _ _ (by simp [hR])) ?_ (ints_isOne _)
  refine SXL.nil ?_
  refine thenQ.normal ?_
  refine SX.seq ?_
  refine SX.seq ?_
  refine SX.region ?_
  refine SXL.fieldAddr fp_117_0 rfl ?_
  refine SXL.fieldAddr fp_27_5 rfl ?_
  refine SXL.load1o 0 sh_24 rfl rfl rfl ?_
  refine SXL.len is_24 rfl ?_
  refine SXL.move rfl ?_
  refine SXL.nil ?_
  refine thenQ.normal ?_
  refine SX.block ?_
  refine SX.loopG (α := Nat) [1, 2, 4, 5, 6, 17, 18] rfl (fun k => [(19, .int .i64 ((k : Int)))]) (fun k => [(2, (b2, .cells ⟨ints (slTo s R rain k)⟩ 114 (0, 0)))]) (fun k => k ≤ s.book.length) (fun k => s.book.length - k) 0 (Nat.zero_le _) ⟨rfl, trivial⟩ rfl ?_
  rintro k hk
  have hl := slTo_len s R rain k
  have hSk := slTo_sb hv hR hW.sb rain k hk
  refine SX.seq ?_
  refine SX.region ?_
  refine SXL.lss rfl rfl ?_
  refine SXL.nil ?_
  refine thenQ.normal ?_
  refine SX.seq ?_
  refine SX.condP rfl (fun c20 => ?_) (fun c20 => ?_)
  · refine SX.skip ?_
    refine thenQ.normal ?_
    refine SX.seq ?_
    refine SX.block ?_
    refine SX.seq ?_
    obtain ⟨b, o, ha, hm⟩ := hs.lineD (i := k) (by omega)
    have hln := bookD hv.2.1 (k := k) (by omega)
    refine SX.region ?_
    refine SXL.indexR el_24 rfl rfl ha (by omega) ?_
    refine SXL.loadN sh_61 rfl (hm _) rfl ?_
    refine SXL.alloc zp_61 ?_; intro b3
    refine SXL.store 3 sz_61 rfl rfl rfl rfl rfl rfl ?_
    refine SXL.nil ?_
    refine thenQ.normal ?_
    refine SX.seq ?_
    refine SX.region ?_
    refine SXL.fieldAddr fp_61_0 rfl ?_
    refine SXL.fieldAddr fp_23_0 rfl ?_
    refine SXL.load1o 3 sh_3 rfl rfl rfl ?_
    refine SXL.fieldAddr fp_61_0 rfl ?_
    refine SXL.fieldAddr fp_23_1 rfl ?_
    refine SXL.load1o 3 sh_3 rfl rfl rfl ?_
    refine SXL.move rfl ?_
    refine SXL.buildSlice et_35 zp_3 rfl rfl rfl rfl ?_; intro b4
    refine SXL.call1 (.bool (decide (Wi (rain) ((s.book.getD k default).r0) ((s.book.getD k default).r1)))) fn_78 rfl (fun w hI => in1_own hI 4 (rain) ((s.book.getD k default).r0) ((s.book.getD k default).r1) rfl) ?_
    refine SXL.nil ?_
    refine thenQ.normal ?_
    refine SX.condP rfl (fun c31 => ?_) (fun c31 => ?_)
    · refine SX.draw 10 (by kernel_rfl) (by kernel_rfl) {} ?_
      refine SXA.take 0 10 rfl (by kernel_rfl) rfl ?_
      refine SXL.fieldAddr fp_61_1 rfl ?_
      refine SXL.load1o 3 sh_3 rfl rfl rfl ?_
      refine SXL.fieldAddr fp_61_1 rfl ?_
      refine SXL.load1o 3 sh_3 rfl rfl rfl ?_
      refine SXL.indexA el_114 rfl rfl (by omega) ?_
      refine SXL.loadNo 2 sh_23 rfl rfl (ints_take2' (M := (slTo s R rain k)) (i := (s.book.getD k default).wk.toNat) (by omega) (by omega)) ?_
      refine SXL.fieldAddr fp_61_2 rfl ?_
      refine SXL.loadNo 3 sh_23 rfl rfl rfl ?_
      refine SXL.call1 (spanV (bothP (Lo (slTo s R rain k) (s.book.getD k default).wk.toNat) (Hi (slTo s R rain k) (s.book.getD k default).wk.toNat) ((s.book.getD k default).g0) ((s.book.getD k default).g1))) fn_116 rfl (fun w hI => both_any _ _ _ _ _ (hg.inv hI)) ?_
      refine SXL.indexA el_114 rfl rfl (by omega) ?_
      refine SXL.nil ⟨rfl, rfl, rfl, ?_⟩
      refine SXA.done (by kernel_rfl) ?_
      refine SXL.store 2 sz_23 rfl rfl rfl rfl rfl (ints_put2' (M := (slTo s R rain k)) (i := (s.book.getD k default).wk.toNat) (p := bothP (Lo (slTo s R rain k) (s.book.getD k default).wk.toNat) (Hi (slTo s R rain k) (s.book.getD k default).wk.toNat) (s.book.getD k default).g0 (s.book.getD k default).g1) (by omega) (by omega)) ?_
      refine SXL.nil ?_
      refine blockQ.normal ?_
      refine thenQ.normal ?_
      refine SX.region ?_
      refine SXL.add rfl rfl (by omega) ?_
      refine SXL.move rfl ?_
      refine SXL.nil ?_
      refine thenQ.normal ?_
      refine ⟨k + 1, Meets.mk _ ⟨rfl, trivial⟩ ⟨rfl, rfl, rfl, rfl, rfl, rfl, rfl, trivial⟩ (by first | (rw [show slTo s R rain (k + 1) = _ from if_pos c31]; rfl) | (rw [show slTo s R rain (k + 1) = _ from if_neg c31]; rfl)), (by omega), (by omega)⟩
    · refine SX.skip ?_
      refine blockQ.normal ?_
      refine thenQ.normal ?_
      refine SX.region ?_
      refine SXL.add rfl rfl (by omega) ?_
      refine SXL.move rfl ?_
      refine SXL.nil ?_
      refine thenQ.normal ?_
      refine ⟨k + 1, Meets.mk _ ⟨rfl, trivial⟩ ⟨rfl, rfl, rfl, rfl, rfl, rfl, rfl, trivial⟩ (by first | (rw [show slTo s R rain (k + 1) = _ from if_pos c31]; rfl) | (rw [show slTo s R rain (k + 1) = _ from if_neg c31]; rfl)), (by omega), (by omega)⟩
  · refine SX.exit ?_
    refine thenQ.exit ?_
    refine thenQ.exit ?_
    refine blockQ.exit ?_
    refine thenQ.normal ?_
    refine SX.seq ?_
    refine SX.seq ?_
    obtain rfl : k = s.book.length := by omega
    refine SX.region ?_
    refine SXL.buildA ae_114 zp_114 rfl rfl ?_
    refine SXL.alloc zp_114 ?_; intro b3
    refine SXL.store 3 sz_114 rfl rfl rfl rfl rfl rfl ?_
    refine SXL.nil ?_
    refine thenQ.normal ?_
    refine SX.block ?_
    refine SX.loopG (α := Nat × List Int × List Int) [2, 4, 5, 6] rfl (fun ⟨bw, M, W⟩ => [(9, .pointer (some ⟨bw, 0, none⟩))]) (fun ⟨bw, M, W⟩ => [(2, (b2, .cells ⟨ints M⟩ 114 (0, 0))), (3, (bw, .cells ⟨ints W⟩ 114 (0, 0)))]) (fun ⟨bw, M, W⟩ => KeepP s.weeks.toNat s.fall (slTo s R rain s.book.length) M ∧ W.length = 20 ∧ ((∀ j, j < 10 → Lo W j = 0 ∧ Hi W j = 0) ∨ (Sb W ∧ M = psTo s.fall W (s.weeks.toNat - 1) ∧ Alive s.fall W (s.weeks.toNat - 1)))) (fun ⟨bw, M, W⟩ => (2 * (sumW M 10).toNat + if W = M then 0 else 1)) (b3, (slTo s R rain s.book.length), List.replicate 20 0) ⟨keep_start (by simp [hR]) (slTo_sb hv hR hW.sb rain _ (Nat.le_refl _)), by simp, .inl (by decide)⟩ ⟨rfl, trivial⟩ rfl ?_
    rintro ⟨bw, M, W⟩ ⟨hM, hWl, hWM⟩
    have hMl := hM.len
    refine SX.seq ?_
    refine SX.seq ?_
    refine SX.region ?_
    refine SXL.loadNo 3 sh_114 rfl rfl (takeAt_full (by simp [hWl])) ?_
    refine SXL.loadNo 2 sh_114 rfl rfl (takeAt_full (by simp [hMl])) ?_
    refine SXL.neqV (p := W ≠ M) (u := .agg ⟨ints (W)⟩) (v := .agg ⟨ints (M)⟩) rfl rfl (run_neq_ints eq_114 eg_114 sh_114 hWl hMl) ?_
    refine SXL.nil ?_
    refine thenQ.normal ?_
    refine SX.condP rfl (fun c46 => ?_) (fun c46 => ?_)
    · refine SX.skip ?_
      refine thenQ.normal ?_
      refine SX.seq ?_
      refine SX.block ?_
      refine SX.seq ?_
      refine SX.region ?_
      refine SXL.loadNo 2 sh_114 rfl rfl (takeAt_full (by simp [hMl])) ?_
      refine SXL.store 3 sz_114 rfl rfl rfl rfl (by simp [hMl]) (putAt_all _ _ (by simp [hMl, hWl])) ?_ (ints_isOne _)
      refine SXL.nil ?_
      refine thenQ.normal ?_
      refine SX.seq ?_
      refine SX.region ?_
      refine SXL.assign rfl ?_
      refine SXL.nil ?_
      refine thenQ.normal ?_
      refine SX.block ?_
      refine SX.loopG (α := Nat) [2, 4, 5, 6, 9] rfl (fun k => [(10, .int .i64 (((k : Int) + 1)))]) (fun k => [(2, (b2, .cells ⟨ints (psTo s.fall M k)⟩ 114 (0, 0)))]) (fun k => k ≤ s.weeks.toNat - 1 ∧ Alive s.fall M k) (fun k => s.weeks.toNat - 1 - k) 0 ⟨Nat.zero_le _, fun _ h => absurd h (Nat.not_lt_zero _)⟩ ⟨rfl, trivial⟩ rfl ?_
      rintro k ⟨hk, hal⟩
      have hKl : (psTo s.fall M k).length = 20 := by simp [hMl]
      refine SX.seq ?_
      refine SX.seq ?_
      refine SX.region ?_
      refine SXL.move rfl ?_
      refine SXL.fieldAddr fp_117_0 rfl ?_
      refine SXL.fieldAddr fp_27_0 rfl ?_
      refine SXL.load1o 0 sh_3 rfl rfl rfl ?_
      refine SXL.lss rfl rfl ?_
      refine SXL.nil ?_
      refine thenQ.normal ?_
      refine SX.condP rfl (fun c52 => ?_) (fun c52 => ?_)
      · refine SX.skip ?_
        refine thenQ.normal ?_
        refine SX.seq ?_
        refine SX.block ?_
        refine SX.seq ?_
        have hS := (ps_less (f := s.fall) hMl hM.sb k (by omega)).1
        have q0 := hS k (by omega)
        have q1 := hS (k + 1) (by omega)
        refine SX.draw 7 (by kernel_rfl) (by kernel_rfl) {} ?_
        refine SXA.take 0 7 rfl (by kernel_rfl) rfl ?_
        refine SXL.move rfl ?_
        refine SXL.sub rfl rfl (by omega) ?_
        refine SXL.indexA el_114 rfl rfl (by omega) ?_
        refine SXL.move rfl ?_
        refine SXL.indexA el_114 rfl rfl (by omega) ?_
        refine SXL.assign rfl ?_
        refine SXL.assign rfl ?_
        refine SXL.nil ⟨rfl, rfl, rfl, ?_⟩
        refine SXA.done (by kernel_rfl) ?_
        refine SXL.nil ?_
        refine thenQ.normal ?_
        refine SX.seq ?_
        refine SX.draw 19 (by kernel_rfl) (by kernel_rfl) {} ?_
        refine SXA.take 0 19 rfl (by kernel_rfl) rfl ?_
        refine SXL.move rfl ?_
        refine SXL.move rfl ?_
        refine SXL.nilCheck rfl ?_
        refine SXL.loadNo 2 sh_23 rfl rfl (ints_take2' (M := (psTo s.fall M k)) (i := k + 1) (by omega) (by omega)) ?_
        refine SXL.move rfl ?_
        refine SXL.nilCheck rfl ?_
        refine SXL.fieldAddr fp_23_0 rfl ?_
        refine SXL.load1o 2 sh_3 rfl rfl (at_lo (M := (psTo s.fall M k)) (i := k) (by omega) (by omega)) ?_
        refine SXL.fieldAddr fp_117_0 rfl ?_
        refine SXL.fieldAddr fp_27_2 rfl ?_
        refine SXL.load1o 0 sh_3 rfl rfl rfl ?_
        refine SXL.sub rfl rfl (by omega) ?_
        refine SXL.move rfl ?_
        refine SXL.nilCheck rfl ?_
        refine SXL.fieldAddr fp_23_1 rfl ?_
        refine SXL.load1o 2 sh_3 rfl rfl (at_hi (M := (psTo s.fall M k)) (i := k) (by omega) (by omega)) ?_
        refine SXL.buildS pl_23 zp_23 rfl rfl ?_
        refine SXL.call1 (spanV (bothP (Lo (psTo s.fall M k) (k + 1)) (Hi (psTo s.fall M k) (k + 1)) (Lo (psTo s.fall M k) k - s.fall) (Hi (psTo s.fall M k) k))) fn_116 rfl (fun w hI => both_any _ _ _ _ _ (hg.inv hI)) ?_
        refine SXL.nilCheck rfl ?_
        refine SXL.nil ⟨rfl, rfl, rfl, ?_⟩
        refine SXA.done (by kernel_rfl) ?_
        refine SXL.store 2 sz_23 rfl rfl rfl rfl rfl (ints_put2' (M := (psTo s.fall M k)) (i := k + 1) (p := (bothP (Lo (psTo s.fall M k) (k + 1)) (Hi (psTo s.fall M k) (k + 1)) (Lo (psTo s.fall M k) k - s.fall) (Hi (psTo s.fall M k) k))) (by omega) (by omega)) ?_
        refine SXL.nil ?_
        refine thenQ.normal ?_
        refine SX.seq ?_
        have hS1 := (step_less (f := s.fall) hKl hS (k := k) (by omega)).1
        have hl1 : (step1 s.fall (psTo s.fall M k) k).length = 20 := by simp [hMl]
        have u0 := hS1 k (by omega)
        have u1 := hS1 (k + 1) (by omega)
        refine SX.draw 19 (by kernel_rfl) (by kernel_rfl) {} ?_
        refine SXA.take 0 19 rfl (by kernel_rfl) rfl ?_
        refine SXL.move rfl ?_
        refine SXL.move rfl ?_
        refine SXL.nilCheck rfl ?_
        refine SXL.loadNo 2 sh_23 rfl rfl (ints_take2' (M := (step1 s.fall (psTo s.fall M k) k)) (i := k) (by omega) (by omega)) ?_
        refine SXL.move rfl ?_
        refine SXL.nilCheck rfl ?_
        refine SXL.fieldAddr fp_23_0 rfl ?_
        refine SXL.load1o 2 sh_3 rfl rfl (at_lo (M := (step1 s.fall (psTo s.fall M k) k)) (i := k + 1) (by omega) (by omega)) ?_
        refine SXL.move rfl ?_
        refine SXL.nilCheck rfl ?_
        refine SXL.fieldAddr fp_23_1 rfl ?_
        refine SXL.load1o 2 sh_3 rfl rfl (at_hi (M := (step1 s.fall (psTo s.fall M k) k)) (i := k + 1) (by omega) (by omega)) ?_
        refine SXL.fieldAddr fp_117_0 rfl ?_
        refine SXL.fieldAddr fp_27_2 rfl ?_
        refine SXL.load1o 0 sh_3 rfl rfl rfl ?_
        refine SXL.add rfl rfl (by omega) ?_
        refine SXL.buildS pl_23 zp_23 rfl rfl ?_
        refine SXL.call1 (spanV (bothP (Lo (step1 s.fall (psTo s.fall M k) k) k) (Hi (step1 s.fall (psTo s.fall M k) k) k) (Lo (step1 s.fall (psTo s.fall M k) k) (k + 1)) (Hi (step1 s.fall (psTo s.fall M k) k) (k + 1) + s.fall))) fn_116 rfl (fun w hI => both_any _ _ _ _ _ (hg.inv hI)) ?_
        refine SXL.nilCheck rfl ?_
        refine SXL.nil ⟨rfl, rfl, rfl, ?_⟩
        refine SXA.done (by kernel_rfl) ?_
        refine SXL.store 2 sz_23 rfl rfl rfl rfl rfl (ints_put2' (M := (step1 s.fall (psTo s.fall M k) k)) (i := k) (p := (bothP (Lo (step1 s.fall (psTo s.fall M k) k) k) (Hi (step1 s.fall (psTo s.fall M k) k) k) (Lo (step1 s.fall (psTo s.fall M k) k) (k + 1)) (Hi (step1 s.fall (psTo s.fall M k) k) (k + 1) + s.fall))) (by omega) (by omega)) ?_
        refine SXL.nil ?_
        refine thenQ.normal ?_
        refine SX.seq ?_
        have hl2 : (stepM s.fall (psTo s.fall M k) k).length = 20 := by simp [hMl]
        refine SX.draw 12 (by kernel_rfl) (by kernel_rfl) {} ?_
        refine SXA.take 0 12 rfl (by kernel_rfl) rfl ?_
        refine SXL.move rfl ?_
        refine SXL.nilCheck rfl ?_
        refine SXL.loadNo 2 sh_23 rfl rfl (ints_take2' (M := (stepM s.fall (psTo s.fall M k) k)) (i := k) (by omega) (by omega)) ?_
        refine SXL.loadN sh_23 rfl (hg.memN _) rfl ?_
        refine SXL.eqlV (p := [Lo (stepM s.fall (psTo s.fall M k) k) k, Hi (stepM s.fall (psTo s.fall M k) k) k] = [1, 0]) (u := .agg ⟨ints ([Lo (stepM s.fall (psTo s.fall M k) k) k, Hi (stepM s.fall (psTo s.fall M k) k) k])⟩) (v := .agg ⟨ints ([1, 0])⟩) rfl rfl (run_eql_ints eq_23 eg_23 sh_23 rfl rfl) ?_
        refine SXL.move rfl ?_
        apply SXL.orG 5
        case hl => exact rfl
        case hd => exact rfl
        case hg => exact rfl
        case ht =>
          intro c109
          refine SXL.pass rfl rfl rfl ?_
          refine SXL.pass rfl rfl rfl ?_
          refine SXL.pass rfl rfl rfl ?_
          refine SXL.pass rfl rfl rfl ?_
          refine SXL.pass rfl rfl rfl ?_
          exact SXL.nil (segQ.mk (.skip rfl (.skip rfl (.skip rfl (.skip rfl (.skip rfl (.skip rfl (EnvSub.refl _))))))) rfl rfl rfl)
        case hf =>
          intro c109
          refine SXL.move rfl ?_
          refine SXL.nilCheck rfl ?_
          refine SXL.loadNo 2 sh_23 rfl rfl (ints_take2' (M := (stepM s.fall (psTo s.fall M k) k)) (i := k + 1) (by omega) (by omega)) ?_
          refine SXL.loadN sh_23 rfl (hg.memN _) rfl ?_
          refine SXL.eqlV (p := [Lo (stepM s.fall (psTo s.fall M k) k) (k + 1), Hi (stepM s.fall (psTo s.fall M k) k) (k + 1)] = [1, 0]) (u := .agg ⟨ints ([Lo (stepM s.fall (psTo s.fall M k) k) (k + 1), Hi (stepM s.fall (psTo s.fall M k) k) (k + 1)])⟩) (v := .agg ⟨ints ([1, 0])⟩) rfl rfl (run_eql_ints eq_23 eg_23 sh_23 rfl rfl) ?_
          exact SXL.nil (segQ.mk (.skip rfl (.skip rfl (.skip rfl (.skip rfl (.skip rfl (.skip rfl (EnvSub.refl _))))))) rfl rfl ⟨rfl, rfl⟩)
        refine SXL.nil ⟨rfl, rfl, rfl, ?_⟩
        refine SXA.done (by kernel_rfl) ?_
        refine SXL.nil ?_
        refine thenQ.normal ?_
        refine SX.condP rfl (fun c109 => ?_) (fun c109 => ?_)
        · refine SX.seq ?_
          have hno : ¬lvB s L rain := by
            have hk2 := (hM.ps (by omega) (k + 1) (by omega))
            rcases c109 with c109 | c109
            · exact (after_ok hv hR hW.ll.len hW.sb hW.rel hW.rest rain).2 _ hk2 k (by omega) (span_none.1 c109.symm)
            · exact (after_ok hv hR hW.ll.len hW.sb hW.rel hW.rest rain).2 _ hk2 (k + 1) (by omega) (span_none.1 c109.symm)
          refine SX.region ?_
          refine SXL.loadNo 2 sh_114 rfl rfl (takeAt_full (by simp [hMl])) ?_
          refine SXL.store 1 sz_114 rfl rfl rfl rfl (by simp [hMl]) (putAt_all _ _ (by simp [hMl])) ?_ (ints_isOne _)
          refine SXL.assign rfl ?_
          refine SXL.nil ?_
          refine thenQ.normal ?_
          refine SX.ret ?_
          refine blockQ.ret ?_
          refine thenQ.ret ?_
          refine thenQ.ret ?_
          refine blockQ.ret ?_
          refine blockQ.ret ?_
          refine thenQ.ret ?_
          refine thenQ.ret ?_
          refine blockQ.ret ?_
          refine thenQ.ret ?_
          refine retQ.two (ResAt.cellNo 1 sh_114 rfl rfl (takeAt_full (k := 20) (by simp [hMl]))) (ResAt.tmp rfl) ?_
          exact ⟨_, hl2, fun h => absurd h hno, by rw [decide_eq_false hno]; rfl⟩
        · refine SX.skip ?_
          refine blockQ.normal ?_
          refine thenQ.normal ?_
          refine SX.region ?_
          refine SXL.move rfl ?_
          refine SXL.add rfl rfl (by omega) ?_
          refine SXL.assign rfl ?_
          refine SXL.nil ?_
          refine thenQ.normal ?_
          refine ⟨k + 1, Meets.mk _ ⟨rfl, trivial⟩ ⟨rfl, rfl, rfl, rfl, rfl, trivial⟩ rfl, ?_, (by omega)⟩
          refine ⟨by omega, fun j hj => ?_⟩
          by_cases e : j = k
          · subst e; exact ⟨fun h => c109 (.inl (span_none.2 h).symm), fun h => c109 (.inr (span_none.2 h).symm)⟩
          · exact hal j (by omega)
      · refine SX.exit ?_
        refine thenQ.exit ?_
        refine thenQ.exit ?_
        refine blockQ.exit ?_
        refine blockQ.normal ?_
        refine thenQ.normal ?_
        refine SX.seq ?_
        obtain rfl : k = s.weeks.toNat - 1 := by omega
        refine SX.region ?_
        refine SXL.loadNo 3 sh_114 rfl rfl (takeAt_full (by simp [hMl])) ?_
        refine SXL.nil ?_
        refine thenQ.normal ?_
        refine SX.region ?_
        refine SXL.alloc zp_114 ?_; intro b4
        refine SXL.store 4 sz_114 rfl rfl rfl rfl (by simp [hMl]) (putAt_all _ _ (by simp [hMl])) ?_ (ints_isOne _)
        refine SXL.nil ?_
        refine thenQ.normal ?_
        refine ⟨(_, _, _), Meets.mkS [0, 1, 2, 4] ⟨rfl, trivial⟩ ⟨rfl, rfl, rfl, rfl, trivial⟩ rfl, ⟨hM.ps (by omega) _ (by omega), hMl, .inr ⟨hM.sb, rfl, hal⟩⟩, (mu_less hMl hM.sb c46 _ (by omega))⟩
    · refine SX.exit ?_
      refine thenQ.exit ?_
      refine thenQ.exit ?_
      refine blockQ.exit ?_
      refine thenQ.normal ?_
      refine SX.seq ?_
      have c46 := Decidable.not_not.1 c46
      subst c46
      refine SX.draw 10 (by kernel_rfl) (by kernel_rfl) ⟨[1, 2, 3, 4, 5, 7, 9], [true, false]⟩ ?_
      refine SXA.take 0 1 rfl (by kernel_rfl) rfl ?_
      refine SXL.loadNo 2 sh_114 rfl rfl (takeAt_full (by simp [hMl])) ?_
      refine SXL.nil ⟨rfl, rfl, rfl, ?_⟩
      refine SXA.takeM 1 5 rfl (by kernel_rfl) rfl ?_
      refine SXL.fieldAddr fp_117_0 rfl ?_
      refine SXL.fieldAddr fp_27_0 rfl ?_
      refine SXL.load1o 0 sh_3 rfl rfl rfl ?_
      refine SXL.sliceAH el_114 rfl rfl (by omega) ?_
      refine SXL.loadN sh_23 rfl (hg.memN _) rfl ?_
      refine SXL.nil ⟨rfl, rfl, rfl, ?_⟩
      refine SXA.take 6 1 rfl (by kernel_rfl) rfl ?_
      refine SXL.call1 (.bool (decide (0 ≤ idxF (fun k => [1, 0] = [Lo W k, Hi W k]) s.weeks.toNat))) fn_130 rfl (fun w hI => containsSpans W s.weeks.toNat 1 0 _ _ (by omega) _ (ownPairs hI (i := 2) rfl (by omega))) ?_
      refine SXL.nil ⟨rfl, rfl, rfl, ?_⟩
      refine SXA.takeM 7 1 rfl (by kernel_rfl) rfl ?_
      refine SXL.not rfl ?_
      refine SXL.nil ⟨rfl, rfl, rfl, ?_⟩
      refine SXA.all [8] (by kernel_rfl) rfl ⟨⟨?_, rfl⟩, trivial⟩
      refine (show SXL _ _ [_] _ _ from ?_)
      refine SXL.store 1 sz_114 rfl rfl rfl rfl (by simp [hMl]) (putAt_all _ _ (by simp [hMl])) ?_ (ints_isOne _)
      refine SXL.nil (stepQ.mkL _ (by kernel_rfl) rfl rfl ?_)
      refine SXA.takeM 9 1 rfl (by kernel_rfl) rfl ?_
      refine SXL.assign rfl ?_
      refine SXL.nil ⟨rfl, rfl, rfl, ?_⟩
      refine SXA.done (by kernel_rfl) ?_
      refine SXL.nil ?_
      refine thenQ.normal ?_
      refine SX.ret ?_
      refine retQ.two (ResAt.cellNo 1 sh_114 rfl rfl (takeAt_full (k := 20) (by simp [hMl]))) (ResAt.tmp rfl) ?_
      obtain ⟨z1, z2⟩ := after_end hv hW hM hWM; exact ⟨_, hMl, z2, by rw [after_bool z1]⟩
end Go.Proofs.YtknflipongbngaaDoor

/- The walks of functions. -/
namespace Go.Proofs.YtknflipongbngaaDoor
open Go.X Go.S Go.RowKit
/-- The iterator of the rains. -/
structure ItR (s : Sp) (bo ro : Option Addr) (bc rc : Nat) (R : List Int) (v : Value) (own : X.Own) : Prop where
  ex : ∃ b, v = .func (.func 117) ⟨[]⟩ ⟨[.pointer (some ⟨b, 0, none⟩)]⟩ ∧ own = [(b, .cells ⟨watC s bo ro bc rc R⟩ 117 (0, 0))]
theorem it_any (s : Sp) (bo ro : Option Addr) (bc rc : Nat) (R : List Int) (_hR : R.length = 20) (w : World) :
    CallsR Tryd.prog 76 [.agg ⟨watC s bo ro bc rc R⟩] w (ItR s bo ro bc rc R) := by
  refine CallsR.of_SX (n := 4) (rs := [.tmp 2]) Tryd.func76 rfl rfl rfl rfl ?_
  show SX _ _ _ ⟨[(0, .agg ⟨watC s bo ro bc rc R⟩)], [], []⟩
  refine SX.seq ?_
  refine SX.region ?_
  refine SXL.box rfl rfl ?_; intro b0
  refine SXL.assign rfl ?_
  refine SXL.nil ?_
  refine thenQ.normal ?_
  refine SX.seq ?_
  refine SX.region ?_
  refine SXL.makeFunc rfl rfl ?_
  refine SXL.assign rfl ?_
  refine SXL.nil ?_
  refine thenQ.normal ?_
  refine SX.ret ?_
  refine retQ.one (ResAt.tmp rfl) ?_
  exact ⟨b0, rfl, rfl⟩
set_option maxHeartbeats 4000000 in
theorem spans_any (s : Sp) (bo ro : Option Addr) (bc rc : Nat) (R : List Int) (L : List Int) (hv : SpP s) (hW : RelW s R L) (w : World) (hg : Gl w) (hs : SpAt w s bo ro) :
    CallsR Tryd.prog 73 [.agg ⟨watC s bo ro bc rc R⟩] w (fun v _ => v = .tuple ⟨[.agg ⟨ints (outL s.weeks.toNat (lvsL s L (rnsL s L)))⟩, .bool (decide (rnsL s L ≠ []))]⟩) := by
  have hH := hv.1
  unfold HeadP at hH
  have hR := hW.lr
  refine CallsR.of_SX (n := 50) (rs := [.cell 2 114, .tmp 3]) Tryd.func73 rfl rfl rfl rfl ?_
  show SX _ _ _ ⟨[(0, .agg ⟨watC s bo ro bc rc R⟩)], [], []⟩
  refine SX.seq ?_
  refine SX.region ?_
  refine SXL.box rfl rfl ?_; intro b0
  refine SXL.alloc zp_114 ?_; intro b1
  refine SXL.assign rfl ?_
  refine SXL.nil ?_
  refine thenQ.normal ?_
  refine SX.seq ?_
  refine SX.region ?_
  refine SXL.alloc zp_114 ?_; intro b2
  refine SXL.nil ?_
  refine thenQ.normal ?_
  refine SX.seq ?_
  refine SX.region ?_
  refine SXL.alloc zp_4 ?_; intro b3
  refine SXL.store 3 sz_4 rfl rfl rfl rfl rfl rfl ?_
  refine SXL.nil ?_
  refine thenQ.normal ?_
  refine SX.seq ?_
  refine SX.seq ?_
  refine SX.region ?_
  refine SXL.loadNo 0 sh_117 rfl rfl (takeAt_full (watC_len hR)) ?_
  refine SXL.callF (ItR s bo ro bc rc R) fn_76 rfl (fun w hI => it_any s bo ro bc rc R hR w) ?_; rintro _ _ ⟨bi, rfl, rfl⟩
  refine SXL.nil ?_
  refine thenQ.normal ?_
  refine SX.block ?_
  refine SX.rangeFunc (f := 117) (nf := 31) (rs := []) rfl fn_117 Tryd.func117 rfl rfl rfl rfl ?_
  intro fn T r l ob hT hob
  refine SX.scope ?_
  refine SX.seq ?_
  refine SX.label ?_
  refine thenQ.normal ?_
  refine SX.seq ?_
  refine SX.region ?_
  refine SXL.fieldAddr fp_117_0 rfl ?_
  refine SXL.fieldAddr fp_27_4 rfl ?_
  refine SXL.fieldAddr fp_23_0 rfl ?_
  refine SXL.load1o 4 sh_3 rfl rfl rfl ?_
  refine SXL.assign rfl ?_
  refine SXL.nil ?_
  refine thenQ.normal ?_
  refine SX.block ?_
  refine SX.loopG (α := Nat × List Int) [0, 1] rfl (fun ⟨k, M⟩ => [(3, .int .i64 (s.w0 + (k : Int)))]) (fun ⟨k, M⟩ => [(2, (b2, .cells ⟨ints M⟩ 114 (0, 0))), (3, (b3, .cells ⟨[.bool (decide ((rnsTo s L k) ≠ []))]⟩ 4 (0, 0)))]) (fun ⟨k, M⟩ => k ≤ rnN s ∧ IsO s.weeks.toNat (lvsL s L (rnsTo s L k)) M) (fun ⟨k, M⟩ => (rnN s - k)) (0, List.replicate 20 0) ⟨Nat.zero_le _, IsO.zero _⟩ ⟨congrArg (fun z => some (Value.int .i64 z)) (show s.w0 = s.w0 + ((0 : Nat) : Int) by omega), trivial⟩ rfl ?_
  rintro ⟨k, M⟩ ⟨hk, hM⟩
  have hMl := hM.len
  have hN : rnN s = (s.w1 + 1 - s.w0).toNat := rfl
  refine SX.seq ?_
  refine SX.seq ?_
  refine SX.region ?_
  refine SXL.move rfl ?_
  refine SXL.fieldAddr fp_117_0 rfl ?_
  refine SXL.fieldAddr fp_27_4 rfl ?_
  refine SXL.fieldAddr fp_23_1 rfl ?_
  refine SXL.load1o 4 sh_3 rfl rfl rfl ?_
  refine SXL.leq rfl rfl ?_
  refine SXL.nil ?_
  refine thenQ.normal ?_
  refine SX.condP rfl (fun c15 => ?_) (fun c15 => ?_)
  · refine SX.skip ?_
    refine thenQ.normal ?_
    refine SX.seq ?_
    refine SX.block ?_
    refine SX.seq ?_
    refine SX.region ?_
    refine SXL.loadNo 4 sh_117 rfl rfl (takeAt_full (watC_len hR)) ?_
    refine SXL.move rfl ?_
    refine SXL.callP (AfterR s L (s.w0 + (k : Int))) fn_118 rfl (fun w hI => after_any s bo ro bc rc R L hv hW _ w (hg.inv hI) (hs.inv hI)) ?_; rintro _ ⟨X, hX1, hX2, rfl⟩
    refine SXL.move rfl ?_
    refine SXL.extract rfl rfl ?_
    refine SXL.extract rfl rfl ?_
    refine SXL.alloc zp_114 ?_; intro b7
    refine SXL.store 7 sz_114 rfl rfl rfl rfl (by simp [hX1]) (putAt_all _ _ (by simp [hX1])) ?_ (ints_isOne _)
    refine SXL.assign rfl ?_
    refine SXL.nil ?_
    refine thenQ.normal ?_
    refine SX.seq ?_
    refine SX.seq ?_
    refine SX.region ?_
    refine SXL.move rfl ?_
    refine SXL.not rfl ?_
    refine SXL.nil ?_
    refine thenQ.normal ?_
    refine SX.condP rfl (fun c25 => ?_) (fun c25 => ?_)
    · refine SX.exit ?_
      refine thenQ.exit ?_
      refine blockQ.exit ?_
      refine thenQ.normal ?_
      refine SX.region ?_
      refine SXL.move rfl ?_
      refine SXL.add rfl rfl (by omega) ?_
      refine SXL.assign rfl ?_
      refine SXL.nil ?_
      refine thenQ.normal ?_
      refine ⟨(k + 1, _), Meets.mk _ ⟨congrArg (fun z => some (Value.int .i64 z)) (show s.w0 + (k : Int) + 1 = s.w0 + ((k + 1 : Nat) : Int) by omega), trivial⟩ ⟨rfl, rfl, trivial⟩ (by show setAll _ (_ :: [(3, (b3, .cells ⟨[.bool (decide (rnsTo s L (k + 1) ≠ []))]⟩ 4 (0, 0)))]) ++ _ = _; first | (rw [decide_eq_true (p := rnsTo s L (k + 1) ≠ []) (by rw [rnsTo_yes hlv]; simp)]; rfl) | (rw [show rnsTo s L (k + 1) = _ from rnsTo_no c25]; rfl)), ?_, ?_⟩
      · refine ⟨by omega, ?_⟩
        first
          | exact (by rw [rnsTo_yes hlv]; simpa [lvsL] using hMd.done)
          | exact (by rw [rnsTo_no c25]; exact hM)
      · show rnN s - (k + 1) < rnN s - k; omega
    · refine SX.skip ?_
      refine thenQ.normal ?_
      refine SX.seq ?_
      have hlv := Decidable.not_not.1 c25
      obtain rfl := hX2 hlv
      refine SX.region ?_
      refine SXL.move rfl ?_
      refine SXL.move rfl ?_
      refine SXL.loadNo 7 sh_114 rfl rfl (takeAt_full (by simp)) ?_
      refine SXL.yield hT hob 6 rfl rfl rfl rfl rfl ?_
      refine SX.region ?_
      refine SXL.alloc zp_114 ?_; intro b8
      refine SXL.store 8 sz_114 rfl rfl rfl rfl (by simp) (putAt_all _ _ (by simp)) ?_ (ints_isOne _)
      refine SXL.nil ?_
      refine ⟨rfl, ?_⟩
      refine SX.block ?_
      refine SX.seq ?_
      refine SX.seq ?_
      refine SX.region ?_
      refine SXL.fieldAddr fp_117_0 rfl ?_
      refine SXL.fieldAddr fp_27_0 rfl ?_
      refine SXL.load1o 0 sh_3 rfl rfl rfl ?_
      refine SXL.move rfl ?_
      refine SXL.nil ?_
      refine thenQ.normal ?_
      refine SX.block ?_
      refine SX.loopG (α := Nat × List Int) [2, 3, 4, 5, 7, 15] rfl (fun ⟨j, M2⟩ => [(16, .int .i64 ((j : Int)))]) (fun ⟨j, M2⟩ => [(2, (b2, .cells ⟨ints M2⟩ 114 (0, 0)))]) (fun ⟨j, M2⟩ => j ≤ s.weeks.toNat ∧ MidO s.weeks.toNat (lvsL s L (rnsTo s L k)) (lvL s L (s.w0 + (k : Int))) j M2) (fun ⟨j, M2⟩ => s.weeks.toNat - j) (0, M) ⟨Nat.zero_le _, hM.mid _⟩ ⟨rfl, trivial⟩ rfl ?_
      rintro ⟨j, M2⟩ ⟨hj, hMd⟩
      have hM2l := hMd.len
      refine SX.seq ?_
      refine SX.region ?_
      refine SXL.lss rfl rfl ?_
      refine SXL.nil ?_
      refine thenQ.normal ?_
      refine SX.seq ?_
      refine SX.condP rfl (fun c17 => ?_) (fun c17 => ?_)
      · refine SX.skip ?_
        refine thenQ.normal ?_
        refine SX.seq ?_
        refine SX.block ?_
        refine SX.seq ?_
        refine SX.region ?_
        refine SXL.move rfl ?_
        refine SXL.assign rfl ?_
        refine SXL.nil ?_
        refine thenQ.normal ?_
        refine SX.cutG (α := List Int) [2, 3, 4, 5, 7, 8, 15, 16] rfl (fun M3 => []) (fun M3 => [(2, (b2, .cells ⟨ints M3⟩ 114 (0, 0)))]) (fun M3 => M3 = if (lvsL s L (rnsTo s L k)) = [] then set2 M2 j (G (lvL s L (s.w0 + (k : Int))) j, G (lvL s L (s.w0 + (k : Int))) (10 + j)) else M2) ?_ ?_
        · refine SX.seq ?_
          obtain ⟨x1, x2⟩ := ilv_at (lvL s L (s.w0 + (k : Int))) (w := j) (by omega)
          have hAe : (lvsL s L (rnsTo s L k)) = [] ↔ (rnsTo s L k) = [] := by simp [lvsL]
          refine SX.region ?_
          refine SXL.load1o 3 sh_4 rfl rfl rfl ?_
          refine SXL.not rfl ?_
          refine SXL.nil ?_
          refine thenQ.normal ?_
          refine SX.condP rfl (fun c20 => ?_) (fun c20 => ?_)
          · refine SX.region ?_
            refine SXL.move rfl ?_
            refine SXL.move rfl ?_
            refine SXL.indexA el_114 rfl rfl (by omega) ?_
            refine SXL.loadNo 8 sh_23 rfl rfl (ints_take2' (M := (ilv (lvL s L (s.w0 + (k : Int))))) (i := j) (by omega) (by omega)) ?_
            refine SXL.indexA el_114 rfl rfl (by omega) ?_
            refine SXL.store 2 sz_23 rfl rfl rfl rfl rfl (ints_put2' (M := M2) (i := j) (p := (Lo (ilv (lvL s L (s.w0 + (k : Int)))) j, Hi (ilv (lvL s L (s.w0 + (k : Int)))) j)) (by omega) (by omega)) ?_
            refine SXL.nil ?_
            refine thenQ.normal ?_
            refine ⟨_, Meets.mk _ trivial ⟨rfl, rfl, rfl, rfl, rfl, rfl, rfl, rfl, trivial⟩ rfl, (by first | (rw [if_pos (hAe.2 (Decidable.not_not.1 c20)), x1, x2]) | (rw [if_neg (fun h => c20 (fun h2 => h2 (hAe.1 h)))]))⟩
          · refine SX.skip ?_
            refine thenQ.normal ?_
            refine ⟨_, Meets.mk _ trivial ⟨rfl, rfl, rfl, rfl, rfl, rfl, rfl, rfl, trivial⟩ rfl, (by first | (rw [if_pos (hAe.2 (Decidable.not_not.1 c20)), x1, x2]) | (rw [if_neg (fun h => c20 (fun h2 => h2 (hAe.1 h)))]))⟩
        rintro M3 hM3
        have hM3l : M3.length = 20 := by rw [hM3]; split <;> simp [hM2l]
        obtain ⟨x1, x2⟩ := ilv_at (lvL s L (s.w0 + (k : Int))) (w := j) (by omega)
        refine SX.draw 21 (by kernel_rfl) (by kernel_rfl) {} ?_
        refine SXA.take 0 21 rfl (by kernel_rfl) rfl ?_
        refine SXL.move rfl ?_
        refine SXL.move rfl ?_
        refine SXL.indexA el_114 rfl rfl (by omega) ?_
        refine SXL.fieldAddr fp_23_0 rfl ?_
        refine SXL.load1o 2 sh_3 rfl rfl (at_lo (M := M3) (i := j) (by omega) (by omega)) ?_
        refine SXL.move rfl ?_
        refine SXL.indexA el_114 rfl rfl (by omega) ?_
        refine SXL.fieldAddr fp_23_0 rfl ?_
        refine SXL.load1o 8 sh_3 rfl rfl (at_lo (M := (ilv (lvL s L (s.w0 + (k : Int))))) (i := j) (by omega) (by omega)) ?_
        refine SXL.min rfl rfl ?_
        refine SXL.move rfl ?_
        refine SXL.indexA el_114 rfl rfl (by omega) ?_
        refine SXL.fieldAddr fp_23_1 rfl ?_
        refine SXL.load1o 2 sh_3 rfl rfl (at_hi (M := M3) (i := j) (by omega) (by omega)) ?_
        refine SXL.move rfl ?_
        refine SXL.indexA el_114 rfl rfl (by omega) ?_
        refine SXL.fieldAddr fp_23_1 rfl ?_
        refine SXL.load1o 8 sh_3 rfl rfl (at_hi (M := (ilv (lvL s L (s.w0 + (k : Int))))) (i := j) (by omega) (by omega)) ?_
        refine SXL.max rfl rfl ?_
        refine SXL.buildS pl_23 zp_23 rfl rfl ?_
        refine SXL.indexA el_114 rfl rfl (by omega) ?_
        refine SXL.nil ⟨rfl, rfl, rfl, ?_⟩
        refine SXA.done (by kernel_rfl) ?_
        refine SXL.store 2 sz_23 rfl rfl rfl rfl rfl (ints_put2' (M := M3) (i := j) (p := (min (Lo M3 j) (Lo (ilv (lvL s L (s.w0 + (k : Int)))) j), max (Hi M3 j) (Hi (ilv (lvL s L (s.w0 + (k : Int)))) j))) (by omega) (by omega)) ?_
        refine SXL.nil ?_
        refine blockQ.normal ?_
        refine thenQ.normal ?_
        refine SX.region ?_
        refine SXL.add rfl rfl (by omega) ?_
        refine SXL.move rfl ?_
        refine SXL.nil ?_
        refine thenQ.normal ?_
        refine ⟨(j + 1, _), Meets.mk _ ⟨rfl, trivial⟩ ⟨rfl, rfl, rfl, rfl, rfl, rfl, trivial⟩ rfl, ⟨by omega, by rw [x1, x2]; exact hMd.next (by omega) (by omega) hM3⟩, (show s.weeks.toNat - (j + 1) < s.weeks.toNat - j by omega)⟩
      · refine SX.exit ?_
        refine thenQ.exit ?_
        refine thenQ.exit ?_
        refine blockQ.exit ?_
        refine thenQ.normal ?_
        obtain rfl : j = s.weeks.toNat := by omega
        refine SX.region ?_
        refine SXL.store 3 sz_4 rfl rfl rfl rfl rfl rfl ?_
        refine SXL.nil ?_
        refine blockQ.normal ?_
        refine ⟨rfl, ?_⟩
        refine SXL.not rfl ?_
        refine SXL.nil ?_
        refine thenQ.normal ?_
        refine SX.condP rfl (fun c30 => ?_) (fun c30 => ?_)
        · exfalso; exact c30 trivial
        refine SX.skip ?_
        refine blockQ.normal ?_
        refine thenQ.normal ?_
        refine SX.region ?_
        refine SXL.move rfl ?_
        refine SXL.add rfl rfl (by omega) ?_
        refine SXL.assign rfl ?_
        refine SXL.nil ?_
        refine thenQ.normal ?_
        refine ⟨(k + 1, _), Meets.mk _ ⟨congrArg (fun z => some (Value.int .i64 z)) (show s.w0 + (k : Int) + 1 = s.w0 + ((k + 1 : Nat) : Int) by omega), trivial⟩ ⟨rfl, rfl, trivial⟩ (by show setAll _ (_ :: [(3, (b3, .cells ⟨[.bool (decide (rnsTo s L (k + 1) ≠ []))]⟩ 4 (0, 0)))]) ++ _ = _; first | (rw [decide_eq_true (p := rnsTo s L (k + 1) ≠ []) (by rw [rnsTo_yes hlv]; simp)]; rfl) | (rw [show rnsTo s L (k + 1) = _ from rnsTo_no c25]; rfl)), ?_, ?_⟩
        · refine ⟨by omega, ?_⟩
          first
            | exact (by rw [rnsTo_yes hlv]; simpa [lvsL] using hMd.done)
            | exact (by rw [rnsTo_no c25]; exact hM)
        · show rnN s - (k + 1) < rnN s - k; omega
  · refine SX.exit ?_
    refine thenQ.exit ?_
    refine thenQ.exit ?_
    refine blockQ.exit ?_
    refine scopeQ.normal ?_
    refine retQ.zeroN ?_
    refine ⟨6, rfl, ?_⟩
    refine blockQ.normal ?_
    refine thenQ.normal ?_
    refine SX.seq ?_
    obtain rfl : k = rnN s := by omega
    refine SX.draw 4 (by kernel_rfl) (by kernel_rfl) ⟨[1, 3], [true, false]⟩ ?_
    refine SXA.take 0 1 rfl (by kernel_rfl) rfl ?_
    refine SXL.loadNo 2 sh_114 rfl rfl (takeAt_full (by simp [hMl])) ?_
    refine SXL.nil ⟨rfl, rfl, rfl, ?_⟩
    refine SXA.takeM 1 1 rfl (by kernel_rfl) rfl ?_
    refine SXL.load1o 2 sh_4 rfl rfl rfl ?_
    refine SXL.nil ⟨rfl, rfl, rfl, ?_⟩
    refine SXA.all [2] (by kernel_rfl) rfl ⟨⟨?_, rfl⟩, trivial⟩
    refine (show SXL _ _ [_] _ _ from ?_)
    refine SXL.store 1 sz_114 rfl rfl rfl rfl (by simp [hMl]) (putAt_all _ _ (by simp [hMl])) ?_ (ints_isOne _)
    refine SXL.nil (stepQ.mkL _ (by kernel_rfl) rfl rfl ?_)
    refine SXA.takeM 3 1 rfl (by kernel_rfl) rfl ?_
    refine SXL.assign rfl ?_
    refine SXL.nil ⟨rfl, rfl, rfl, ?_⟩
    refine SXA.done (by kernel_rfl) ?_
    refine SXL.nil ?_
    refine thenQ.normal ?_
    refine SX.ret ?_
    refine retQ.unmark 5 rfl ?_
    refine retQ.two (ResAt.cellNo 1 sh_114 rfl rfl (takeAt_full (k := 20) (by simp [hMl]))) (ResAt.tmp rfl) ?_
    rw [show M = _ from hM.eq]; rfl
end Go.Proofs.YtknflipongbngaaDoor

/- The calculus' rules: sums that may turn over. Nothing of the program stands here. -/
namespace Go.X
open Go Go.RowKit
section
variable {C : Cx} {Q : Post} {env : Env} {own : Own} {D : List Deferred} {ops : Array Oper} {rest : List Oper}
variable {d : Nat} {ty : TypeId} {pos : String} {aft : Array Edge} {g : Option (Nat × Bool)} {x y : Operand} {T T' : TypeId} {A B : Int}
theorem SXL.subW (hx : ev env x = some (.int .i64 A)) (hy : ev env y = some (.int .i64 B))
    (h : SXL C ops rest Q ⟨(d, .int .i64 (IntKind.i64.wrap (A - B))) :: env, own, D⟩) (hd : Nat.blt d C.n = true := by rfl) (hw : Wanted ops g env = some true := by rfl) :
    SXL C ops ({ dst := some d, op := .binOp .sub T x y T', type := ty, pos, after := aft, guard := g } :: rest) Q ⟨env, own, D⟩ :=
  SXL.bin hx hy (r := .int .i64 (IntKind.i64.wrap (A - B))) (fun _w => rfl) hd hw h
theorem wrap_in {A : Int} (h : -9223372036854775808 ≤ A ∧ A ≤ 9223372036854775807) : IntKind.i64.wrap A = A := IntWalk.i64_in _ h
end
end Go.X

/- What the package spring is asked, handed back. -/
namespace Go.S
open Go Go.X
def askE (s : Sp) (p : Prop) [Decidable p] (e : Int) : Int := if ¬SpP s then 10 else if ¬p then e else if TrueP s then 0 else 8
def outA (s : Sp) : List Int := outL s.weeks.toNat (lvsL s (baseL s) (rnsL s (baseL s)))
structure AskR (s : Sp) (bo ro : Option Addr) (bc rc : Nat) (p : Prop) [Decidable p] (e : Int) (v : Value) : Prop where
  ex : ∃ W O, W.length = 29 ∧ W.all isOne = true ∧ O.length = 20 ∧ v = .tuple ⟨[.agg ⟨W⟩, .agg ⟨ints O⟩, .int .i64 (askE s p e)]⟩ ∧ (SpP s → p → TrueP s → W = watC s bo ro bc rc (flL s) ∧ O = outA s)
end Go.S
namespace Go.S
open Go Go.X
theorem askE_told {s : Sp} {week : Int} {p : Prop} [Decidable p] (hp : SpP s → (p ↔ Wi week 0 (s.weeks - 1))) : askE s p 11 = toldE s week := by
  unfold askE toldE TrueP
  by_cases hv : SpP s
  · have hq := hp hv
    by_cases h : p
    · have hw := hq.1 h
      by_cases ht : rnsL s (baseL s) = []
      · rw [if_neg (c := ¬SpP s) (fun hn => hn hv), if_neg (c := ¬SpP s) (fun hn => hn hv), if_neg (c := ¬p) (fun hn => hn h), if_neg (c := ¬Wi week 0 (s.weeks - 1)) (fun hn => hn hw), if_pos ht, if_neg (fun hn => hn ht)]
      · rw [if_neg (c := ¬SpP s) (fun hn => hn hv), if_neg (c := ¬SpP s) (fun hn => hn hv), if_neg (c := ¬p) (fun hn => hn h), if_neg (c := ¬Wi week 0 (s.weeks - 1)) (fun hn => hn hw), if_neg ht, if_pos ht]
    · have hw : ¬Wi week 0 (s.weeks - 1) := fun hn => h (hq.2 hn)
      rw [if_neg (c := ¬SpP s) (fun hn => hn hv), if_neg (c := ¬SpP s) (fun hn => hn hv), if_pos h, if_pos hw]
  · rw [if_pos hv, if_pos hv]
theorem outA_at {s : Sp} {week : Int} (h : toldE s week = 0) : Lo (outA s) week.toNat = givesLo s week ∧ Hi (outA s) week.toNat = givesHi s week := by
  obtain ⟨hv, hw, ht⟩ := toldE_valid h
  have h1 := hv.1; unfold HeadP at h1
  obtain ⟨a, b⟩ := mk20_at (oLo s.weeks.toNat (lvsL s (baseL s) (rnsL s (baseL s)))) (oHi s.weeks.toNat (lvsL s (baseL s) (rnsL s (baseL s)))) (w := week.toNat) (by omega)
  have hA : ¬(lvsL s (baseL s) (rnsL s (baseL s)) = [] ∨ s.weeks.toNat ≤ week.toNat) := by
    rintro (h | h)
    · exact ht (by simpa [lvsL] using h)
    · omega
  unfold outA outL
  rw [a, b, givesLo, givesHi, if_pos h, if_pos h, toldA, toldL_ok h, oLo, oHi, if_neg hA, if_neg hA]
  exact ⟨rfl, rfl⟩
end Go.S

/- The walks of functions. -/
namespace Go.Proofs.YtknflipongbngaaDoor
open Go.X Go.S Go.RowKit
theorem scan_any (s : Sp) (bo ro : Option Addr) (bc rc : Nat) (hb : s.book.length ≤ 1000000) (hr : s.reads.length ≤ 1000000) (w : World) (hg : Gl w) (hs : SpAt w s bo ro) :
    CallsR Tryd.prog 18 [.agg ⟨[.int .i64 s.weeks, .int .i64 s.most, .int .i64 s.fall, .int .i64 s.a0, .int .i64 s.a1, .int .i64 s.w0, .int .i64 s.w1, (.slice bo s.book.length bc), (.slice ro s.reads.length rc)]⟩] w (fun v _ => v = .tuple ⟨[.bool (decide (SpP s ∧ TrueP s)), .int .i64 (if SpP s then 0 else 10)]⟩) := by
  refine CallsR.of_SX (n := 19) (rs := [.tmp 2, .tmp 3]) Tryd.func18 rfl rfl rfl rfl ?_
  show SX _ _ _ ⟨[(0, .agg ⟨[.int .i64 s.weeks, .int .i64 s.most, .int .i64 s.fall, .int .i64 s.a0, .int .i64 s.a1, .int .i64 s.w0, .int .i64 s.w1, (.slice bo s.book.length bc), (.slice ro s.reads.length rc)]⟩)], [], []⟩
  refine SX.seq ?_
  refine SX.region ?_
  refine SXL.box rfl rfl ?_; intro b0
  refine SXL.assign rfl ?_
  refine SXL.assign rfl ?_
  refine SXL.nil ?_
  refine thenQ.normal ?_
  refine SX.seq ?_
  refine SX.seq ?_
  refine SX.region ?_
  refine SXL.loadNo 0 sh_27 rfl rfl rfl ?_
  refine SXL.call1 (.int .i64 (if SpP s then 0 else 10)) fn_26 rfl (fun w hI => scheck_any s bo ro _ _ hb hr _ (hg.inv hI) (hs.inv hI)) ?_
  refine SXL.assign rfl ?_
  refine SXL.nil ?_
  refine thenQ.normal ?_
  refine SX.seq ?_
  refine SX.region ?_
  refine SXL.move rfl ?_
  refine SXL.neqI rfl rfl ?_
  refine SXL.nil ?_
  refine thenQ.normal ?_
  refine SX.condP rfl (fun c10 => ?_) (fun c10 => ?_)
  · refine SX.seq ?_
    refine SX.region ?_
    refine SXL.move rfl ?_
    refine SXL.assign rfl ?_
    refine SXL.assign rfl ?_
    refine SXL.nil ?_
    refine thenQ.normal ?_
    refine SX.ret ?_
    refine thenQ.ret ?_
    refine retQ.two (ResAt.tmp rfl) (ResAt.tmp rfl) ?_
    have hv : ¬SpP s := fun h => c10 (by rw [if_pos h])
    rw [decide_eq_false (p := SpP s ∧ TrueP s) (fun h => hv h.1)]
  · refine SX.skip ?_
    refine thenQ.normal ?_
    refine SX.seq ?_
    have hv : SpP s := Decidable.byContradiction fun h => c10 (by rw [if_neg h]; omega)
    refine SX.region ?_
    refine SXL.loadNo 0 sh_27 rfl rfl rfl ?_
    refine SXL.call1 (.agg ⟨watC s bo ro bc rc (flL s)⟩) fn_72 rfl (fun w hI => flowing_any s bo ro bc rc hv _ (hg.inv hI) (hs.inv hI)) ?_
    refine SXL.call1 (.tuple ⟨[.agg ⟨ints (outL s.weeks.toNat (lvsL s (baseL s) (rnsL s (baseL s))))⟩, .bool (decide (rnsL s (baseL s) ≠ []))]⟩) fn_73 rfl (fun w hI => spans_any s bo ro bc rc (flL s) (baseL s) hv (relW hv) _ (hg.inv hI) (hs.inv hI)) ?_
    refine SXL.move rfl ?_
    refine SXL.extract rfl rfl ?_
    refine SXL.extract rfl rfl ?_
    refine SXL.alloc zp_114 ?_; intro b1
    refine SXL.store 1 sz_114 rfl rfl rfl rfl (by simp [outL]) (putAt_all _ _ (by simp [outL])) ?_ (ints_isOne _)
    refine SXL.assign rfl ?_
    refine SXL.nil ?_
    refine thenQ.normal ?_
    refine SX.seq ?_
    refine SX.region ?_
    refine SXL.move rfl ?_
    refine SXL.assign rfl ?_
    refine SXL.assign rfl ?_
    refine SXL.nil ?_
    refine thenQ.normal ?_
    refine SX.ret ?_
    refine retQ.two (ResAt.tmp rfl) (ResAt.tmp rfl) ?_
    rw [if_pos hv, decide_eq_decide.2 (show TrueP s ↔ SpP s ∧ TrueP s from ⟨fun h => ⟨hv, h⟩, fun h => h.2⟩)]
theorem asked_any (s : Sp) (bo ro : Option Addr) (bc rc : Nat) (p : Prop) [Decidable p] (e : Int) (hb : s.book.length ≤ 1000000) (hr : s.reads.length ≤ 1000000) (w : World) (hg : Gl w) (hs : SpAt w s bo ro) :
    CallsR Tryd.prog 75 [.agg ⟨[.int .i64 s.weeks, .int .i64 s.most, .int .i64 s.fall, .int .i64 s.a0, .int .i64 s.a1, .int .i64 s.w0, .int .i64 s.w1, (.slice bo s.book.length bc), (.slice ro s.reads.length rc)]⟩, .bool (decide (p)), .int .i64 e] w (fun v _ => AskR s bo ro bc rc p e v) := by
  refine CallsR.of_SX (n := 38) (rs := [.cell 6 117, .cell 7 114, .tmp 8]) Tryd.func75 rfl rfl rfl rfl ?_
  show SX _ _ _ ⟨[(0, .agg ⟨[.int .i64 s.weeks, .int .i64 s.most, .int .i64 s.fall, .int .i64 s.a0, .int .i64 s.a1, .int .i64 s.w0, .int .i64 s.w1, (.slice bo s.book.length bc), (.slice ro s.reads.length rc)]⟩), (1, .bool (decide (p))), (2, .int .i64 e)], [], []⟩
  refine SX.seq ?_
  refine SX.region ?_
  refine SXL.box rfl rfl ?_; intro b0
  refine SXL.alloc zp_117 ?_; intro b1
  refine SXL.alloc zp_114 ?_; intro b2
  refine SXL.assign rfl ?_
  refine SXL.nil ?_
  refine thenQ.normal ?_
  refine SX.seq ?_
  refine SX.seq ?_
  refine SX.region ?_
  refine SXL.loadNo 0 sh_27 rfl rfl rfl ?_
  refine SXL.call1 (.int .i64 (if SpP s then 0 else 10)) fn_26 rfl (fun w hI => scheck_any s bo ro _ _ hb hr _ (hg.inv hI) (hs.inv hI)) ?_
  refine SXL.assign rfl ?_
  refine SXL.nil ?_
  refine thenQ.normal ?_
  refine SX.seq ?_
  refine SX.region ?_
  refine SXL.move rfl ?_
  refine SXL.neqI rfl rfl ?_
  refine SXL.nil ?_
  refine thenQ.normal ?_
  refine SX.condP rfl (fun c16 => ?_) (fun c16 => ?_)
  · refine SX.seq ?_
    refine SX.region ?_
    refine SXL.buildS pl_117 zp_117 rfl rfl ?_
    refine SXL.buildA ae_114 zp_114 rfl rfl ?_
    refine SXL.move rfl ?_
    refine SXL.store 1 sz_117 rfl rfl rfl rfl rfl rfl ?_
    refine SXL.store 2 sz_114 rfl rfl rfl rfl rfl rfl ?_
    refine SXL.assign rfl ?_
    refine SXL.nil ?_
    refine thenQ.normal ?_
    refine SX.ret ?_
    refine thenQ.ret ?_
    refine retQ.three (ResAt.cellNo 1 sh_117 rfl rfl rfl) (ResAt.cellNo 2 sh_114 rfl rfl rfl) (ResAt.tmp rfl) ?_
    have hv : ¬SpP s := fun h => c16 (by rw [if_pos h])
    exact ⟨_, List.replicate 20 0, rfl, rfl, rfl, by rw [askE, if_pos hv, if_neg hv]; rfl, fun h => absurd h hv⟩
  · refine SX.skip ?_
    refine thenQ.normal ?_
    refine SX.seq ?_
    refine SX.seq ?_
    have hv : SpP s := Decidable.byContradiction fun h => c16 (by rw [if_neg h]; omega)
    refine SX.region ?_
    refine SXL.move rfl ?_
    refine SXL.not rfl ?_
    refine SXL.nil ?_
    refine thenQ.normal ?_
    refine SX.condP rfl (fun c21 => ?_) (fun c21 => ?_)
    · refine SX.seq ?_
      refine SX.region ?_
      refine SXL.buildS pl_117 zp_117 rfl rfl ?_
      refine SXL.buildA ae_114 zp_114 rfl rfl ?_
      refine SXL.move rfl ?_
      refine SXL.store 1 sz_117 rfl rfl rfl rfl rfl rfl ?_
      refine SXL.store 2 sz_114 rfl rfl rfl rfl rfl rfl ?_
      refine SXL.assign rfl ?_
      refine SXL.nil ?_
      refine thenQ.normal ?_
      refine SX.ret ?_
      refine thenQ.ret ?_
      refine retQ.three (ResAt.cellNo 1 sh_117 rfl rfl rfl) (ResAt.cellNo 2 sh_114 rfl rfl rfl) (ResAt.tmp rfl) ?_
      exact ⟨_, List.replicate 20 0, rfl, rfl, rfl, by rw [askE, if_neg (by simpa using hv), if_pos c21]; rfl, fun _ h => absurd h c21⟩
    · refine SX.skip ?_
      refine thenQ.normal ?_
      refine SX.seq ?_
      refine SX.region ?_
      refine SXL.loadNo 0 sh_27 rfl rfl rfl ?_
      refine SXL.call1 (.agg ⟨watC s bo ro bc rc (flL s)⟩) fn_72 rfl (fun w hI => flowing_any s bo ro bc rc hv _ (hg.inv hI) (hs.inv hI)) ?_
      refine SXL.alloc zp_117 ?_; intro b3
      refine SXL.store 3 sz_117 rfl rfl rfl rfl (watC_len (by simp [flL])) (putAt_all _ _ (watC_len (by simp [flL]))) ?_ (watC_one _ _ _ _ _ _)
      refine SXL.nil ?_
      refine thenQ.normal ?_
      refine SX.seq ?_
      refine SX.region ?_
      refine SXL.loadNo 3 sh_117 rfl rfl (takeAt_full (watC_len (by simp [flL]))) ?_
      refine SXL.call1 (.tuple ⟨[.agg ⟨ints (outL s.weeks.toNat (lvsL s (baseL s) (rnsL s (baseL s))))⟩, .bool (decide (rnsL s (baseL s) ≠ []))]⟩) fn_73 rfl (fun w hI => spans_any s bo ro bc rc (flL s) (baseL s) hv (relW hv) _ (hg.inv hI) (hs.inv hI)) ?_
      refine SXL.move rfl ?_
      refine SXL.extract rfl rfl ?_
      refine SXL.extract rfl rfl ?_
      refine SXL.alloc zp_114 ?_; intro b4
      refine SXL.store 4 sz_114 rfl rfl rfl rfl (by simp [outL]) (putAt_all _ _ (by simp [outL])) ?_ (ints_isOne _)
      refine SXL.assign rfl ?_
      refine SXL.nil ?_
      refine thenQ.normal ?_
      refine SX.seq ?_
      refine SX.seq ?_
      refine SX.region ?_
      refine SXL.move rfl ?_
      refine SXL.not rfl ?_
      refine SXL.nil ?_
      refine thenQ.normal ?_
      refine SX.condP rfl (fun c33 => ?_) (fun c33 => ?_)
      · refine SX.seq ?_
        refine SX.region ?_
        refine SXL.buildS pl_117 zp_117 rfl rfl ?_
        refine SXL.buildA ae_114 zp_114 rfl rfl ?_
        refine SXL.store 1 sz_117 rfl rfl rfl rfl rfl rfl ?_
        refine SXL.store 2 sz_114 rfl rfl rfl rfl rfl rfl ?_
        refine SXL.assign rfl ?_
        refine SXL.nil ?_
        refine thenQ.normal ?_
        refine SX.ret ?_
        refine thenQ.ret ?_
        refine retQ.three (ResAt.cellNo 1 sh_117 rfl rfl rfl) (ResAt.cellNo 2 sh_114 rfl rfl rfl) (ResAt.tmp rfl) ?_
        exact ⟨_, List.replicate 20 0, rfl, rfl, rfl, by rw [askE, if_neg (by simpa using hv), if_neg c21, if_neg c33]; rfl, fun _ _ h => absurd h c33⟩
      · refine SX.skip ?_
        refine thenQ.normal ?_
        refine SX.seq ?_
        refine SX.draw 5 (by kernel_rfl) (by kernel_rfl) ⟨[1, 3, 4], [true, false, false]⟩ ?_
        refine SXA.take 0 1 rfl (by kernel_rfl) rfl ?_
        refine SXL.loadNo 3 sh_117 rfl rfl (takeAt_full (watC_len (by simp [flL]))) ?_
        refine SXL.nil ⟨rfl, rfl, rfl, ?_⟩
        refine SXA.takeM 1 1 rfl (by kernel_rfl) rfl ?_
        refine SXL.loadNo 2 sh_114 rfl rfl (takeAt_full (by simp [outL])) ?_
        refine SXL.nil ⟨rfl, rfl, rfl, ?_⟩
        refine SXA.all [2] (by kernel_rfl) rfl ⟨⟨?_, rfl⟩, trivial⟩
        refine (show SXL _ _ [_] _ _ from ?_)
        refine SXL.store 1 sz_117 rfl rfl rfl rfl (watC_len (by simp [flL])) (putAt_all _ _ (watC_len (by simp [flL]))) ?_ (watC_one _ _ _ _ _ _)
        refine SXL.nil (stepQ.mkL _ (by kernel_rfl) rfl rfl ?_)
        refine SXA.all [3] (by kernel_rfl) rfl ⟨⟨?_, rfl⟩, trivial⟩
        refine (show SXL _ _ [_] _ _ from ?_)
        refine SXL.store 2 sz_114 rfl rfl rfl rfl (by simp [outL]) (putAt_all _ _ (by simp [outL])) ?_ (ints_isOne _)
        refine SXL.nil (stepQ.mkL _ (by kernel_rfl) rfl rfl ?_)
        refine SXA.takeM 4 1 rfl (by kernel_rfl) rfl ?_
        refine SXL.assign rfl ?_
        refine SXL.nil ⟨rfl, rfl, rfl, ?_⟩
        refine SXA.done (by kernel_rfl) ?_
        refine SXL.nil ?_
        refine thenQ.normal ?_
        refine SX.ret ?_
        refine retQ.three (ResAt.cellNo 1 sh_117 rfl rfl (takeAt_full (watC_len (by simp [flL])))) (ResAt.cellNo 2 sh_114 rfl rfl (takeAt_full (k := 20) (by simp [outL]))) (ResAt.tmp rfl) ?_
        exact ⟨_, outA s, watC_len (by simp [flL]), watC_one _ _ _ _ _ _, by simp [outA, outL], by rw [askE, if_neg (by simpa using hv), if_neg c21, if_pos (Decidable.not_not.1 c33)]; rfl, fun _ _ _ => ⟨rfl, rfl⟩⟩
end Go.Proofs.YtknflipongbngaaDoor
