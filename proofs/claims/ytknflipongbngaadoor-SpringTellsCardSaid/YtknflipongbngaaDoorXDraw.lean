/- The calculus' rules: statements that leave their order open. Nothing of the program stands here. -/
import Derived.Test.YtknflipongbngaaDoorXLoop
import Derived.StillTail
namespace Go.X
open Go Go.RowKit

section
variable {C : Cx} {ops : Array Oper}

abbrev opAt (C : Cx) (ops : Array Oper) (i : Nat) (K : Act → World → Prop) (a : Act) (w : World) : Prop := wpOpIn (FW C.rd) 0 C.P ops (fun _ _ _ => False) i K a w

/-- No operation of the region is put off to the function's end, none chooses among channels. -/
def plainOps (ops : Array Oper) : Bool := ops.all fun o => match o.op with
  | .defer _ | .select .. => false
  | _ => true
theorem plainOps_spec (h : plainOps ops = true) {j : Nat} {o : Oper} (ho : ops[j]? = some o) : (∀ c, o.op ≠ .defer c) ∧ (∀ cs b, o.op ≠ .select cs b) := by
  unfold plainOps at h
  have := Array.all_eq_true'.1 h o (Array.mem_of_getElem? ho)
  constructor
  · intro c hc; rw [hc] at this; cases this
  · intro cs b hc; rw [hc] at this; cases this

/-- An operation apart from a slot does not care whether that slot is filled. -/
theorem opAt_put (hp : plainOps ops = true) {j : Nat} {oi oj : Oper} {v : Value} (hj : ops[j]? = some oj) (hap : oi.apart ops oj = true) {K : Act → World → Prop} {a : Act} {w : World}
    (hK : ∀ a' w', K a' w' → a'.defers = a.defers) (h : opAt C ops j K (a.put oi.dst v) w) :
    opAt C ops j (fun a' w' => (∃ u, a' = a.put oj.dst u) ∧ K (a'.put oi.dst v) w') a w := by
  obtain ⟨h1, h2, h3⟩ := Oper.apart_spec hap
  obtain ⟨hnd, hsj⟩ := plainOps_spec hp hj
  unfold opAt wpOpIn at *
  simp only [hj] at *
  rw [wanted_put oj a oi.dst v h1] at h
  split
  · rename_i hw
    simp only [hw, if_true] at h
    unfold Oper.wpIn at *
    refine ⟨about_true rfl, ?_⟩
    have h := h.2
    rw [Oper.semAt_eq _ _ _ hnd, execOp_put oj hsj a oi.dst v h1] at h
    rw [Oper.semAt_eq _ _ _ hnd]
    generalize (execOp a.eval oj).run C.P w = r at *
    cases r with
    | ok x w' =>
      cases x <;> simp only [Oper.uponIn] at h ⊢
      case value u => exact ⟨⟨u, rfl⟩, by rw [← Act.put_comm a v u h2]; exact h⟩
      case skip => exact ⟨⟨_, rfl⟩, by rw [← Act.put_comm a v undef h2]; exact h⟩
      case defer d =>
        have := hK _ _ h
        simp at this
      case enter f args =>
        refine ⟨h.1, CallsIn.mono h.2 fun e w'' he => ?_⟩
        cases e with
        | returned u => exact ⟨⟨u, rfl⟩, by rw [← Act.put_comm a v u h2]; exact he⟩
        | panicked c => exact he
        | outgrown => exact he
      case row row args => exact ⟨h.1, RowsIn.mono h.2 fun u w'' he => ⟨⟨u, rfl⟩, by rw [← Act.put_comm a v u h2]; exact he⟩⟩
      case round l f tmps assign body =>
        refine ⟨h.1, RoundIn.mono h.2 fun e w'' he => ?_⟩
        cases e with
        | returned u => exact ⟨⟨u, rfl⟩, by rw [← Act.put_comm a v u h2]; exact he⟩
        | panicked c => exact he
        | outgrown => exact he
    | halt x w' => cases x <;> simp only [Oper.uponIn] at h ⊢
  · rename_i hw
    simp only [hw] at h
    exact ⟨about_true rfl, ⟨_, rfl⟩, by rw [← Act.put_comm a v undef h2]; exact h.2⟩
theorem opAt_unput (hp : plainOps ops = true) {j : Nat} {oi oj : Oper} {v : Value} (hj : ops[j]? = some oj) (hap : oi.apart ops oj = true) {K : Act → World → Prop} {a : Act} {w : World}
    (h : opAt C ops j (fun a' w' => a'.defers = a.defers ∧ K (a'.put oi.dst v) w') a w) : opAt C ops j K (a.put oi.dst v) w := by
  obtain ⟨h1, h2, h3⟩ := Oper.apart_spec hap
  obtain ⟨hnd, hsj⟩ := plainOps_spec hp hj
  unfold opAt wpOpIn at *
  simp only [hj] at *
  rw [wanted_put oj a oi.dst v h1]
  split
  · rename_i hw
    simp only [hw, if_true] at h
    unfold Oper.wpIn at *
    refine ⟨about_true rfl, ?_⟩
    have h := h.2
    rw [Oper.semAt_eq _ _ _ hnd] at h
    rw [Oper.semAt_eq _ _ _ hnd, execOp_put oj hsj a oi.dst v h1]
    generalize (execOp a.eval oj).run C.P w = r at *
    cases r with
    | ok x w' =>
      cases x <;> simp only [Oper.uponIn] at h ⊢
      case value u => rw [Act.put_comm a v u h2]; exact h.2
      case skip => rw [Act.put_comm a v undef h2]; exact h.2
      case defer d =>
        have := h.1
        simp at this
      case enter f args =>
        refine ⟨h.1, CallsIn.mono h.2 fun e w'' he => ?_⟩
        cases e with
        | returned u => show K ((a.put oi.dst v).put oj.dst u) w''; rw [Act.put_comm a v u h2]; exact he.2
        | panicked c => exact he
        | outgrown => exact he
      case row row args => exact ⟨h.1, RowsIn.mono h.2 fun u w'' he => by rw [Act.put_comm a v u h2]; exact he.2⟩
      case round l f tmps assign body =>
        refine ⟨h.1, RoundIn.mono h.2 fun e w'' he => ?_⟩
        cases e with
        | returned u => show K ((a.put oi.dst v).put oj.dst u) w''; rw [Act.put_comm a v u h2]; exact he.2
        | panicked c => exact he
        | outgrown => exact he
    | halt x w' => cases x <;> simp only [Oper.uponIn] at h ⊢
  · rename_i hw
    simp only [hw] at h
    exact ⟨about_true rfl, by rw [Act.put_comm a v undef h2]; exact h.2.2⟩

/-- A class of worlds that is kept by whatever keeps all that there was. -/
def Ext (S : World → Prop) : Prop := ∀ w w', S w → Below w.heap.size w w' → S w'

/-- QOp, of the operation at a place. -/
theorem QOp.at {S : World → Prop} {i : Nat} {o : Oper} {a : Act} {v : Value} (hi : ops[i]? = some o) (h : QOp C ops S o a v) {w : World} (hw : S w) {K : Act → World → Prop}
    (hK : ∀ w', Below w.heap.size w w' → K (a.put o.dst v) w') : opAt C ops i K a w := by
  unfold opAt wpOpIn
  simp only [hi]
  exact h w hw K hK
theorem QOp.put (hp : plainOps ops = true) {S : World → Prop} {i : Nat} {oi oj : Oper} {a : Act} {v u : Value} (hi : ops[i]? = some oi) (hap : oj.apart ops oi = true) (h2 : ∀ d, oj.dst = some d → oi.dst ≠ some d) (h : QOp C ops S oi a v) :
    QOp C ops S oi (a.put oj.dst u) v := by
  intro w hw K hK
  have h' : opAt C ops i (fun a' w' => a'.defers = a.defers ∧ K (a'.put oj.dst u) w') a w := h.at hi hw fun w' hb => ⟨by simp, by rw [← Act.put_comm a u v h2]; exact hK w' hb⟩
  have := opAt_unput (v := u) hp hi hap h'
  unfold opAt wpOpIn at this
  simpa only [hi] using this
theorem apart_symm {x y : Oper} (h : x.apart ops y = true) : y.apart ops x = true := by
  obtain ⟨h1, h2, h3⟩ := Oper.apart_spec h
  unfold Oper.apart
  cases hx : x.dst <;> cases hy : y.dst <;> simp
  · exact h3 _ hy
  · exact h1 _ hx
  · exact ⟨⟨h3 _ hy, fun e => h2 _ hx (by rw [hy, e])⟩, h1 _ hx⟩

/-- Whatever order is picked for the first m operations; behind them the leaf. -/
def Apart (ops : Array Oper) (j i : Nat) : Prop := i ≠ j ∧ ∀ oj, ops[j]? = some oj → ∀ e ∈ oj.after, Region.binds .any e = true → e.on ≠ i
/-- T: in which worlds each operation is quiet; what comes before it keeps that. -/
def AnyX (C : Cx) (ops : Array Oper) (m : Nat) (D : List Deferred) (L : Array Bool → Act → World → Prop) : Nat → (Nat → World → Prop) → (World → Prop) → Array Bool → Act → Prop
  | 0, _, S, listed, a => ∀ w, S w → L listed a w
  | f + 1, T, S, listed, a => ∀ w, S w → Region.ready .any ops listed ≠ [] ∧ ∀ j ∈ Region.ready .any ops listed, j < m ∧
      opAt C ops j (fun a' w' => a'.defers = D ∧ ∃ (T' : Nat → World → Prop) (S' : World → Prop), Ext S' ∧ (∀ i, Apart ops j i → ∀ x, T' i x → T i x) ∧ (∀ i x, S' x → T' i x) ∧ S' w' ∧ AnyX C ops m D L f T' S' (listed.setIfInBounds j true) a') a w

theorem AnyX.sound {m g : Nat} {D : List Deferred} {L : Array Bool → Act → World → Prop} {Q : Exit → Act → World → Prop} (hL : ∀ listed a w, L listed a w → wpAnyIn (FW C.rd) 0 C.P .any ops Q g listed a w) :
    ∀ (f : Nat) (T : Nat → World → Prop) (S : World → Prop) (listed : Array Bool) (a : Act) (w : World), AnyX C ops m D L f T S listed a → S w → wpAnyIn (FW C.rd) 0 C.P .any ops Q (f + g) listed a w
  | 0, T, S, listed, a, w, h, hw => by rw [Nat.zero_add]; exact hL _ _ _ (h w hw)
  | f + 1, T, S, listed, a, w, h, hw => by
    rw [show f + 1 + g = (f + g) + 1 by omega]
    obtain ⟨h1, h2⟩ := h w hw
    refine ⟨fun h0 => absurd h0 h1, fun i hi => ?_⟩
    obtain ⟨_, h3⟩ := h2 i hi
    have mono : ∀ {Q1 Q2 : Exit → Act → World → Prop} {K : Act → World → Prop}, (∀ e a w, Q1 e a w → Q2 e a w) → wpOpIn (FW C.rd) 0 C.P ops Q1 i K a w → wpOpIn (FW C.rd) 0 C.P ops Q2 i K a w := by
      intro Q1 Q2 K hQ h
      unfold wpOpIn at *
      split
      · simpa [*] using h
      · rename_i o ho
        simp only [ho] at h
        split
        · rename_i hw'
          simp only [hw', if_true] at h
          unfold Oper.wpIn at *
          refine ⟨h.1, ?_⟩
          have h := h.2
          generalize (o.semAt (FW C.rd).round a.eval).run C.P w = r at *
          cases r with
          | ok x w' =>
            cases x <;> simp only [Oper.uponIn] at h ⊢ <;> try exact h
            case enter f args =>
              refine ⟨h.1, CallsIn.mono h.2 fun e w'' he => ?_⟩
              cases e with
              | returned u => exact he
              | panicked c => exact hQ _ _ _ he
              | outgrown => obtain ⟨a0, w0, hq⟩ := he; exact ⟨a0, w0, hQ _ _ _ hq⟩
            case round l f tmps assign body =>
              refine ⟨h.1, RoundIn.mono h.2 fun e w'' he => ?_⟩
              cases e with
              | returned u => exact he
              | panicked c => exact hQ _ _ _ he
              | outgrown => obtain ⟨a0, w0, hq⟩ := he; exact ⟨a0, w0, hQ _ _ _ hq⟩
          | halt x w' => cases x <;> simp only [Oper.uponIn] at h ⊢ <;> first | exact hQ _ _ _ h | exact h
        · rename_i hw'
          simp only [hw'] at h
          exact h
    refine mono (fun _ _ _ h => h.elim) (wpOpIn_mono (fun a' w' hh => ?_) h3)
    obtain ⟨_, T', S', _, _, _, hw', h4⟩ := hh
    exact AnyX.sound hL f T' S' _ a' w' h4 hw'

/-- **A quiet operation that may come up now may be taken first.** -/
theorem AnyX.first (hp : plainOps ops = true) {m i : Nat} {D : List Deferred} {L : Array Bool → Act → World → Prop} {oi : Oper} {v : Value} (hi : ops[i]? = some oi)
    (hwait : ∀ listed, HeadInv .any ops m listed → listed.getD i true = false → ∀ j ∈ Region.ready .any ops listed, j < m)
    (hdone : ∀ listed a w, L listed a w → ∀ j ∈ Region.ready .any ops listed, m ≤ j) :
    ∀ (f : Nat) (T : Nat → World → Prop) (S : World → Prop) (listed : Array Bool) (a : Act), HeadInv .any ops m listed → Ext S → (∀ i x, S x → T i x) → a.defers = D →
      (∀ j oj, ops[j]? = some oj → j ≠ i → listed.getD j true = false → (∀ e ∈ oj.after, Region.binds .any e = true → e.on ≠ i) → oi.apart ops oj = true) →
      i ∈ Region.ready .any ops listed → QOp C ops (T i) oi a v →
      AnyX C ops m D L f T S (listed.setIfInBounds i true) (a.put oi.dst v) → AnyX C ops m D L (f + 1) T S listed a := by
  intro f
  induction f with
  | zero =>
    intro T S listed a inv hE hST hD hfree hr hq H w hw
    have hun := (mem_ready.1 hr).1
    refine ⟨fun h => (by rw [h] at hr; cases hr), fun j hj => ?_⟩
    have hjm : j < m := hwait listed inv hun j hj
    refine ⟨hjm, ?_⟩
    by_cases hji : j = i
    · subst hji
      exact hq.at hi (hST _ _ hw) fun w' hb => ⟨by simp [hD], T, S, hE, fun _ _ _ h => h, hST, hE w w' hw hb, H⟩
    · have := hdone _ _ _ (H w hw) j (ready_mono hj hji)
      omega
  | succ f ih =>
    intro T S listed a inv hE hST hD hfree hr hq H w hw
    have hun := (mem_ready.1 hr).1
    refine ⟨fun h => (by rw [h] at hr; cases hr), fun j hj => ?_⟩
    have hjm : j < m := hwait listed inv hun j hj
    refine ⟨hjm, ?_⟩
    by_cases hji : j = i
    · subst hji
      exact hq.at hi (hST _ _ hw) fun w' hb => ⟨by simp [hD], T, S, hE, fun _ _ _ h => h, hST, hE w w' hw hb, H⟩
    · have h1 := ((H w hw).2 j (ready_mono hj hji)).2
      obtain ⟨hjun, oj, hoj, hall⟩ := mem_ready.1 hj
      have hnot : ∀ e ∈ oj.after, Region.binds .any e = true → e.on ≠ i := fun e he hb heq => by
        have h1 := hall e he hb
        rw [heq, getD_both hun] at h1
        cases h1
      have hap := hfree j oj hoj hji hjun hnot
      have h2 := opAt_put hp hoj hap (fun a' w' hh => by rw [hh.1, hD]) h1
      have hfree' : ∀ k ok, ops[k]? = some ok → k ≠ i → (listed.setIfInBounds j true).getD k true = false →
          (∀ e ∈ ok.after, Region.binds .any e = true → e.on ≠ i) → oi.apart ops ok = true := fun k ok hk hki hun' hno => by
        refine hfree k ok hk hki ?_ hno
        by_cases hjk : j = k
        · subst hjk; exact hjun
        · rw [getD_set_ne true hjk] at hun'; exact hun'
      refine wpOpIn_mono (fun a' w' hh => ?_) h2
      obtain ⟨⟨u, rfl⟩, hD', T', S', hE', hT', hST', hw', h4⟩ := hh
      have hap2 : Apart ops j i := ⟨fun e => hji e.symm, fun oj' ho' => by rw [hoj] at ho'; cases ho'; exact hnot⟩
      refine ⟨by simp [hD], T', S', hE', hT', hST', hw', ?_⟩
      refine ih T' S' (listed.setIfInBounds j true) (a.put oj.dst u) (inv.set hj hjm) hE' hST' (by simp [hD]) hfree' (ready_mono hr (Ne.symm hji)) ?_ ?_
      · have hap' := apart_symm hap
        exact QOp.put hp hi hap' (Oper.apart_spec hap').2.1 (fun w hw => hq w (hT' i hap2 w hw))
      · rw [Array.setIfInBounds_comm _ _ hji]
        exact h4

def drawOk (ops : Array Oper) (m : Nat) : Bool := plainOps ops && ((Region.sinkB .any ops m && Region.chainB .any ops m && Nat.blt m ops.size) || Nat.beq m ops.size)
def markFrom : Nat → Nat → Array Bool → Array Bool
  | _, 0, L => L
  | k, c + 1, L => markFrom (k + 1) c (L.setIfInBounds k true)
def chunkOk (ops : Array Oper) : Nat → Nat → Array Bool → Bool
  | _, 0, _ => true
  | k, c + 1, L => (Region.ready .any ops L).contains k && Region.free .any ops L k && chunkOk ops (k + 1) c (L.setIfInBounds k true)

theorem wpAnyIn_of_seq {F : Fence} {n : Nat} {P : Program} {md : Region.Mode} {Q' : Exit → Act → World → Prop} : ∀ (l : List Oper) (k : Nat) (listed : Array Bool) (a : Act) (w : World), (∀ j, l[j]? = ops[k + j]?) →
    Region.seqB md ops l.length k listed = true → wpListIn F n P ops Q' l a w → wpAnyIn F n P md ops Q' l.length listed a w
  | [], _, _, _, _, _, hB, h => ⟨by simpa [Region.seqB] using hB, h⟩
  | o :: l, k, listed, a, w, hl, hB, h => by
    have h0 : ops[k]? = some o := by simpa using (hl 0).symm
    simp only [List.length_cons, Region.seqB, Bool.and_eq_true, decide_eq_true_eq] at hB
    refine ⟨fun h1 => (by rw [hB.1] at h1; cases h1), fun i hi => ?_⟩
    rw [hB.1] at hi
    have hik : i = k := by simpa using hi
    subst hik
    have hw : wpOpIn F n P ops Q' i (wpListIn F n P ops Q' l) a w := by unfold wpOpIn; simp only [h0]; exact h
    exact wpOpIn_mono (fun a' w' h' => wpAnyIn_of_seq l (i + 1) _ a' w' (fun j => by have := hl (j + 1); simpa [Nat.add_assoc, Nat.add_comm 1 j] using this) hB.2 h') hw

/-- Behind the first m operations the others stand in one order. -/
def tailLeaf (C : Cx) (ops : Array Oper) (m : Nat) (Q : Post) (listed : Array Bool) (a : Act) (w : World) : Prop :=
  Region.seqB .any ops (ops.size - m) m listed = true ∧ wpListIn (FW C.rd) 0 C.P ops (lift C Q) (ops.toList.drop m) a w
/-- The blocks that no operation of the region changes while a 'late' one may come up still; a short mask keeps the rest. -/
def maskL : List Bool → Own → Own
  | [], l => l
  | true :: m, x :: l => x :: maskL m l
  | false :: m, _ :: l => maskL m l
  | _ :: _, [] => []
theorem maskL_sub : ∀ (m : List Bool) (l : Own), (maskL m l).Sublist l
  | [], l => .refl l
  | true :: m, x :: l => (maskL_sub m l).cons_cons x
  | false :: m, x :: l => (maskL_sub m l).cons x
  | _ :: _, [] => by simp [maskL]
theorem maskL_append : ∀ (m : List Bool) (l t : Own), ∃ t', maskL m (l ++ t) = maskL m l ++ t'
  | [], l, t => ⟨t, rfl⟩
  | true :: m, x :: l, t => by obtain ⟨t', h⟩ := maskL_append m l t; exact ⟨t', by simp [maskL, h]⟩
  | false :: m, x :: l, t => by obtain ⟨t', h⟩ := maskL_append m l t; exact ⟨t', by simp [maskL, h]⟩
  | b :: m, [], t => ⟨maskL (b :: m) t, by simp [maskL]⟩
/-- What is left open: which operations are late, and the mask. -/
structure Lt where
  late : List Nat := []
  mask : List Bool := []
def Lt.at (k : Lt) (i : Nat) : List Bool := bif k.late.contains i then k.mask else []
def Lt.T (k : Lt) (n : Nat) (w0 : World) (own : Own) (i : Nat) (w : World) : Prop := i < n → Inv w0 (maskL (k.at i) own) w
/-- Of the first m operations those that are not listed are still to come, in whatever order. -/
def SXA (C : Cx) (ops : Array Oper) (m : Nat) (Q : Post) (k : Lt) (f : Nat) (listed : Array Bool) (s : St) : Prop :=
  drawOk ops m = true → HeadInv .any ops m listed → ∀ a, Agree C.n s.env a → a.defers = s.D → AnyX C ops m s.D (tailLeaf C ops m Q) f (k.T ops.size C.w0 s.own) (Inv C.w0 s.own) listed a

theorem ext_inv (w0 : World) (own : Own) : Ext (Inv w0 own) := fun _ _ h hb => h.ext hb
theorem drawOk_spec {m : Nat} (h : drawOk ops m = true) : plainOps ops = true ∧ m ≤ ops.size ∧ ∀ i, i < m → ∀ listed, HeadInv .any ops m listed → listed.getD i true = false → ∀ j ∈ Region.ready .any ops listed, j < m := by
  unfold drawOk at h
  simp only [Bool.and_eq_true, Bool.or_eq_true] at h
  obtain ⟨h1, ⟨⟨hs, hc⟩, hm⟩ | hm⟩ := h
  · rw [Nat.blt_eq] at hm
    refine ⟨h1, by omega, fun i him listed inv hun j hj => ?_⟩
    rcases Nat.lt_or_ge j m with h | h
    · exact h
    · exact absurd hj (tail_waits hs hc hm inv _ i rfl him hun j h)
  · have hm := Nat.eq_of_beq_eq_true hm
    refine ⟨h1, by omega, fun i him listed inv hun j hj => ?_⟩
    obtain ⟨_, oj, hoj, _⟩ := mem_ready.1 hj
    rw [hm]
    exact (Array.getElem?_eq_some_iff.1 hoj).1
theorem tailLeaf_done {m : Nat} {Q : Post} : ∀ (listed : Array Bool) (a : Act) (w : World), tailLeaf C ops m Q listed a w → ∀ j ∈ Region.ready .any ops listed, m ≤ j :=
  fun _ _ _ h => seqB_ready h.1

variable {Q : Post} {m f : Nat} {listed : Array Bool} {s : St} {kt : Lt}
theorem Lt.le (k : Lt) (n : Nat) (w0 : World) (own : Own) (i : Nat) (w : World) (h : Inv w0 own w) : k.T n w0 own i w := fun _ => h.weaken (maskL_sub _ _)
theorem SX.draw {id : Nat} {l : List Oper} (m : Nat) (hm : C.P.follows .mixedOrders = true) (hB : drawOk l.toArray m = true) (kt : Lt := {})
    (h : SXA C l.toArray m Q kt m (Array.replicate l.toArray.size false) s) : SX C (.region id l.toArray true) Q s := by
  intro a w hc
  have inv0 : HeadInv .any l.toArray m (Array.replicate l.toArray.size false) :=
    ⟨by simp, fun j oj _ hl => (by rw [getD_replicate_false] at hl; cases hl), fun t _ ht => getD_in (by simpa using ht) (getD_replicate_false _ _)⟩
  have hI : Inv C.w0 s.own { w with drawn := w.drawn + 1 } := hc.2.2.ext ⟨rfl, rfl, rfl, Nat.le_refl _, fun _ _ => rfl⟩
  have hlt := (drawOk_spec hB).2.1
  refine wpIn_region_any hm ?_
  have := AnyX.sound (Q := lift C Q) (g := l.toArray.size - m) (fun listed' a' w' hL => ?_) m _ _ _ a _ (h hB inv0 a hc.1 hc.2.1) hI
  · rwa [show m + (l.toArray.size - m) = l.toArray.size by omega] at this
  · have h1 := wpAnyIn_of_seq (F := FW C.rd) (n := 0) (P := C.P) (md := .any) (Q' := lift C Q) (l.toArray.toList.drop m) m listed' a' w' (fun j => by simp [List.getElem?_drop]) (by
      rw [show (l.toArray.toList.drop m).length = l.toArray.size - m from by simp]; exact hL.1) hL.2
    rwa [show (l.toArray.toList.drop m).length = l.toArray.size - m from by simp] at h1

/-- All listed: the tail. -/
theorem SXA.done (hq : Region.seqB .any ops (ops.size - m) m listed = true) (h : SXL C ops (ops.toList.drop m) Q s) (hdr : C.dr = false := by rfl) : SXA C ops m Q kt 0 listed s :=
  fun _ _ a ha hD w hw => ⟨hq, h.ton hdr a w ⟨ha, hD, hw⟩⟩

def noneLate (late : List Nat) : Nat → Nat → Bool
  | _, 0 => true
  | k, c + 1 => !late.contains k && noneLate late (k + 1) c
/-- Quiet operations, late ones among them, taken first: they see what no operation changes. -/
theorem SXA.takeM (k c : Nat) {f' : Nat} (hf : f = f' + c) (hB : chunkOk ops k c listed = true) (hkm : Nat.ble (k + c) m = true)
    (h : SXL { C with dr := true } ops ((ops.toList.drop k).take c) (fun e s' => e = .normal ∧ s'.own = maskL kt.mask s.own ∧ s'.D = s.D ∧ SXA C ops m Q kt f' (markFrom k c listed) ⟨s'.env, s.own, s'.D⟩) ⟨s.env, maskL kt.mask s.own, s.D⟩) : SXA C ops m Q kt f listed s := by
  intro hok inv a ha hD
  obtain ⟨hp, hm, hwait⟩ := drawOk_spec hok
  have hq := h.toq rfl a ha hD
  have hkm' : k + c ≤ m := Nat.le_of_ble_eq_true hkm
  subst hf
  clear ha h
  induction c generalizing k listed a with
  | zero =>
    rw [List.take_zero] at hq
    obtain ⟨s', h1, h2, _, _, h4, h5, h6⟩ := hq
    have := h6 hok inv a h1 h2
    rw [← h5]
    exact this
  | succ c ih =>
    simp only [chunkOk, Bool.and_eq_true] at hB
    obtain ⟨⟨hr, hfr⟩, hB'⟩ := hB
    have hk : k < ops.toList.length := by rw [Array.length_toList]; omega
    have hk0 : ops[k]? = some ops.toList[k] := by rw [← Array.getElem?_toList]; exact List.getElem?_eq_getElem hk
    rw [List.drop_eq_getElem_cons hk, List.take_succ_cons] at hq
    obtain ⟨v, hv, hq⟩ := hq
    have hr' : k ∈ Region.ready .any ops listed := by simpa using hr
    refine AnyX.first hp hk0 (hwait k (by omega)) tailLeaf_done (f' + c) _ _ listed a inv (ext_inv _ _) (kt.le _ _ _) hD (Region.free_spec hk0 hfr) hr' (v := v) ?_ ?_
    · refine fun w hw => hv w ?_
      have hw := hw (by rw [← Array.length_toList]; exact hk)
      unfold Lt.at at hw
      cases hc : kt.late.contains k <;> rw [hc] at hw
      · exact Inv.weaken (own := s.own) hw (maskL_sub _ _)
      · exact hw
    · exact ih (k + 1) hB' (Nat.ble_eq_true_of_le (by omega)) (inv.set hr' (by omega)) (a.put _ v) (by rw [put_defers]; exact hD) hq (by omega)
/-- Quiet operations, none of them late, taken first. -/
theorem SXA.take (k c : Nat) {f' : Nat} (hf : f = f' + c) (hB : chunkOk ops k c listed = true) (hkm : Nat.ble (k + c) m = true)
    (h : SXL { C with dr := true } ops ((ops.toList.drop k).take c) (fun e s' => e = .normal ∧ s'.own = s.own ∧ s'.D = s.D ∧ SXA C ops m Q kt f' (markFrom k c listed) s') s) (hlate : noneLate kt.late k c = true := by rfl) : SXA C ops m Q kt f listed s := by
  intro hok inv a ha hD
  obtain ⟨hp, hm, hwait⟩ := drawOk_spec hok
  have hq := h.toq rfl a ha hD
  have hkm' : k + c ≤ m := Nat.le_of_ble_eq_true hkm
  subst hf
  clear ha h
  induction c generalizing k listed a with
  | zero =>
    rw [List.take_zero] at hq
    obtain ⟨s', h1, h2, _, _, h4, h5, h6⟩ := hq
    have := h6 hok inv a h1 h2
    rw [h4, h5] at this
    exact this
  | succ c ih =>
    simp only [chunkOk, Bool.and_eq_true] at hB
    obtain ⟨⟨hr, hfr⟩, hB'⟩ := hB
    simp only [noneLate, Bool.and_eq_true, Bool.not_eq_true'] at hlate
    have hk : k < ops.toList.length := by rw [Array.length_toList]; omega
    have hk0 : ops[k]? = some ops.toList[k] := by rw [← Array.getElem?_toList]; exact List.getElem?_eq_getElem hk
    rw [List.drop_eq_getElem_cons hk, List.take_succ_cons] at hq
    obtain ⟨v, hv, hq⟩ := hq
    have hr' : k ∈ Region.ready .any ops listed := by simpa using hr
    refine AnyX.first hp hk0 (hwait k (by omega)) tailLeaf_done (f' + c) _ _ listed a inv (ext_inv _ _) (kt.le _ _ _) hD (Region.free_spec hk0 hfr) hr' (v := v) ?_ ?_
    · refine fun w hw => hv w ?_
      have hw := hw (by rw [← Array.length_toList]; exact hk)
      unfold Lt.at at hw
      rw [hlate.1] at hw
      exact hw
    · exact ih (k + 1) hB' (Nat.ble_eq_true_of_le (by omega)) hlate.2 (inv.set hr' (by omega)) (a.put _ v) (by rw [put_defers]; exact hD) hq (by omega)

/-- All that is not surely before an operation is late. -/
def lateB (ops : Array Oper) (late : List Nat) (j : Nat) : Bool := match ops[j]? with
  | some oj => (List.range ops.size).all fun i => Nat.beq i j || late.contains i || oj.after.any fun e => Region.binds .any e && Nat.beq e.on i
  | none => false
theorem lateB_spec {late : List Nat} {j : Nat} (h : lateB ops late j = true) {i : Nat} (hi : i < ops.size) (ha : Apart ops j i) : late.contains i = true := by
  unfold lateB at h
  split at h
  · rename_i oj ho
    rw [List.all_eq_true] at h
    have h := h i (List.mem_range.2 hi)
    simp only [Bool.or_eq_true] at h
    rcases h with (h | h) | h
    · exact absurd (Nat.eq_of_beq_eq_true h) ha.1
    · exact h
    · obtain ⟨k, hk, hb⟩ := Array.any_iff_exists.1 h
      obtain ⟨_, _, hb⟩ := hb
      simp only [Bool.and_eq_true] at hb
      exact absurd (Nat.eq_of_beq_eq_true hb.2) (ha.2 oj ho _ (Array.getElem_mem _) hb.1)
  · cases h

/-- What is asked of an operation that is carried out next. -/
def stepQ (C : Cx) (ops : Array Oper) (m : Nat) (Q : Post) (k : Lt) (f : Nat) (listed : Array Bool) (i : Nat) (s : St) : Post
  | .normal, s' => ((∃ t, s'.own = s.own ++ t) ∨ (lateB ops k.late i = true ∧ ∃ t, maskL k.mask s'.own = maskL k.mask s.own ++ t)) ∧ s'.D = s.D ∧ SXA C ops m Q k f (listed.setIfInBounds i true) s'
  | _, _ => False
def AllStep (C : Cx) (ops : Array Oper) (m : Nat) (Q : Post) (k : Lt) (f : Nat) (listed : Array Bool) (s : St) : List Nat → Prop
  | [] => True
  | i :: rs => ((match ops[i]? with | some o => SXL C ops [o] (stepQ C ops m Q k f listed i s) s | none => False) ∧ Nat.blt i m = true) ∧ AllStep C ops m Q k f listed s rs
theorem AllStep.mem {rs : List Nat} (h : AllStep C ops m Q kt f listed s rs) {i : Nat} (hi : i ∈ rs) : (match ops[i]? with | some o => SXL C ops [o] (stepQ C ops m Q kt f listed i s) s | none => False) ∧ Nat.blt i m = true := by
  induction rs with
  | nil => cases hi
  | cons j rs ih =>
    rcases List.mem_cons.1 hi with rfl | hi
    · exact h.1
    · exact ih h.2 hi
/-- Whichever of the operations that may come up now comes. -/
theorem SXA.all (rs : List Nat) (hr : Region.ready .any ops listed = rs) (hne : rs.isEmpty = false) (h : AllStep C ops m Q kt f listed s rs) (hdr : C.dr = false := by rfl) : SXA C ops m Q kt (f + 1) listed s := by
  intro hok inv a ha hD w hw
  refine ⟨(by rw [hr]; intro e; rw [e] at hne; cases hne), fun i hi => ?_⟩
  have hi' := hi
  rw [hr] at hi'
  obtain ⟨h1, h2⟩ := h.mem hi'
  have him : i < m := by rwa [Nat.blt_eq] at h2
  refine ⟨him, ?_⟩
  cases ho : ops[i]? with
  | none => rw [ho] at h1; exact h1.elim
  | some o =>
    rw [ho] at h1
    have h3 := h1.ton hdr a w ⟨ha, hD, hw⟩
    have inv' := inv.set hi him
    unfold opAt wpOpIn
    simp only [ho]
    simp only [wpListIn] at h3
    have key : ∀ a' w', lift C (stepQ C ops m Q kt f listed i s) .normal a' w' → a'.defers = s.D ∧ ∃ (T' : Nat → World → Prop) (S' : World → Prop), Ext S' ∧ (∀ k, Apart ops i k → ∀ x, T' k x → kt.T ops.size C.w0 s.own k x) ∧ (∀ k x, S' x → T' k x) ∧ S' w' ∧ AnyX C ops m s.D (tailLeaf C ops m Q) f T' S' (listed.setIfInBounds i true) a' := by
      rintro a' w' ⟨s', hc', h4, h5, h6⟩
      refine ⟨by rw [hc'.2.1, h5], kt.T ops.size C.w0 s'.own, Inv C.w0 s'.own, ext_inv _ _, fun k hap x hx hk => ?_, fun k x hx => kt.le _ _ _ k x hx, hc'.2.2, ?_⟩
      · have hx := hx hk
        have hsub : ∃ t, maskL (kt.at k) s'.own = maskL (kt.at k) s.own ++ t := by
          rcases h4 with ⟨t, h4⟩ | ⟨hl, h4⟩
          · rw [h4]; exact maskL_append _ _ _
          · unfold Lt.at
            rw [lateB_spec hl hk hap]
            exact h4
        obtain ⟨t, ht⟩ := hsub
        rw [ht] at hx
        exact hx.weaken (List.sublist_append_left _ _)
      · have := h6 hok inv' a' hc'.1 hc'.2.1
        rwa [h5] at this
    split
    · rename_i hw'
      rw [if_pos hw'] at h3
      unfold Oper.wpIn at *
      refine ⟨h3.1, ?_⟩
      have h3 := h3.2
      generalize (o.semAt (FW C.rd).round a.eval).run C.P w = r at *
      cases r with
      | ok x w' =>
        cases x <;> simp only [Oper.uponIn] at h3 ⊢
        case value u => exact key _ _ h3
        case skip => exact key _ _ h3
        case defer d => exact key _ _ h3
        case enter f args =>
          refine ⟨h3.1, CallsIn.mono h3.2 fun e w'' he => ?_⟩
          cases e with
          | returned u => exact key _ _ he
          | panicked c => obtain ⟨s', _, hq⟩ := he; exact hq.elim
          | outgrown => obtain ⟨a0, w0, s', _, hq⟩ := he; exact hq.elim
        case row row args => exact ⟨h3.1, RowsIn.mono h3.2 fun u w'' he => key _ _ he⟩
        case round l f tmps assign body =>
          refine ⟨h3.1, RoundIn.mono h3.2 fun e w'' he => ?_⟩
          cases e with
          | returned u => exact key _ _ he
          | panicked c => obtain ⟨s', _, hq⟩ := he; exact hq.elim
          | outgrown => obtain ⟨a0, w0, s', _, hq⟩ := he; exact hq.elim
      | halt x w' =>
        cases x <;> simp only [Oper.uponIn] at h3 ⊢
        case panic u => obtain ⟨s', _, hq⟩ := h3; exact hq.elim
    · rename_i hw'
      rw [if_neg hw'] at h3
      exact ⟨about_true rfl, key _ _ h3.2⟩
theorem stepQ.mk {i : Nat} {s' : St} (t : Own) (h1 : s'.own = s.own ++ t) (h2 : s'.D = s.D) (h3 : SXA C ops m Q kt f (listed.setIfInBounds i true) s') : stepQ C ops m Q kt f listed i s .normal s' := ⟨.inl ⟨t, h1⟩, h2, h3⟩
/-- .. that changes a block: what is late does not look at it. -/
theorem stepQ.mkL {i : Nat} {s' : St} (t : Own) (hl : lateB ops kt.late i = true) (h1 : maskL kt.mask s'.own = maskL kt.mask s.own ++ t) (h2 : s'.D = s.D) (h3 : SXA C ops m Q kt f (listed.setIfInBounds i true) s') : stepQ C ops m Q kt f listed i s .normal s' := ⟨.inr ⟨hl, t, h1⟩, h2, h3⟩
/-- The ways through different orders meet at one state. -/
theorem SXA.le {s' : St} (hk : kt.mask = []) (he : EnvSub s'.env s.env) (ho : s'.own.Perm s.own) (hD : s'.D = s.D) (h : SXA C ops m Q kt f listed s') : SXA C ops m Q kt f listed s := by
  intro hok inv a ha hDa
  have e : Inv C.w0 s.own = Inv C.w0 s'.own := by funext w; exact propext ⟨fun h => h.perm ho, fun h => h.perm ho.symm⟩
  have e2 : kt.T ops.size C.w0 s.own = kt.T ops.size C.w0 s'.own := by
    funext i w
    unfold Lt.T Lt.at
    rw [hk]
    cases kt.late.contains i <;> simp only [cond_true, cond_false, maskL] <;> rw [e]
  rw [e, e2, ← hD]
  exact h hok inv a (ha.sub he) (by rw [hDa, hD])
end
end Go.X
