/- Texts of the proof, merged: P4, P5, D4, XRange, Facts, K1, K2, R1, R2, R3, R4, P6, P7, P8, P9, P10, P12, P14, P11, P16, P17, XF, XSi, W4. -/
import Derived.Test.YtknflipongbngaaDoorMSpringEnds1
import Derived.Scope
import Derived.Test.YtknflipongbngaaDoorProg
import Derived.Test.YtknflipongbngaaDoorCards
import Derived.Test.YtknflipongbngaaDoorTie
import Derived.WalkKit
import Derived.ProofKit
import Derived.LaidMore
import Derived.LaidHandle
import Derived.LaidSub
import Derived.Stop.Joined
import Derived.Deep.DeepHandedRow
/- What the package spring asks of a spring: the plain words. Nothing of Go stands here. -/
namespace Go.S
def lastN (s : Sp) : Nat → Int
  | 0 => 0
  | k + 1 => (s.reads.getD k default).num
def ckP (s : Sp) : Nat → Prop
  | 0 => Wi s.weeks 1 10 ∧ (Wi s.most 0 100 ∧ Wi s.fall 0 100)
  | 1 => Spn s.a0 s.a1 1 600 ∧ Spn s.w0 s.w1 0 20
  | 2 => (s.book.length : Int) ≤ 8 ∧ (s.reads.length : Int) ≤ 12
  | 3 => BookP s
  | _ => ReadsP s
instance (s : Sp) : ∀ k, Decidable (ckP s k)
  | 0 => inferInstanceAs (Decidable (Wi s.weeks 1 10 ∧ (Wi s.most 0 100 ∧ Wi s.fall 0 100)))
  | 1 => inferInstanceAs (Decidable (Spn s.a0 s.a1 1 600 ∧ Spn s.w0 s.w1 0 20))
  | 2 => inferInstanceAs (Decidable ((s.book.length : Int) ≤ 8 ∧ (s.reads.length : Int) ≤ 12))
  | 3 => inferInstanceAs (Decidable (BookP s))
  | _ + 4 => inferInstanceAs (Decidable (ReadsP s))
theorem in_iff (l : List Int) (lo hi : Int) : (¬∃ k, k < l.length ∧ (l.getD k 0 < lo ∨ hi < l.getD k 0)) ↔ ∀ x ∈ l, Wi x lo hi := by
  constructor
  · intro h x hx
    obtain ⟨k, hk, rfl⟩ := List.getElem_of_mem hx
    refine Decidable.byContradiction fun hn => h ⟨k, hk, ?_⟩
    simp only [List.getD_eq_getElem?_getD, List.getElem?_eq_getElem hk, Option.getD_some]
    omega
  · rintro h ⟨k, hk, hc⟩
    have := h _ (List.getElem_mem hk)
    simp only [List.getD_eq_getElem?_getD, List.getElem?_eq_getElem hk, Option.getD_some] at hc
    omega
theorem book_iff (s : Sp) : (¬∃ k, k < s.book.length ∧ ¬LnP (s.book.getD k default) s.weeks) ↔ BookP s := by
  constructor
  · intro h i hi
    refine Decidable.byContradiction fun hn => h ⟨i, hi, ?_⟩
    simpa [hi] using hn
  · rintro h ⟨k, hk, hc⟩
    exact hc (by simpa [hk] using h k hk)
theorem reads_iff (s : Sp) : ReadsP s ↔ ∀ i, i < s.reads.length → RdP (s.reads.getD i default) s.weeks ∧ lastN s i < (s.reads.getD i default).num := by
  have hg : ∀ i (hi : i < s.reads.length), s.reads.getD i default = s.reads[i] := fun i hi => by simp [hi]
  constructor
  · intro h i hi
    have h1 := h i hi
    rw [hg i hi]
    refine ⟨h1.1, ?_⟩
    cases i with
    | zero => have := h1.1; simp only [lastN]; omega
    | succ i => have := h1.2 (by omega); simpa [lastN] using this
  · intro h i hi
    have h1 := h i hi
    rw [hg i hi] at h1
    refine ⟨h1.1, fun h0 => ?_⟩
    cases i with
    | zero => omega
    | succ i => simpa [lastN] using h1.2
theorem ck_iff (s : Sp) : SpP s ↔ ∀ k, k < 5 → ckP s k := by
  constructor
  · rintro ⟨h1, h2, h3⟩ k hk
    unfold HeadP at h1
    match k, hk with
    | 0, _ => simp only [ckP]; omega
    | 1, _ => simp only [ckP]; omega
    | 2, _ => simp only [ckP]; omega
    | 3, _ => exact h2
    | 4, _ => exact h3
  · intro h
    have h0 := h 0 (by omega); have h1 := h 1 (by omega); have h2 := h 2 (by omega)
    simp only [ckP] at h0 h1 h2
    refine ⟨?_, h 3 (by omega), h 4 (by omega)⟩
    unfold HeadP
    omega
end Go.S

/- What readings leave, as the package spring reckons it: the plain words. Nothing of Go stands here. -/
namespace Go.S
open Go.X (G)
def bothP (a b c d : Int) : Int × Int := if min b d < max a c then (1, 0) else (max a c, min b d)
def readsP (s : Sp) (x : Rd) : Int × Int :=
  bothP ((3600 * x.bu + x.s1 * s.a1 - 1) / (x.s1 * s.a1)) (if 0 < x.s0 * s.a0 then min s.most ((3600 * x.bu) / (x.s0 * s.a0)) else s.most) 0 s.most
def set2 (M : List Int) (i : Nat) (p : Int × Int) : List Int := (M.set (i * 2) p.1).set (i * 2 + 1) p.2
abbrev Lo (M : List Int) (i : Nat) : Int := G M (i * 2)
abbrev Hi (M : List Int) (i : Nat) : Int := G M (i * 2 + 1)
@[simp] theorem length_set2 (M : List Int) (i : Nat) (p : Int × Int) : (set2 M i p).length = M.length := by simp [set2]
def fl0 (s : Sp) : Nat → List Int
  | 0 => List.replicate 20 0
  | k + 1 => set2 (fl0 s k) k (0, s.most)
def flTo (s : Sp) : Nat → List Int
  | 0 => fl0 s s.weeks.toNat
  | k + 1 => let x := s.reads.getD k default
    set2 (flTo s k) x.wk.toNat (bothP (Lo (flTo s k) x.wk.toNat) (Hi (flTo s k) x.wk.toNat) (readsP s x).1 (readsP s x).2)
def flL (s : Sp) : List Int := flTo s s.reads.length
@[simp] theorem fl0_len (s : Sp) : ∀ k, (fl0 s k).length = 20
  | 0 => by simp [fl0]
  | k + 1 => by simp [fl0, fl0_len s k]
@[simp] theorem flTo_len (s : Sp) : ∀ k, (flTo s k).length = 20
  | 0 => by simp [flTo]
  | k + 1 => by simp [flTo, flTo_len s k]
/-- Spans as the package spring keeps them: empty ones are (1, 0), the others lie from 0 to 100. -/
def Sb (M : List Int) : Prop := ∀ i, i < 10 → (Lo M i = 1 ∧ Hi M i = 0) ∨ (0 ≤ Lo M i ∧ Lo M i ≤ Hi M i ∧ Hi M i ≤ 100)
theorem set2_at {M : List Int} (hM : M.length = 20) {i j : Nat} (hi : i < 10) (_hj : j < 10) (p : Int × Int) : Lo (set2 M i p) j = (if i = j then p.1 else Lo M j) ∧ Hi (set2 M i p) j = (if i = j then p.2 else Hi M j) := by
  unfold set2 Lo Hi
  constructor
  · rw [G_set (by simp; omega), if_neg (by omega), G_set (by omega)]
    by_cases h : i = j
    · rw [if_pos (by omega), if_pos h]
    · rw [if_neg (by omega), if_neg h]
  · rw [G_set (by simp; omega)]
    by_cases h : i = j
    · rw [if_pos (by omega), if_pos h]
    · rw [if_neg (by omega), if_neg h, G_set (by omega), if_neg (by omega)]
theorem Sb.set {M : List Int} (hM : M.length = 20) (h : Sb M) {i : Nat} (hi : i < 10) {p : Int × Int} (hp : (p.1 = 1 ∧ p.2 = 0) ∨ (0 ≤ p.1 ∧ p.1 ≤ p.2 ∧ p.2 ≤ 100)) : Sb (set2 M i p) := by
  intro j hj
  obtain ⟨h1, h2⟩ := set2_at hM hi hj p
  rw [h1, h2]
  by_cases e : i = j
  · rw [if_pos e, if_pos e]; exact hp
  · rw [if_neg e, if_neg e]; exact h j hj
theorem bothP_sb {a b c d : Int} (h : (a = 1 ∧ b = 0) ∨ (0 ≤ a ∧ a ≤ b ∧ b ≤ 100)) : ((bothP a b c d).1 = 1 ∧ (bothP a b c d).2 = 0) ∨ (0 ≤ (bothP a b c d).1 ∧ (bothP a b c d).1 ≤ (bothP a b c d).2 ∧ (bothP a b c d).2 ≤ 100) := by
  unfold bothP
  split
  · exact .inl ⟨rfl, rfl⟩
  · refine .inr ?_
    simp only
    omega
theorem fl0_sb {s : Sp} (hm : Wi s.most 0 100) : ∀ k, k ≤ 10 → Sb (fl0 s k)
  | 0, _ => by
    intro i hi
    have h : ∀ i, i < 10 → G (List.replicate 20 (0 : Int)) (i * 2) = 0 ∧ G (List.replicate 20 (0 : Int)) (i * 2 + 1) = 0 := by decide
    have := h i hi
    simp only [fl0, Lo, Hi, this.1, this.2]
    omega
  | k + 1, hk => (fl0_sb hm k (by omega)).set (fl0_len s k) (by omega) (.inr (by simp only; omega))
theorem flTo_sb {s : Sp} (hv : SpP s) : ∀ k, k ≤ s.reads.length → Sb (flTo s k)
  | 0, _ => by
    have h := hv.1; unfold HeadP at h
    exact fl0_sb h.2.1 _ (by omega)
  | k + 1, hk => by
    have ih := flTo_sb hv k (by omega)
    have h1 := hv.1; unfold HeadP at h1
    have h2 := (hv.2.2 k (by omega)).1
    have e : s.reads.getD k default = s.reads[k] := by simp [show k < s.reads.length by omega]
    simp only [flTo, e]
    exact ih.set (flTo_len s k) (by omega) (bothP_sb (ih _ (by omega)))
end Go.S

/- Springs at work in memory. -/
namespace Go.S
open Go Go.X Go.RowKit
def spanV (p : Int × Int) : Value := .agg ⟨[.int .i64 p.1, .int .i64 p.2]⟩
def sp9 (s : Sp) (bo ro : Option Addr) (bc rc : Nat) : List Value := [.int .i64 s.weeks, .int .i64 s.most, .int .i64 s.fall, .int .i64 s.a0, .int .i64 s.a1, .int .i64 s.w0, .int .i64 s.w1, .slice bo s.book.length bc, .slice ro s.reads.length rc]
/-- A spring at work: 29 cells. -/
def watC (s : Sp) (bo ro : Option Addr) (bc rc : Nat) (M : List Int) : List Value := sp9 s bo ro bc rc ++ ints M
theorem takeApp {A B vs : List Value} {off o' k : Nat} (a : Nat) (ha : A.length = a) (h : takeAt B off k = some vs) (ho : o' = a + off) : takeAt (A ++ B) o' k = some vs := by
  subst ho ha
  induction k generalizing off vs with
  | zero => simpa [takeAt] using h
  | succ k ih =>
    simp only [takeAt] at h ⊢
    split at h
    · rename_i v r hv hr
      rw [List.getElem?_append_right (by omega), Nat.add_sub_cancel_left, hv, Nat.add_assoc, ih hr]
      exact h
    · cases h
theorem putApp {vs B B' : List Value} {off o' : Nat} : ∀ {A : List Value} (a : Nat), A.length = a → putAt B off vs = some B' → o' = a + off → putAt (A ++ B) o' vs = some (A ++ B')
  | [], a, ha, h, ho => by
    simp at ha; subst ha ho
    simpa using h
  | x :: A, a, ha, h, ho => by
    subst ha ho
    have ih := putApp (A := A) (o' := A.length + off) A.length rfl h rfl
    rw [show (x :: A).length + off = (A.length + off) + 1 by simp; omega]
    cases vs with
    | nil => simp [putAt, ih]
    | cons v vs => simp [putAt, ih]
theorem ints_put2' {M : List Int} {off i : Nat} {p : Int × Int} (h : off = i * 2) (hi : i * 2 + 1 < M.length) : putAt (ints M) off [.int .i64 p.1, .int .i64 p.2] = some (ints (set2 M i p)) := ints_put2 h hi
theorem ints_take2' {M : List Int} {off i : Nat} (h : off = i * 2) (hi : i * 2 + 1 < M.length) : takeAt (ints M) off 2 = some [.int .i64 (Lo M i), .int .i64 (Hi M i)] := ints_take2 h hi
theorem watC_one (s : Sp) (bo ro : Option Addr) (bc rc : Nat) (M : List Int) : (watC s bo ro bc rc M).all isOne = true := by
  simp [watC, sp9, isOne, ints]
theorem watC_len {s : Sp} {bo ro : Option Addr} {bc rc : Nat} {M : List Int} (h : M.length = 20) : (watC s bo ro bc rc M).length = 29 := by simp [watC, sp9, h]
end Go.S
namespace Go.S
open Go Go.X
theorem chk_take (k : Nat) (hk : k < 5) : takeAt chkCells ((k : Int).toNat * 1) 1 = some [chkFn k] := by
  match k, hk with
  | 0, _ => rfl
  | 1, _ => rfl
  | 2, _ => rfl
  | 3, _ => rfl
  | 4, _ => rfl
theorem mul2 {a b A B : Int} (h0 : 0 ≤ a) (h1 : a ≤ A) (h2 : 0 ≤ b) (h3 : b ≤ B) : 0 ≤ a * b ∧ a * b ≤ A * B :=
  ⟨Int.mul_nonneg h0 h2, Int.mul_le_mul h1 h3 h2 (by omega)⟩
end Go.S
namespace Go.S
open Go Go.X
theorem at_lo {M : List Int} {off i : Nat} (h : off = i * 2) (hi : i * 2 < M.length) : (ints M)[off]? = some (.int .i64 (Lo M i)) := intsAtX h hi
theorem at_hi {M : List Int} {off i : Nat} (h : off = i * 2 + 1) (hi : i * 2 + 1 < M.length) : (ints M)[off]? = some (.int .i64 (Hi M i)) := intsAtX h hi
end Go.S

/- The calculus' rules: a range over a function, walked in place: the function's own frame, and a round's frame within it. Nothing of the program stands here. -/
namespace Go.X
open Go Go.RowKit

/-- The loop's record. -/
abbrev LR (fn : FuncId) (T : Array Value) (ps : Array Tmp) (assign body : Code) (r : Nat) (st : LoopState) : Obj := .loop { state := st, pending := none, fn, tmps := T, params := ps, assign, body, defers := r }
/-- What the caller's frame held when the loop began. -/
def Held (n : Nat) (env : Env) (T : Array Value) : Prop := T.size = n ∧ ∀ t v, get env t = some v → T[t]? = some v
/-- What is asked when the function that is ranged over ends. -/
def rfQ (Q : Post) (env : Env) (D : List Deferred) (ob : LoopState → Obj) (r l : Nat) (own : Own) : Prop :=
  ∃ i, own[i]? = some (l, ob .ready) ∧ Q .normal ⟨env, own.set i (l, ob .exhausted), { target := .collected r, args := #[] } :: D⟩
/-- A scope of labels to which nothing jumps. -/
def scopeQ (Q : Post) : Post
  | .goto _, _ => False
  | e, s => Q e s
theorem scopeQ.normal {Q : Post} {s : St} (h : Q .normal s) : scopeQ Q .normal s := h
theorem scopeQ.ret {Q : Post} {s : St} (h : Q .ret s) : scopeQ Q .ret s := h
theorem scopeQ.exit {Q : Post} {s : St} {i : Nat} (h : Q (.exit i) s) : scopeQ Q (.exit i) s := h
theorem SX.scope {C : Cx} {Q : Post} {s : St} {c : Code} (h : SX C c (scopeQ Q) s) (hrd : C.rd = none := by rfl) : SX C (.scope c) Q s := by
  intro a w hc
  have h1 := h a w hc
  have e : FW C.rd = Fence.wide := by rw [hrd]; rfl
  rw [e] at h1 ⊢
  refine wpIn_wide.2 (wp_scope_straight (wp_mono (wpIn_wide.1 h1) ?_))
  rintro e a' w' ⟨s', hc', hq⟩
  cases e <;> first | exact hq.elim | exact ⟨s', hc', hq⟩
theorem SX.label {C : Cx} {Q : Post} {s : St} {l : Nat} (h : Q .normal s) : SX C (.label l) Q s := fun _ _ hc => wpIn_label ⟨s, hc, h⟩
section
variable {C : Cx} {Q : Post} {env : Env} {own : Own} {D : List Deferred} {ops : Array Oper} {rest : List Oper}
variable {d : Nat} {ty : TypeId} {pos : String} {aft : Array Edge} {gd : Option (Nat × Bool)} {y : Operand}
theorem SX.rangeFunc {g : Operand} {ps : Array Tmp} {assign body : Code} {f nf : Nat} {fnc : Func} {cf : Code} {first capt : List Value} {rs : List ResultVar}
    (hg : ev env g = some (.func (.func f) ⟨first⟩ ⟨capt⟩)) (hok : fnOk C.P f = true) (hf : C.P.funcs[f]? = some fnc) (hb : fnc.body = some cf) (hn : fnc.ntmps = nf) (hr : fnc.results.toList = rs) (hl : Nat.ble (first.length + 1 + capt.length) nf = true)
    (h : ∀ fn T r l (ob : LoopState → Obj), Held C.n env T → (∀ st, ob st = LR fn T ps assign body r st) → SX ⟨C.P, none, nf, C.w0, false⟩ cf (retQ ⟨C.P, none, nf, C.w0, false⟩ rs fun _ o => rfQ Q env D ob r l o)
      ⟨envOf (first ++ [.func (.yield l) ⟨[]⟩ ⟨[]⟩] ++ capt) 0, own ++ [(r, .deferred (some [])), (l, ob .ready)], []⟩) (hrd : C.rd = none := by rfl) : SX C (.rangeFunc g ps assign body) Q ⟨env, own, D⟩ := by
  intro a w hc
  refine wpIn_rangeFunc fun fn _ => ?_
  have hro : (FW C.rd).round = none := hrd
  rw [hro]
  obtain ⟨W1, hW1⟩ : ∃ W1, (w.alloc (.deferred (some []))).alloc (LR fn a.tmps ps assign body w.heap.size .ready) = W1 := ⟨_, rfl⟩
  have hI1 : Inv C.w0 (own ++ [(w.heap.size, .deferred (some [])), (w.heap.size + 1, LR fn a.tmps ps assign body w.heap.size .ready)]) W1 := by
    rw [← hW1]
    have h1 := hc.2.2.append (Inv.alloc1 w (.deferred (some [])))
    have h2 := h1.append (Inv.alloc1 (w.alloc (.deferred (some []))) (LR fn a.tmps ps assign body w.heap.size .ready))
    rw [List.append_assoc] at h2
    simpa using h2
  refine ⟨w.heap.size + 1, [{ target := .collected w.heap.size, args := #[] }], W1, { target := .fn (.func f) ⟨capt⟩, args := ⟨first⟩ ++ #[.func (.yield (w.heap.size + 1)) #[] #[]] }, W1, f, ⟨first ++ [.func (.yield (w.heap.size + 1)) ⟨[]⟩ ⟨[]⟩] ++ capt⟩, W1, ?_, ?_, fun _ _ => trivial, ?_, fun hx => (by cases hx), ?_⟩
  · rw [← hW1]; exact run_enterLoop_outer _ _ _ _ _
  · simp only [resolve, Deferred.ofValue, hc.1.eval hg]
    simp [Act.eval]
  · simp [invoke, run_callFunc hok]
  · refine callsIn_FW (Calls.mono (Calls.of_SX hI1 hf hb hn hr (by rw [Nat.ble_eq] at hl ⊢; simp only [List.length_append, List.length_singleton]; exact hl) (h fn a.tmps w.heap.size (w.heap.size + 1) (LR fn a.tmps ps assign body w.heap.size) hc.1 (fun _ => rfl))) ?_)
    rintro e w' ⟨v, own', rfl, hI', i, hi, hQ⟩
    have hb2 := (hI'.get hi rfl).2
    exact ⟨none, _, run_endLoop hb2 (by simp), ⟨env, own'.set i (w.heap.size + 1, LR fn a.tmps ps assign body w.heap.size .exhausted), { target := .collected w.heap.size, args := #[] } :: D⟩, ⟨hc.1, by simp [hc.2.1], hI'.putObj hi rfl⟩, hQ⟩

/-- What is asked at a round's end: it ends behind its last statement. -/
def roundQ (C : Cx) (ops : Array Oper) (rest : List Oper) (Q : Post) (env : Env) (D : List Deferred) (d : Nat) (ob : LoopState → Obj) (l i : Nat) : Post
  | .normal, s => s.own[i]? = some (l, ob .busy) ∧ SXL C ops rest Q ⟨(d, .bool (decide True)) :: env, s.own.set i (l, ob .ready), D⟩
  | _, _ => False
def assignQ (nx : St → Prop) (ob : LoopState → Obj) (l i : Nat) : Post
  | .normal, s => s.own[i]? = some (l, ob .ready) ∧ nx ⟨s.env, s.own.set i (l, ob .busy), s.D⟩
  | _, _ => False
/-- yield's arguments in the loop's parameters. -/
def zipE : List Nat → List Value → Env → Env
  | t :: ts, v :: vs, e => zipE ts vs ((t, v) :: e)
  | _, _, e => e
theorem agree_zip : ∀ {ts : List Nat} {vs : List Value} {n : Nat} {e : Env} {T : Array Value}, (ts.all fun t => Nat.blt t n) = true → Held n e T → Held n (zipE ts vs e) ((ts.zip vs).foldl (fun tmps (p : Nat × Value) => tmps.setIfInBounds p.1 p.2) T)
  | [], _, _, _, _, _, h => h
  | _ :: _, [], _, _, _, _, h => h
  | t :: ts, v :: vs, n, e, T, hb, h => by
    simp only [List.all_cons, Bool.and_eq_true] at hb
    simp only [zipE, List.zip_cons_cons, List.foldl_cons]
    refine agree_zip hb.2 ⟨by simp [h.1], fun t' u hu => ?_⟩
    have := (Agree.put (a := { tmps := T, defers := [] }) (n := n) (env := e) ⟨h.1, h.2⟩ hb.1 v).2 t' u hu
    simpa [Act.put] using this
/-- A call of yield: a round, in place. -/
theorem SXL.yield {xs : List Operand} {ats : Array TypeId} {vs : List Value} {l r m : Nat} {fn : FuncId} {T : Array Value} {ps : List Nat} {assign body : Code} {envT : Env}
    {ob : LoopState → Obj} (hT : Held m envT T) (hob : ∀ st, ob st = LR fn T ⟨ps⟩ assign body r st) (i : Nat) (hy : ev env y = some (.func (.yield l) ⟨[]⟩ ⟨[]⟩)) (hx : evl env xs = some vs) (hi : own[i]? = some (l, ob .ready)) (hlen : Nat.beq vs.length ps.length = true) (hps : (ps.all fun t => Nat.blt t m) = true)
    (h : SX ⟨C.P, some l, m, C.w0, false⟩ assign (assignQ (fun s => SX ⟨C.P, some l, m, C.w0, false⟩ body (roundQ C ops rest Q env D d ob l i) s) ob l i) ⟨zipE ps vs envT, own, []⟩)
    (hd : Nat.blt d C.n = true := by rfl) (hw : Wanted ops gd env = some true := by rfl) (hdr : C.dr = false := by rfl) :
    SXL C ops ({ dst := some d, op := .call { callee := .value y, args := ⟨xs⟩, argTypes := ats }, type := ty, pos, after := aft, guard := gd } :: rest) Q ⟨env, own, D⟩ := by
  refine SXL.ofn hdr ?_
  intro a w hc
  have hw' : Region.wanted ({ dst := some d, op := .call { callee := .value y, args := ⟨xs⟩, argTypes := ats }, type := ty, pos, after := aft, guard := gd } : Oper) (yielded ops a.tmps) = true := hc.1.wanted hw
  simp only [wpListIn, hw', if_true]
  refine ⟨about_true rfl, ?_⟩
  obtain rfl : ob = LR fn T ⟨ps⟩ assign body r := funext hob
  have hlr := (hc.2.2.get hi rfl).2
  have h1 := evl_map hc.1 hx
  have hyr := run_yield (P := C.P) (args := ⟨vs⟩) hlr (by simpa using Nat.eq_of_beq_eq_true hlen)
  have hrun : (execOp a.eval { dst := some d, op := .call { callee := .value y, args := ⟨xs⟩, argTypes := ats }, type := ty, pos, after := aft, guard := gd }).run C.P w = .ok (.round l fn ((ps.zip vs).foldl (fun tmps (p : Nat × Value) => tmps.setIfInBounds p.1 p.2) T) assign body) w := by
    simp only [execOp, resolve, Deferred.ofValue, hc.1.eval hy]
    simp only [List.map_toArray, h1, invoke]
    simp [hyr]
  rw [Oper.semAt_eq _ _ _ (fun _ e => by cases e), hrun]
  refine ⟨fun hx => (by cases hx), ?_⟩
  refine roundIn_of_wpIn trivial (wpIn_mono (h { tmps := _, defers := [] } w ⟨agree_zip hps hT, rfl, hc.2.2⟩) ?_)
  rintro e a1 w1 ⟨s1, hc1, hq1⟩
  cases e <;> first | exact hq1.elim | skip
  obtain ⟨hi1, hq1⟩ := hq1
  have hl1 := (hc1.2.2.get hi1 rfl).2
  refine ⟨_, run_beginRound hl1 rfl, wpIn_mono (hq1 a1 _ ⟨hc1.1, hc1.2.1, hc1.2.2.putObj hi1 rfl⟩) ?_⟩
  rintro e a2 w2 ⟨s2, hc2, hq2⟩
  cases e <;> first | exact hq2.elim | skip
  obtain ⟨hi2, hq2⟩ := hq2
  have hl2 := (hc2.2.2.get hi2 rfl).2
  refine ⟨_, _, run_endRound none hl2, ?_⟩
  exact hq2.ton hdr _ _ ⟨hc.1.put hd _, by rw [put_defers]; exact hc.2.1, hc2.2.2.putObj hi2 rfl⟩
end
theorem retQ.zeroN {C : Cx} {env : Env} {own : Own} {R : Value → Own → Prop} (hR : R (.tuple ⟨[]⟩) own) : retQ C [] R .normal ⟨env, own, []⟩ := ⟨own, .nil _, [], trivial, own, fun _ _ h => h, hR⟩
end Go.X

/- The closed facts on the program's types and functions that the walks use. Made by a program. -/
namespace Go.Proofs.YtknflipongbngaaDoor
open Go Go.X
theorem fp_23_0 : fieldP Tryd.prog 23 0 = some 0 := by kernel_rfl
theorem fp_23_1 : fieldP Tryd.prog 23 1 = some 1 := by kernel_rfl
theorem fp_27_0 : fieldP Tryd.prog 27 0 = some 0 := by kernel_rfl
theorem fp_27_1 : fieldP Tryd.prog 27 1 = some 1 := by kernel_rfl
theorem fp_27_2 : fieldP Tryd.prog 27 2 = some 2 := by kernel_rfl
theorem fp_27_3 : fieldP Tryd.prog 27 3 = some 3 := by kernel_rfl
theorem fp_27_4 : fieldP Tryd.prog 27 4 = some 5 := by kernel_rfl
theorem fp_27_5 : fieldP Tryd.prog 27 5 = some 7 := by kernel_rfl
theorem fp_27_6 : fieldP Tryd.prog 27 6 = some 8 := by kernel_rfl
theorem fp_54_0 : fieldP Tryd.prog 54 0 = some 0 := by kernel_rfl
theorem fp_54_1 : fieldP Tryd.prog 54 1 = some 1 := by kernel_rfl
theorem fp_54_2 : fieldP Tryd.prog 54 2 = some 2 := by kernel_rfl
theorem fp_54_3 : fieldP Tryd.prog 54 3 = some 3 := by kernel_rfl
theorem fp_61_0 : fieldP Tryd.prog 61 0 = some 0 := by kernel_rfl
theorem fp_61_1 : fieldP Tryd.prog 61 1 = some 2 := by kernel_rfl
theorem fp_61_2 : fieldP Tryd.prog 61 2 = some 3 := by kernel_rfl
theorem fp_117_0 : fieldP Tryd.prog 117 0 = some 0 := by kernel_rfl
theorem fp_117_1 : fieldP Tryd.prog 117 1 = some 9 := by kernel_rfl
theorem fp_130_0 : fieldP Tryd.prog 130 0 = some 0 := by kernel_rfl
theorem fp_151_0 : fieldP Tryd.prog 151 0 = some 0 := by kernel_rfl
theorem fp_151_1 : fieldP Tryd.prog 151 1 = some 1 := by kernel_rfl
theorem fp_156_0 : fieldP Tryd.prog 156 0 = some 0 := by kernel_rfl
theorem fp_156_1 : fieldP Tryd.prog 156 1 = some 10 := by kernel_rfl
theorem ae_131 : arrE Tryd.prog 131 = some (130, 5, 1) := by kernel_rfl
theorem eq_23 : eqP Tryd.prog 5 23 = some 2 := by kernel_rfl
theorem eg_23 : Tryd.prog.eqGuardType Tryd.prog.depth 23 = false := by kernel_rfl
theorem eq_54 : eqP Tryd.prog 5 54 = some 5 := by kernel_rfl
theorem eg_54 : Tryd.prog.eqGuardType Tryd.prog.depth 54 = false := by kernel_rfl
theorem eq_61 : eqP Tryd.prog 5 61 = some 5 := by kernel_rfl
theorem eg_61 : Tryd.prog.eqGuardType Tryd.prog.depth 61 = false := by kernel_rfl
theorem eq_114 : eqP Tryd.prog 5 114 = some 20 := by kernel_rfl
theorem eg_114 : Tryd.prog.eqGuardType Tryd.prog.depth 114 = false := by kernel_rfl
theorem sh_3 : shapeT Tryd.prog 3 = some none := by kernel_rfl
theorem sh_4 : shapeT Tryd.prog 4 = some none := by kernel_rfl
theorem sh_23 : shapeT Tryd.prog 23 = some (some 2) := by kernel_rfl
theorem sh_24 : shapeT Tryd.prog 24 = some none := by kernel_rfl
theorem sh_25 : shapeT Tryd.prog 25 = some none := by kernel_rfl
theorem sh_27 : shapeT Tryd.prog 27 = some (some 9) := by kernel_rfl
theorem sh_28 : shapeT Tryd.prog 28 = some none := by kernel_rfl
theorem sh_35 : shapeT Tryd.prog 35 = some none := by kernel_rfl
theorem sh_54 : shapeT Tryd.prog 54 = some (some 5) := by kernel_rfl
theorem sh_61 : shapeT Tryd.prog 61 = some (some 5) := by kernel_rfl
theorem sh_114 : shapeT Tryd.prog 114 = some (some 20) := by kernel_rfl
theorem sh_117 : shapeT Tryd.prog 117 = some (some 29) := by kernel_rfl
theorem sh_130 : shapeT Tryd.prog 130 = some (some 1) := by kernel_rfl
theorem sh_131 : shapeT Tryd.prog 131 = some (some 5) := by kernel_rfl
theorem sh_135 : shapeT Tryd.prog 135 = some none := by kernel_rfl
theorem sh_146 : shapeT Tryd.prog 146 = some none := by kernel_rfl
theorem sh_149 : shapeT Tryd.prog 149 = some none := by kernel_rfl
theorem sh_151 : shapeT Tryd.prog 151 = some (some 2) := by kernel_rfl
theorem sh_156 : shapeT Tryd.prog 156 = some (some 20) := by kernel_rfl
theorem sz_3 : sizeP Tryd.prog 3 = some 1 := by kernel_rfl
theorem sz_4 : sizeP Tryd.prog 4 = some 1 := by kernel_rfl
theorem sz_23 : sizeP Tryd.prog 23 = some 2 := by kernel_rfl
theorem sz_24 : sizeP Tryd.prog 24 = some 1 := by kernel_rfl
theorem sz_25 : sizeP Tryd.prog 25 = some 1 := by kernel_rfl
theorem sz_27 : sizeP Tryd.prog 27 = some 9 := by kernel_rfl
theorem sz_35 : sizeP Tryd.prog 35 = some 1 := by kernel_rfl
theorem sz_54 : sizeP Tryd.prog 54 = some 5 := by kernel_rfl
theorem sz_61 : sizeP Tryd.prog 61 = some 5 := by kernel_rfl
theorem sz_114 : sizeP Tryd.prog 114 = some 20 := by kernel_rfl
theorem sz_117 : sizeP Tryd.prog 117 = some 29 := by kernel_rfl
theorem sz_130 : sizeP Tryd.prog 130 = some 1 := by kernel_rfl
theorem sz_135 : sizeP Tryd.prog 135 = some 1 := by kernel_rfl
theorem sz_146 : sizeP Tryd.prog 146 = some 1 := by kernel_rfl
theorem sz_151 : sizeP Tryd.prog 151 = some 2 := by kernel_rfl
theorem sz_156 : sizeP Tryd.prog 156 = some 20 := by kernel_rfl
theorem zp_3 : zeroP Tryd.prog 3 = some [.int .i64 0] := by kernel_rfl
theorem zp_4 : zeroP Tryd.prog 4 = some [.bool false] := by kernel_rfl
theorem zp_23 : zeroP Tryd.prog 23 = some [.int .i64 0, .int .i64 0] := by kernel_rfl
theorem zp_27 : zeroP Tryd.prog 27 = some [.int .i64 0, .int .i64 0, .int .i64 0, .int .i64 0, .int .i64 0, .int .i64 0, .int .i64 0, .slice none 0 0, .slice none 0 0] := by kernel_rfl
theorem zp_35 : zeroP Tryd.prog 35 = some [.slice none 0 0] := by kernel_rfl
theorem zp_54 : zeroP Tryd.prog 54 = some [.int .i64 0, .int .i64 0, .int .i64 0, .int .i64 0, .int .i64 0] := by kernel_rfl
theorem zp_61 : zeroP Tryd.prog 61 = some [.int .i64 0, .int .i64 0, .int .i64 0, .int .i64 0, .int .i64 0] := by kernel_rfl
theorem zp_114 : zeroP Tryd.prog 114 = some [.int .i64 0, .int .i64 0, .int .i64 0, .int .i64 0, .int .i64 0, .int .i64 0, .int .i64 0, .int .i64 0, .int .i64 0, .int .i64 0, .int .i64 0, .int .i64 0, .int .i64 0, .int .i64 0, .int .i64 0, .int .i64 0, .int .i64 0, .int .i64 0, .int .i64 0, .int .i64 0] := by kernel_rfl
theorem zp_117 : zeroP Tryd.prog 117 = some [.int .i64 0, .int .i64 0, .int .i64 0, .int .i64 0, .int .i64 0, .int .i64 0, .int .i64 0, .slice none 0 0, .slice none 0 0, .int .i64 0, .int .i64 0, .int .i64 0, .int .i64 0, .int .i64 0, .int .i64 0, .int .i64 0, .int .i64 0, .int .i64 0, .int .i64 0, .int .i64 0, .int .i64 0, .int .i64 0, .int .i64 0, .int .i64 0, .int .i64 0, .int .i64 0, .int .i64 0, .int .i64 0, .int .i64 0] := by kernel_rfl
theorem zp_130 : zeroP Tryd.prog 130 = some [.nilFunc] := by kernel_rfl
theorem zp_135 : zeroP Tryd.prog 135 = some [.nilFunc] := by kernel_rfl
theorem zp_146 : zeroP Tryd.prog 146 = some [.slice none 0 0] := by kernel_rfl
theorem zp_151 : zeroP Tryd.prog 151 = some [.int .i64 0, .slice none 0 0] := by kernel_rfl
theorem zp_156 : zeroP Tryd.prog 156 = some [.int .i64 0, .int .i64 0, .int .i64 0, .int .i64 0, .int .i64 0, .int .i64 0, .int .i64 0, .int .i64 0, .int .i64 0, .int .i64 0, .int .i64 0, .int .i64 0, .int .i64 0, .int .i64 0, .int .i64 0, .int .i64 0, .int .i64 0, .int .i64 0, .int .i64 0, .int .i64 0] := by kernel_rfl
theorem el_24 : elemP Tryd.prog 24 = some (none, 5) := by kernel_rfl
theorem el_25 : elemP Tryd.prog 25 = some (none, 5) := by kernel_rfl
theorem el_35 : elemP Tryd.prog 35 = some (none, 1) := by kernel_rfl
theorem el_114 : elemP Tryd.prog 114 = some (some 10, 2) := by kernel_rfl
theorem el_146 : elemP Tryd.prog 146 = some (none, 2) := by kernel_rfl
theorem el_154 : elemP Tryd.prog 154 = some (some 10, 1) := by kernel_rfl
theorem el_179 : elemP Tryd.prog 179 = some (none, 2) := by kernel_rfl
theorem et_24 : elemT Tryd.prog 24 = some (61, 5) := by kernel_rfl
theorem et_25 : elemT Tryd.prog 25 = some (54, 5) := by kernel_rfl
theorem et_35 : elemT Tryd.prog 35 = some (3, 1) := by kernel_rfl
theorem et_125 : elemT Tryd.prog 125 = some (156, 20) := by kernel_rfl
theorem et_146 : elemT Tryd.prog 146 = some (151, 2) := by kernel_rfl
theorem ap_24 : apP Tryd.prog 24 = some (61, 5, 40) := by kernel_rfl
theorem ap_25 : apP Tryd.prog 25 = some (54, 5, 40) := by kernel_rfl
theorem ap_35 : apP Tryd.prog 35 = some (3, 1, 8) := by kernel_rfl
theorem ap_125 : apP Tryd.prog 125 = some (156, 20, 160) := by kernel_rfl
theorem ap_146 : apP Tryd.prog 146 = some (151, 2, 32) := by kernel_rfl
theorem is_24 : isSliceP Tryd.prog 24 = true := by kernel_rfl
theorem is_25 : isSliceP Tryd.prog 25 = true := by kernel_rfl
theorem is_35 : isSliceP Tryd.prog 35 = true := by kernel_rfl
theorem is_146 : isSliceP Tryd.prog 146 = true := by kernel_rfl
theorem is_179 : isSliceP Tryd.prog 179 = true := by kernel_rfl
theorem pl_23 : placesP Tryd.prog 23 = some [(0, 1), (1, 1)] := by kernel_rfl
theorem pl_27 : placesP Tryd.prog 27 = some [(0, 1), (1, 1), (2, 1), (3, 2), (5, 2), (7, 1), (8, 1)] := by kernel_rfl
theorem pl_54 : placesP Tryd.prog 54 = some [(0, 1), (1, 1), (2, 1), (3, 2)] := by kernel_rfl
theorem pl_61 : placesP Tryd.prog 61 = some [(0, 2), (2, 1), (3, 2)] := by kernel_rfl
theorem ae_114 : arrE Tryd.prog 114 = some (23, 10, 2) := by kernel_rfl
theorem pl_117 : placesP Tryd.prog 117 = some [(0, 9), (9, 20)] := by kernel_rfl
theorem pl_151 : placesP Tryd.prog 151 = some [(0, 1), (1, 1)] := by kernel_rfl
theorem fn_16 : fnOk Tryd.prog 16 = true := by kernel_rfl
theorem fn_17 : fnOk Tryd.prog 17 = true := by kernel_rfl
theorem fn_18 : fnOk Tryd.prog 18 = true := by kernel_rfl
theorem fn_20 : fnOk Tryd.prog 20 = true := by kernel_rfl
theorem fn_22 : fnOk Tryd.prog 22 = true := by kernel_rfl
theorem fn_24 : fnOk Tryd.prog 24 = true := by kernel_rfl
theorem fn_26 : fnOk Tryd.prog 26 = true := by kernel_rfl
theorem fn_28 : fnOk Tryd.prog 28 = true := by kernel_rfl
theorem fn_29 : fnOk Tryd.prog 29 = true := by kernel_rfl
theorem fn_30 : fnOk Tryd.prog 30 = true := by kernel_rfl
theorem fn_32 : fnOk Tryd.prog 32 = true := by kernel_rfl
theorem fn_34 : fnOk Tryd.prog 34 = true := by kernel_rfl
theorem fn_40 : fnOk Tryd.prog 40 = true := by kernel_rfl
theorem fn_42 : fnOk Tryd.prog 42 = true := by kernel_rfl
theorem fn_44 : fnOk Tryd.prog 44 = true := by kernel_rfl
theorem fn_46 : fnOk Tryd.prog 46 = true := by kernel_rfl
theorem fn_48 : fnOk Tryd.prog 48 = true := by kernel_rfl
theorem fn_50 : fnOk Tryd.prog 50 = true := by kernel_rfl
theorem fn_52 : fnOk Tryd.prog 52 = true := by kernel_rfl
theorem fn_54 : fnOk Tryd.prog 54 = true := by kernel_rfl
theorem fn_55 : fnOk Tryd.prog 55 = true := by kernel_rfl
theorem fn_57 : fnOk Tryd.prog 57 = true := by kernel_rfl
theorem fn_58 : fnOk Tryd.prog 58 = true := by kernel_rfl
theorem fn_60 : fnOk Tryd.prog 60 = true := by kernel_rfl
theorem fn_61 : fnOk Tryd.prog 61 = true := by kernel_rfl
theorem fn_62 : fnOk Tryd.prog 62 = true := by kernel_rfl
theorem fn_63 : fnOk Tryd.prog 63 = true := by kernel_rfl
theorem fn_67 : fnOk Tryd.prog 67 = true := by kernel_rfl
theorem fn_68 : fnOk Tryd.prog 68 = true := by kernel_rfl
theorem fn_69 : fnOk Tryd.prog 69 = true := by kernel_rfl
theorem fn_71 : fnOk Tryd.prog 71 = true := by kernel_rfl
theorem fn_72 : fnOk Tryd.prog 72 = true := by kernel_rfl
theorem fn_73 : fnOk Tryd.prog 73 = true := by kernel_rfl
theorem fn_74 : fnOk Tryd.prog 74 = true := by kernel_rfl
theorem fn_75 : fnOk Tryd.prog 75 = true := by kernel_rfl
theorem fn_76 : fnOk Tryd.prog 76 = true := by kernel_rfl
theorem fn_78 : fnOk Tryd.prog 78 = true := by kernel_rfl
theorem fn_80 : fnOk Tryd.prog 80 = true := by kernel_rfl
theorem fn_81 : fnOk Tryd.prog 81 = true := by kernel_rfl
theorem fn_82 : fnOk Tryd.prog 82 = true := by kernel_rfl
theorem fn_83 : fnOk Tryd.prog 83 = true := by kernel_rfl
theorem fn_84 : fnOk Tryd.prog 84 = true := by kernel_rfl
theorem fn_86 : fnOk Tryd.prog 86 = true := by kernel_rfl
theorem fn_87 : fnOk Tryd.prog 87 = true := by kernel_rfl
theorem fn_91 : fnOk Tryd.prog 91 = true := by kernel_rfl
theorem fn_93 : fnOk Tryd.prog 93 = true := by kernel_rfl
theorem fn_94 : fnOk Tryd.prog 94 = true := by kernel_rfl
theorem fn_95 : fnOk Tryd.prog 95 = true := by kernel_rfl
theorem fn_96 : fnOk Tryd.prog 96 = true := by kernel_rfl
theorem fn_97 : fnOk Tryd.prog 97 = true := by kernel_rfl
theorem fn_98 : fnOk Tryd.prog 98 = true := by kernel_rfl
theorem fn_99 : fnOk Tryd.prog 99 = true := by kernel_rfl
theorem fn_100 : fnOk Tryd.prog 100 = true := by kernel_rfl
theorem fn_101 : fnOk Tryd.prog 101 = true := by kernel_rfl
theorem fn_102 : fnOk Tryd.prog 102 = true := by kernel_rfl
theorem fn_103 : fnOk Tryd.prog 103 = true := by kernel_rfl
theorem fn_104 : fnOk Tryd.prog 104 = true := by kernel_rfl
theorem fn_105 : fnOk Tryd.prog 105 = true := by kernel_rfl
theorem fn_106 : fnOk Tryd.prog 106 = true := by kernel_rfl
theorem fn_107 : fnOk Tryd.prog 107 = true := by kernel_rfl
theorem fn_108 : fnOk Tryd.prog 108 = true := by kernel_rfl
theorem fn_111 : fnOk Tryd.prog 111 = true := by kernel_rfl
theorem fn_112 : fnOk Tryd.prog 112 = true := by kernel_rfl
theorem fn_113 : fnOk Tryd.prog 113 = true := by kernel_rfl
theorem fn_115 : fnOk Tryd.prog 115 = true := by kernel_rfl
theorem fn_116 : fnOk Tryd.prog 116 = true := by kernel_rfl
theorem fn_117 : fnOk Tryd.prog 117 = true := by kernel_rfl
theorem fn_118 : fnOk Tryd.prog 118 = true := by kernel_rfl
theorem fn_119 : fnOk Tryd.prog 119 = true := by kernel_rfl
theorem fn_120 : fnOk Tryd.prog 120 = true := by kernel_rfl
theorem fn_121 : fnOk Tryd.prog 121 = true := by kernel_rfl
theorem fn_122 : fnOk Tryd.prog 122 = true := by kernel_rfl
theorem fn_123 : fnOk Tryd.prog 123 = true := by kernel_rfl
theorem fn_126 : fnOk Tryd.prog 126 = true := by kernel_rfl
theorem fn_127 : fnOk Tryd.prog 127 = true := by kernel_rfl
theorem fn_128 : fnOk Tryd.prog 128 = true := by kernel_rfl
theorem fn_129 : fnOk Tryd.prog 129 = true := by kernel_rfl
theorem fn_130 : fnOk Tryd.prog 130 = true := by kernel_rfl
theorem fn_131 : fnOk Tryd.prog 131 = true := by kernel_rfl
theorem fn_133 : fnOk Tryd.prog 133 = true := by kernel_rfl
theorem fn_134 : fnOk Tryd.prog 134 = true := by kernel_rfl
theorem fn_153 : fnOk Tryd.prog 153 = true := by kernel_rfl
theorem fn_154 : fnOk Tryd.prog 154 = true := by kernel_rfl
theorem fn_155 : fnOk Tryd.prog 155 = true := by kernel_rfl
theorem fn_156 : fnOk Tryd.prog 156 = true := by kernel_rfl
theorem fn_157 : fnOk Tryd.prog 157 = true := by kernel_rfl
theorem fn_158 : fnOk Tryd.prog 158 = true := by kernel_rfl
theorem fn_159 : fnOk Tryd.prog 159 = true := by kernel_rfl
theorem fn_160 : fnOk Tryd.prog 160 = true := by kernel_rfl
end Go.Proofs.YtknflipongbngaaDoor

/- What the rows' lists and arguments give: the package's variables, springs, numbers. -/
namespace Go.Proofs.YtknflipongbngaaDoor
open Go Go.X Go.S Go.RowKit Go.ChangeShapes Go.WideShapes Go.ChangeAt
theorem ownGd : ownKnob Tryd.prog.godebug = none := by kernel_rfl
theorem laidOut : laidOutB Tryd.prog = true := by kernel_rfl
theorem gChecks : Tryd.prog.globalNamed "aguador/spring.checks" = some 0 := by kernel_rfl
theorem tChecks : (Tryd.prog.globals[0]?).map (·.type) = some 131 := by kernel_rfl
theorem gNone : Tryd.prog.globalNamed "aguador/spring.none" = some 1 := by kernel_rfl
theorem tNone : (Tryd.prog.globals[1]?).map (·.type) = some 23 := by kernel_rfl
theorem cells130 : Tryd.prog.cellsOf 130 = 1 := by kernel_rfl
theorem cells131 : Tryd.prog.cellsOf 131 = 5 := by kernel_rfl
theorem cells28 : Tryd.prog.cellsOf 28 = 1 := by kernel_rfl
theorem cells3 : Tryd.prog.cellsOf 3 = 1 := by kernel_rfl
theorem cells23 : Tryd.prog.cellsOf 23 = 2 := by kernel_rfl
theorem int_val {H : Type} {enc : TypeId × Value → H} {P : Program} {w : World} {base : Nat} {sp : Nat → Bool} {held : Bool} {fuel : Nat} {t : TypeId} {cs : List Value} {k : IntKind} {n : Int} {p : List MemPlace}
    (hu : P.underlying t = some (.int k)) (h : DataW.trod enc P w base sp held fuel t cs = some (.lit (.int k n), p)) : cs = [.int k n] := by
  cases fuel with
  | zero => simp [DataW.trod] at h
  | succ m =>
    unfold DataW.trod at h
    rw [hu] at h
    split at h <;> simp_all
/-- The span 'none'. -/
theorem none_of_laid {l : List (String × DataW Unit)} {W : World} (h : laidMetH Tryd.prog l W) (hl : (l.filter fun x => x.2.handleName?.isNone) = [("aguador/spring.none", Rows.laid_aguador_spring_none)]) :
    ∀ j v, noneCells[j]? = some v → W.cell? ⟨1, 0 + j, none⟩ = some v := by
  have h1 := (laidMetH_iff.1 h).1
  rw [hl] at h1
  obtain ⟨ps, ⟨g, t, cs, fuel, p, q, hg, ht, hv, hd, _, _⟩, _⟩ := h1
  obtain rfl := Option.some.inj (gNone.symm.trans hg)
  obtain rfl := Option.some.inj (tNone.symm.trans ht)
  obtain ⟨y0, y1, n, hx, hlen, e0, e1⟩ := trod_struct2 Tryd.underlying23 hd
  obtain ⟨d0, p0⟩ := y0
  obtain ⟨d1, p1⟩ := y1
  simp only [Rows.laid_aguador_spring_none, Prod.mk.injEq, DataW.agg.injEq, List.cons.injEq, and_true] at hx
  obtain ⟨⟨rfl, rfl⟩, _⟩ := hx
  have c0 := int_val Tryd.underlying3 e0
  have c1 := int_val Tryd.underlying3 e1
  rw [cells3] at c0 c1
  rw [cells23] at hlen
  intro j v hj
  have hc := World.var?_cell hg hv j
  rw [Nat.zero_add]
  rw [hc]
  match j, hj with
  | 0, hj =>
    simp [noneCells] at hj
    subst hj
    have := congrArg (·[0]?) c0
    simpa using this
  | 1, hj =>
    simp [noneCells] at hj
    subst hj
    have := congrArg (·[0]?) c1
    simpa using this
  | j + 2, hj => simp [noneCells] at hj
/-- The table of checks. -/
theorem checks_of_laid {l : List (String × DataW Unit)} {W : World} (h : laidMetH Tryd.prog l W) (hl : ("aguador/spring.checks", Rows.laid_aguador_spring_checks) ∈ l) :
    ∀ j v, chkCells[j]? = some v → W.cell? ⟨0, 0 + j, none⟩ = some v := by
  obtain ⟨g, t, cs, fuel, p, hg, ht, hv, hd⟩ := h.funcs hl
  obtain rfl := Option.some.inj (gChecks.symm.trans hg)
  obtain rfl := Option.some.inj (tChecks.symm.trans ht)
  obtain ⟨xs, m, _, hx, hlen, hxl, hel⟩ := DataW.trod_array Tryd.underlying131 hd
  rw [cells130] at hel
  rw [cells131] at hlen
  have hds : xs.map (·.1) = (List.range 5).map fun k => DataW.agg [DataW.held ([97, 103, 117, 97, 100, 111, 114, 47, 115, 112, 114, 105, 110, 103, 46, 99, 104, 101, 99, 107, 115, 36] ++ [(49 + k : Nat).toUInt8])] := by
    have := congrArg (·.1) hx
    exact DataW.agg.inj (show DataW.agg (xs.map (·.1)) = DataW.agg _ from this.symm)
  intro j v hj
  have hc := World.var?_cell hg hv j
  rw [Nat.zero_add, hc]
  have hj5 : j < 5 := (List.getElem?_eq_some_iff.1 hj).1
  have he := hel j hj5
  rw [List.getElem?_eq_getElem (by omega)] at he
  have hd1 : (xs[j]'(by omega)).1 = DataW.agg [DataW.held ([97, 103, 117, 97, 100, 111, 114, 47, 115, 112, 114, 105, 110, 103, 46, 99, 104, 101, 99, 107, 115, 36] ++ [(49 + j : Nat).toUInt8])] := by
    have := congrArg (·[j]?) hds
    simp only [List.getElem?_map, List.getElem?_eq_getElem (show j < xs.length by omega), List.getElem?_range hj5, Option.map_some, Option.some.injEq] at this
    exact this
  obtain ⟨y0, n, hy, hyl, hf⟩ := trod_struct1 Tryd.underlying130 he
  rw [hy] at hd1
  obtain ⟨d0, p0⟩ := y0
  simp only [DataW.agg.injEq, List.cons.injEq, and_true] at hd1
  subst hd1
  rw [cells130] at hyl
  rw [cells28] at hf
  have hcell : ∃ u, cs.toList[j]? = some u := ⟨cs.toList[j]'(by omega), List.getElem?_eq_getElem (by omega)⟩
  obtain ⟨u, hu⟩ := hcell
  have ecs : ((((cs.toList.drop (j * 1)).take 1).drop 0).take 1) = [u] := by
    rw [Nat.mul_one, List.drop_zero]
    obtain ⟨h1, h2⟩ := List.getElem?_eq_some_iff.1 hu
    rw [List.drop_eq_getElem_cons h1, h2]
    rfl
  rw [ecs] at hf
  have key : ∀ (j : Nat) (u : Value) (q : List MemPlace), j < 5 → DataW.trod (funcToken Tryd.prog) Tryd.prog W 0 (fun _ => true) true n 28 [u] = some (.held ([97, 103, 117, 97, 100, 111, 114, 47, 115, 112, 114, 105, 110, 103, 46, 99, 104, 101, 99, 107, 115, 36] ++ [(49 + j : Nat).toUInt8]), q) → chkCells[j]? = some u := by
    intro j u q hj h
    match j, hj with
    | 0, _ => obtain rfl := func_of_trod (f0 := 153) Tryd.underlying28 (by kernel_rfl) h; rfl
    | 1, _ => obtain rfl := func_of_trod (f0 := 154) Tryd.underlying28 (by kernel_rfl) h; rfl
    | 2, _ => obtain rfl := func_of_trod (f0 := 155) Tryd.underlying28 (by kernel_rfl) h; rfl
    | 3, _ => obtain rfl := func_of_trod (f0 := 156) Tryd.underlying28 (by kernel_rfl) h; rfl
    | 4, _ => obtain rfl := func_of_trod (f0 := 159) Tryd.underlying28 (by kernel_rfl) h; rfl
  have hk := key j u _ hj5 hf
  rw [hj] at hk
  obtain rfl := Option.some.inj hk
  simpa using hu
def i5 : List Ly := [.i .i64, .i .i64, .i .i64, .i .i64, .i .i64]
def spLay : List Ly := [.i .i64, .i .i64, .i .i64, .i .i64, .i .i64, .i .i64, .i .i64, .s i5, .s i5]
theorem lay27 : layP Tryd.prog 9 27 = some spLay := by kernel_rfl
theorem _root_.Go.X.FitL.un {one : Ly → Value → Prop} {y : Ly} {ys : List Ly} {vs : List Value} (h : FitL one (y :: ys) vs) : ∃ v r, vs = v :: r ∧ one y v ∧ FitL one ys r := by
  cases vs with
  | nil => exact h.elim
  | cons v r => exact ⟨v, r, rfl, h.1, h.2⟩
theorem _root_.Go.X.FitL.end_ {one : Ly → Value → Prop} {vs : List Value} (h : FitL one [] vs) : vs = [] := by
  cases vs with
  | nil => rfl
  | cons v r => exact h.elim
theorem fits5 {w : World} {n : Nat} {cs : List Value} (h : Fits w (n + 1) i5 cs) : ∃ a b c d e : Int, cs = [.int .i64 a, .int .i64 b, .int .i64 c, .int .i64 d, .int .i64 e] := by
  obtain ⟨_, r, rfl, h1, h⟩ := FitL.un h
  obtain ⟨_, r, rfl, h2, h⟩ := FitL.un h
  obtain ⟨_, r, rfl, h3, h⟩ := FitL.un h
  obtain ⟨_, r, rfl, h4, h⟩ := FitL.un h
  obtain ⟨_, r, rfl, h5, h⟩ := FitL.un h
  obtain rfl := FitL.end_ h
  obtain ⟨a, rfl, _⟩ := fit_i64 h1
  obtain ⟨b, rfl, _⟩ := fit_i64 h2
  obtain ⟨c, rfl, _⟩ := fit_i64 h3
  obtain ⟨d, rfl, _⟩ := fit_i64 h4
  obtain ⟨e, rfl, _⟩ := fit_i64 h5
  exact ⟨a, b, c, d, e, rfl⟩
/-- A slice of lines, of readings. -/
theorem rowsLn {w : World} {n : Nat} {rows : List (List Value)} (h : ∀ r ∈ rows, Fits w (n + 1) i5 r) : ∃ l : List Ln, rows = l.map Ln.cells :=
  exists_map fun r hr => by obtain ⟨a, b, c, d, e, rfl⟩ := fits5 (h r hr); exact ⟨⟨a, b, c, d, e⟩, rfl⟩
theorem rowsRd {w : World} {n : Nat} {rows : List (List Value)} (h : ∀ r ∈ rows, Fits w (n + 1) i5 r) : ∃ l : List Rd, rows = l.map Rd.cells :=
  exists_map fun r hr => by obtain ⟨a, b, c, d, e, rfl⟩ := fits5 (h r hr); exact ⟨⟨a, b, c, d, e⟩, rfl⟩
/-- A spring that came in. -/
theorem sp_of_fits {w : World} {cs : List Value} (h : Fits w 10 spLay cs) : ∃ s bo ro bc rc, cs = sp9 s bo ro bc rc ∧ SpAt w s bo ro := by
  obtain ⟨_, r, rfl, h1, h⟩ := FitL.un h
  obtain ⟨_, r, rfl, h2, h⟩ := FitL.un h
  obtain ⟨_, r, rfl, h3, h⟩ := FitL.un h
  obtain ⟨_, r, rfl, h4, h⟩ := FitL.un h
  obtain ⟨_, r, rfl, h5, h⟩ := FitL.un h
  obtain ⟨_, r, rfl, h6, h⟩ := FitL.un h
  obtain ⟨_, r, rfl, h7, h⟩ := FitL.un h
  obtain ⟨_, r, rfl, h8, h⟩ := FitL.un h
  obtain ⟨_, r, rfl, h9, h⟩ := FitL.un h
  obtain rfl := FitL.end_ h
  obtain ⟨a1, rfl, _⟩ := fit_i64 h1
  obtain ⟨a2, rfl, _⟩ := fit_i64 h2
  obtain ⟨a3, rfl, _⟩ := fit_i64 h3
  obtain ⟨a4, rfl, _⟩ := fit_i64 h4
  obtain ⟨a5, rfl, _⟩ := fit_i64 h5
  obtain ⟨a6, rfl, _⟩ := fit_i64 h6
  obtain ⟨a7, rfl, _⟩ := fit_i64 h7
  obtain ⟨bo, n1, c1, rows1, rfl, _, _, e1, m1, f1⟩ := h8
  obtain ⟨ro, n2, c2, rows2, rfl, _, _, e2, m2, f2⟩ := h9
  obtain ⟨l1, rfl⟩ := rowsLn f1
  obtain ⟨l2, rfl⟩ := rowsRd f2
  rw [List.length_map] at e1 e2
  subst e1 e2
  exact ⟨⟨a1, a2, a3, a4, a5, a6, a7, l1, l2⟩, bo, ro, c1, c2, rfl, m1, m2⟩
end Go.Proofs.YtknflipongbngaaDoor

/- The places of small integers. -/
namespace Go.Proofs.YtknflipongbngaaDoor
open Go Go.X Go.RowKit
theorem lay5 : layP Tryd.prog 9 5 = some [.i .u8] := by kernel_rfl
end Go.Proofs.YtknflipongbngaaDoor

/- The walks of functions. -/
namespace Go.Proofs.YtknflipongbngaaDoor
open Go.X Go.S
theorem within_any (n lo hi : Int) (w : World) :
    CallsR Tryd.prog 104 [.int .i64 n, .int .i64 lo, .int .i64 hi] w (fun v _ => v = .bool (decide (Wi n lo hi))) := by
  refine CallsR.of_SX (n := 15) (rs := [.tmp 6]) Tryd.func104 rfl rfl rfl rfl ?_
  show SX _ _ _ ⟨[(0, .int .i64 n), (1, .int .i64 lo), (2, .int .i64 hi)], [], []⟩
  refine SX.seq ?_
  refine SX.region ?_
  refine SXL.assign rfl ?_
  refine SXL.nil ?_
  refine thenQ.normal ?_
  refine SX.seq ?_
  refine SX.region ?_
  refine SXL.move rfl ?_
  refine SXL.move rfl ?_
  refine SXL.geq rfl rfl ?_
  refine SXL.move rfl ?_
  apply SXL.andG 3
  case hl => exact rfl
  case hd => exact rfl
  case hg => exact rfl
  case ht =>
    intro g1
    refine SXL.move rfl ?_
    refine SXL.move rfl ?_
    refine SXL.leq rfl rfl ?_
    exact SXL.nil (segQ.mk (.skip rfl (.skip rfl (.skip rfl (.skip rfl (EnvSub.refl _))))) rfl rfl ⟨rfl, rfl⟩)
  case hf =>
    intro g1
    refine SXL.pass rfl rfl rfl ?_
    refine SXL.pass rfl rfl rfl ?_
    refine SXL.pass rfl rfl rfl ?_
    exact SXL.nil (segQ.mk (.skip rfl (.skip rfl (.skip rfl (.skip rfl (EnvSub.refl _))))) rfl rfl rfl)
  refine SXL.assign rfl ?_
  refine SXL.nil ?_
  refine thenQ.normal ?_
  refine SX.ret ?_
  refine retQ.one (ResAt.tmp rfl) ?_
  first | rfl | assumption
theorem spanned_any (a b lo hi : Int) (w : World) :
    CallsR Tryd.prog 115 [.agg ⟨[.int .i64 a, .int .i64 b]⟩, .int .i64 lo, .int .i64 hi] w (fun v _ => v = .bool (decide (Spn a b lo hi))) := by
  refine CallsR.of_SX (n := 20) (rs := [.tmp 6]) Tryd.func115 rfl rfl rfl rfl ?_
  show SX _ _ _ ⟨[(0, .agg ⟨[.int .i64 a, .int .i64 b]⟩), (1, .int .i64 lo), (2, .int .i64 hi)], [], []⟩
  refine SX.seq ?_
  refine SX.region ?_
  refine SXL.box rfl rfl ?_; intro b0
  refine SXL.assign rfl ?_
  refine SXL.nil ?_
  refine thenQ.normal ?_
  refine SX.seq ?_
  refine SX.region ?_
  refine SXL.fieldAddr fp_23_1 rfl ?_
  refine SXL.load1o 0 sh_3 rfl rfl rfl ?_
  refine SXL.move rfl ?_
  refine SXL.move rfl ?_
  refine SXL.call1 (.bool (decide (Wi b lo hi))) fn_104 rfl (fun w hI => within_any _ _ _ _) ?_
  refine SXL.move rfl ?_
  apply SXL.andG 6
  case hl => exact rfl
  case hd => exact rfl
  case hg => exact rfl
  case ht =>
    intro g1
    refine SXL.fieldAddr fp_23_0 rfl ?_
    refine SXL.load1o 0 sh_3 rfl rfl rfl ?_
    refine SXL.move rfl ?_
    refine SXL.fieldAddr fp_23_1 rfl ?_
    refine SXL.load1o 0 sh_3 rfl rfl rfl ?_
    refine SXL.call1 (.bool (decide (Wi a lo b))) fn_104 rfl (fun w hI => within_any _ _ _ _) ?_
    exact SXL.nil (segQ.mk (.skip rfl (.skip rfl (.skip rfl (.skip rfl (.skip rfl (.skip rfl (.skip rfl (EnvSub.refl _)))))))) rfl rfl ⟨rfl, rfl⟩)
  case hf =>
    intro g1
    refine SXL.pass rfl rfl rfl ?_
    refine SXL.pass rfl rfl rfl ?_
    refine SXL.pass rfl rfl rfl ?_
    refine SXL.pass rfl rfl rfl ?_
    refine SXL.pass rfl rfl rfl ?_
    refine SXL.pass rfl rfl rfl ?_
    exact SXL.nil (segQ.mk (.skip rfl (.skip rfl (.skip rfl (.skip rfl (.skip rfl (.skip rfl (.skip rfl (EnvSub.refl _)))))))) rfl rfl rfl)
  refine SXL.assign rfl ?_
  refine SXL.nil ?_
  refine thenQ.normal ?_
  refine SX.ret ?_
  refine retQ.one (ResAt.tmp rfl) ?_
  first | rfl | assumption
theorem reading_any (x : Rd) (weeks : Int) (hw : -9223372036854775807 ≤ weeks) (hw2 : weeks ≤ 9223372036854775807) (w : World) :
    CallsR Tryd.prog 71 [.agg ⟨x.cells⟩, .int .i64 weeks] w (fun v _ => v = .bool (decide (RdP x weeks))) := by
  refine CallsR.of_SX (n := 31) (rs := [.tmp 4]) Tryd.func71 rfl rfl rfl rfl ?_
  show SX _ _ _ ⟨[(0, .agg ⟨x.cells⟩), (1, .int .i64 weeks)], [], []⟩
  refine SX.seq ?_
  refine SX.region ?_
  refine SXL.box rfl rfl ?_; intro b0
  refine SXL.assign rfl ?_
  refine SXL.nil ?_
  refine thenQ.normal ?_
  refine SX.seq ?_
  refine SX.region ?_
  refine SXL.fieldAddr fp_54_0 rfl ?_
  refine SXL.load1o 0 sh_3 rfl rfl rfl ?_
  refine SXL.call1 (.bool (decide (Wi x.num 1 9999))) fn_104 rfl (fun w hI => within_any _ _ _ _) ?_
  refine SXL.move rfl ?_
  apply SXL.andG 5
  case hl => exact rfl
  case hd => exact rfl
  case hg => exact rfl
  case ht =>
    intro g1
    refine SXL.fieldAddr fp_54_1 rfl ?_
    refine SXL.load1o 0 sh_3 rfl rfl rfl ?_
    refine SXL.move rfl ?_
    refine SXL.sub rfl rfl (by omega) ?_
    refine SXL.call1 (.bool (decide (Wi x.wk 0 (weeks - 1)))) fn_104 rfl (fun w hI => within_any _ _ _ _) ?_
    exact SXL.nil (segQ.mk (.skip rfl (.skip rfl (.skip rfl (.skip rfl (.skip rfl (.skip rfl (EnvSub.refl _))))))) rfl rfl ⟨rfl, rfl⟩)
  case hf =>
    intro g1
    refine SXL.pass rfl rfl rfl ?_
    refine SXL.pass rfl rfl rfl ?_
    refine SXL.pass rfl rfl rfl ?_
    refine SXL.pass rfl rfl rfl ?_
    refine SXL.pass rfl rfl rfl ?_
    exact SXL.nil (segQ.mk (.skip rfl (.skip rfl (.skip rfl (.skip rfl (.skip rfl (.skip rfl (EnvSub.refl _))))))) rfl rfl rfl)
  refine SXL.move rfl ?_
  apply SXL.andG 3
  case hl => exact rfl
  case hd => exact rfl
  case hg => exact rfl
  case ht =>
    intro g2
    refine SXL.fieldAddr fp_54_2 rfl ?_
    refine SXL.load1o 0 sh_3 rfl rfl rfl ?_
    refine SXL.call1 (.bool (decide (Wi x.bu 1 40))) fn_104 rfl (fun w hI => within_any _ _ _ _) ?_
    exact SXL.nil (segQ.mk (.skip rfl (.skip rfl (.skip rfl (.skip rfl (EnvSub.refl _))))) rfl rfl ⟨rfl, rfl⟩)
  case hf =>
    intro g2
    refine SXL.pass rfl rfl rfl ?_
    refine SXL.pass rfl rfl rfl ?_
    refine SXL.pass rfl rfl rfl ?_
    exact SXL.nil (segQ.mk (.skip rfl (.skip rfl (.skip rfl (.skip rfl (EnvSub.refl _))))) rfl rfl rfl)
  refine SXL.move rfl ?_
  apply SXL.andG 3
  case hl => exact rfl
  case hd => exact rfl
  case hg => exact rfl
  case ht =>
    intro g3
    refine SXL.fieldAddr fp_54_3 rfl ?_
    refine SXL.loadNo 0 sh_23 rfl rfl rfl ?_
    refine SXL.call1 (.bool (decide (Spn x.s0 x.s1 0 99))) fn_115 rfl (fun w hI => spanned_any _ _ _ _ _) ?_
    exact SXL.nil (segQ.mk (.skip rfl (.skip rfl (.skip rfl (.skip rfl (EnvSub.refl _))))) rfl rfl ⟨rfl, rfl⟩)
  case hf =>
    intro g3
    refine SXL.pass rfl rfl rfl ?_
    refine SXL.pass rfl rfl rfl ?_
    refine SXL.pass rfl rfl rfl ?_
    exact SXL.nil (segQ.mk (.skip rfl (.skip rfl (.skip rfl (.skip rfl (EnvSub.refl _))))) rfl rfl rfl)
  refine SXL.move rfl ?_
  apply SXL.andG 4
  case hl => exact rfl
  case hd => exact rfl
  case hg => exact rfl
  case ht =>
    intro g4
    refine SXL.fieldAddr fp_54_3 rfl ?_
    refine SXL.fieldAddr fp_23_1 rfl ?_
    refine SXL.load1o 0 sh_3 rfl rfl rfl ?_
    refine SXL.gtr rfl rfl ?_
    exact SXL.nil (segQ.mk (.skip rfl (.skip rfl (.skip rfl (.skip rfl (.skip rfl (EnvSub.refl _)))))) rfl rfl ⟨rfl, rfl⟩)
  case hf =>
    intro g4
    refine SXL.pass rfl rfl rfl ?_
    refine SXL.pass rfl rfl rfl ?_
    refine SXL.pass rfl rfl rfl ?_
    refine SXL.pass rfl rfl rfl ?_
    exact SXL.nil (segQ.mk (.skip rfl (.skip rfl (.skip rfl (.skip rfl (.skip rfl (EnvSub.refl _)))))) rfl rfl rfl)
  refine SXL.assign rfl ?_
  refine SXL.nil ?_
  refine thenQ.normal ?_
  refine SX.ret ?_
  refine retQ.one (ResAt.tmp rfl) ?_
  first | rfl | assumption
theorem right_any (s : Sp) (bo ro : Option Addr) (bc rc : Nat) (x : Rd) (n : Int) (h1 : Spn s.a0 s.a1 1 600) (h2 : Spn x.s0 x.s1 0 99) (h3 : Wi x.bu 1 40) (h4 : Wi n 0 100) (w : World) :
    CallsR Tryd.prog 82 [.agg ⟨[.int .i64 s.weeks, .int .i64 s.most, .int .i64 s.fall, .int .i64 s.a0, .int .i64 s.a1, .int .i64 s.w0, .int .i64 s.w1, (.slice bo s.book.length bc), (.slice ro s.reads.length rc)]⟩, .agg ⟨x.cells⟩, .int .i64 n] w (fun v _ => v = .bool (decide (Right s x n))) := by
  have m1 := mul3 (a := x.s0) (b := s.a0) (c := n) (A := 99) (B := 600) (D := 100) (by omega) (by omega) (by omega) (by omega) (by omega) (by omega)
  have m2 := mul3 (a := x.s1) (b := s.a1) (c := n) (A := 99) (B := 600) (D := 100) (by omega) (by omega) (by omega) (by omega) (by omega) (by omega)
  refine CallsR.of_SX (n := 39) (rs := [.tmp 6]) Tryd.func82 rfl rfl rfl rfl ?_
  show SX _ _ _ ⟨[(0, .agg ⟨[.int .i64 s.weeks, .int .i64 s.most, .int .i64 s.fall, .int .i64 s.a0, .int .i64 s.a1, .int .i64 s.w0, .int .i64 s.w1, (.slice bo s.book.length bc), (.slice ro s.reads.length rc)]⟩), (1, .agg ⟨x.cells⟩), (2, .int .i64 n)], [], []⟩
  refine SX.seq ?_
  refine SX.region ?_
  refine SXL.box rfl rfl ?_; intro b0
  refine SXL.box rfl rfl ?_; intro b1
  refine SXL.assign rfl ?_
  refine SXL.nil ?_
  refine thenQ.normal ?_
  refine SX.seq ?_
  refine SX.region ?_
  refine SXL.move rfl ?_
  refine SXL.gtr rfl rfl ?_
  refine SXL.move rfl ?_
  apply SXL.andG 13
  case hl => exact rfl
  case hd => exact rfl
  case hg => exact rfl
  case ht =>
    intro g1
    refine SXL.fieldAddr fp_54_3 rfl ?_
    refine SXL.fieldAddr fp_23_0 rfl ?_
    refine SXL.load1o 1 sh_3 rfl rfl rfl ?_
    refine SXL.fieldAddr fp_27_3 rfl ?_
    refine SXL.fieldAddr fp_23_0 rfl ?_
    refine SXL.load1o 0 sh_3 rfl rfl rfl ?_
    refine SXL.mul rfl rfl (by omega) ?_
    refine SXL.move rfl ?_
    refine SXL.mul rfl rfl (by omega) ?_
    refine SXL.fieldAddr fp_54_2 rfl ?_
    refine SXL.load1o 1 sh_3 rfl rfl rfl ?_
    refine SXL.mul rfl rfl (by omega) ?_
    refine SXL.leq rfl rfl ?_
    exact SXL.nil (segQ.mk (.skip rfl (.skip rfl (.skip rfl (.skip rfl (.skip rfl (.skip rfl (.skip rfl (.skip rfl (.skip rfl (.skip rfl (.skip rfl (.skip rfl (.skip rfl (.skip rfl (EnvSub.refl _))))))))))))))) rfl rfl ⟨rfl, rfl⟩)
  case hf =>
    intro g1
    refine SXL.pass rfl rfl rfl ?_
    refine SXL.pass rfl rfl rfl ?_
    refine SXL.pass rfl rfl rfl ?_
    refine SXL.pass rfl rfl rfl ?_
    refine SXL.pass rfl rfl rfl ?_
    refine SXL.pass rfl rfl rfl ?_
    refine SXL.pass rfl rfl rfl ?_
    refine SXL.pass rfl rfl rfl ?_
    refine SXL.pass rfl rfl rfl ?_
    refine SXL.pass rfl rfl rfl ?_
    refine SXL.pass rfl rfl rfl ?_
    refine SXL.pass rfl rfl rfl ?_
    refine SXL.pass rfl rfl rfl ?_
    exact SXL.nil (segQ.mk (.skip rfl (.skip rfl (.skip rfl (.skip rfl (.skip rfl (.skip rfl (.skip rfl (.skip rfl (.skip rfl (.skip rfl (.skip rfl (.skip rfl (.skip rfl (.skip rfl (EnvSub.refl _))))))))))))))) rfl rfl rfl)
  refine SXL.move rfl ?_
  apply SXL.andG 13
  case hl => exact rfl
  case hd => exact rfl
  case hg => exact rfl
  case ht =>
    intro g2
    refine SXL.fieldAddr fp_54_2 rfl ?_
    refine SXL.load1o 1 sh_3 rfl rfl rfl ?_
    refine SXL.mul rfl rfl (by omega) ?_
    refine SXL.fieldAddr fp_54_3 rfl ?_
    refine SXL.fieldAddr fp_23_1 rfl ?_
    refine SXL.load1o 1 sh_3 rfl rfl rfl ?_
    refine SXL.fieldAddr fp_27_3 rfl ?_
    refine SXL.fieldAddr fp_23_1 rfl ?_
    refine SXL.load1o 0 sh_3 rfl rfl rfl ?_
    refine SXL.mul rfl rfl (by omega) ?_
    refine SXL.move rfl ?_
    refine SXL.mul rfl rfl (by omega) ?_
    refine SXL.leq rfl rfl ?_
    exact SXL.nil (segQ.mk (.skip rfl (.skip rfl (.skip rfl (.skip rfl (.skip rfl (.skip rfl (.skip rfl (.skip rfl (.skip rfl (.skip rfl (.skip rfl (.skip rfl (.skip rfl (.skip rfl (EnvSub.refl _))))))))))))))) rfl rfl ⟨rfl, rfl⟩)
  case hf =>
    intro g2
    refine SXL.pass rfl rfl rfl ?_
    refine SXL.pass rfl rfl rfl ?_
    refine SXL.pass rfl rfl rfl ?_
    refine SXL.pass rfl rfl rfl ?_
    refine SXL.pass rfl rfl rfl ?_
    refine SXL.pass rfl rfl rfl ?_
    refine SXL.pass rfl rfl rfl ?_
    refine SXL.pass rfl rfl rfl ?_
    refine SXL.pass rfl rfl rfl ?_
    refine SXL.pass rfl rfl rfl ?_
    refine SXL.pass rfl rfl rfl ?_
    refine SXL.pass rfl rfl rfl ?_
    refine SXL.pass rfl rfl rfl ?_
    exact SXL.nil (segQ.mk (.skip rfl (.skip rfl (.skip rfl (.skip rfl (.skip rfl (.skip rfl (.skip rfl (.skip rfl (.skip rfl (.skip rfl (.skip rfl (.skip rfl (.skip rfl (.skip rfl (EnvSub.refl _))))))))))))))) rfl rfl rfl)
  refine SXL.assign rfl ?_
  refine SXL.nil ?_
  refine thenQ.normal ?_
  refine SX.ret ?_
  refine retQ.one (ResAt.tmp rfl) ?_
  first | rfl | assumption
theorem spring_any (s : Sp) (bo ro : Option Addr) (bc rc : Nat) (w : World) (hs : SpAt w s bo ro) :
    CallsR Tryd.prog 74 [.agg ⟨[.int .i64 s.weeks, .int .i64 s.most, .int .i64 s.fall, .int .i64 s.a0, .int .i64 s.a1, .int .i64 s.w0, .int .i64 s.w1, (.slice bo s.book.length bc), (.slice ro s.reads.length rc)]⟩] w (fun v _ => v = .bool (decide (SpP s))) := by
  refine CallsR.of_SX (n := 104) (rs := [.tmp 2]) Tryd.func74 rfl rfl rfl rfl ?_
  show SX _ _ _ ⟨[(0, .agg ⟨[.int .i64 s.weeks, .int .i64 s.most, .int .i64 s.fall, .int .i64 s.a0, .int .i64 s.a1, .int .i64 s.w0, .int .i64 s.w1, (.slice bo s.book.length bc), (.slice ro s.reads.length rc)]⟩)], [], []⟩
  refine SX.seq ?_
  refine SX.region ?_
  refine SXL.box rfl rfl ?_; intro b0
  refine SXL.assign rfl ?_
  refine SXL.nil ?_
  refine thenQ.normal ?_
  refine SX.seq ?_
  refine SX.seq ?_
  refine SX.region ?_
  refine SXL.fieldAddr fp_27_0 rfl ?_
  refine SXL.load1o 0 sh_3 rfl rfl rfl ?_
  refine SXL.call1 (.bool (decide (Wi s.weeks 1 10))) fn_104 rfl (fun w hI => within_any _ _ _ _) ?_
  refine SXL.not rfl ?_
  refine SXL.move rfl ?_
  apply SXL.orG 4
  case hl => exact rfl
  case hd => exact rfl
  case hg => exact rfl
  case ht =>
    intro g1
    refine SXL.pass rfl rfl rfl ?_
    refine SXL.pass rfl rfl rfl ?_
    refine SXL.pass rfl rfl rfl ?_
    refine SXL.pass rfl rfl rfl ?_
    exact SXL.nil (segQ.mk (.skip rfl (.skip rfl (.skip rfl (.skip rfl (.skip rfl (EnvSub.refl _)))))) rfl rfl rfl)
  case hf =>
    intro g1
    refine SXL.fieldAddr fp_27_1 rfl ?_
    refine SXL.load1o 0 sh_3 rfl rfl rfl ?_
    refine SXL.call1 (.bool (decide (Wi s.most 0 100))) fn_104 rfl (fun w hI => within_any _ _ _ _) ?_
    refine SXL.not rfl ?_
    exact SXL.nil (segQ.mk (.skip rfl (.skip rfl (.skip rfl (.skip rfl (.skip rfl (EnvSub.refl _)))))) rfl rfl ⟨rfl, rfl⟩)
  refine SXL.move rfl ?_
  apply SXL.orG 4
  case hl => exact rfl
  case hd => exact rfl
  case hg => exact rfl
  case ht =>
    intro g2
    refine SXL.pass rfl rfl rfl ?_
    refine SXL.pass rfl rfl rfl ?_
    refine SXL.pass rfl rfl rfl ?_
    refine SXL.pass rfl rfl rfl ?_
    exact SXL.nil (segQ.mk (.skip rfl (.skip rfl (.skip rfl (.skip rfl (.skip rfl (EnvSub.refl _)))))) rfl rfl rfl)
  case hf =>
    intro g2
    refine SXL.fieldAddr fp_27_2 rfl ?_
    refine SXL.load1o 0 sh_3 rfl rfl rfl ?_
    refine SXL.call1 (.bool (decide (Wi s.fall 0 100))) fn_104 rfl (fun w hI => within_any _ _ _ _) ?_
    refine SXL.not rfl ?_
    exact SXL.nil (segQ.mk (.skip rfl (.skip rfl (.skip rfl (.skip rfl (.skip rfl (EnvSub.refl _)))))) rfl rfl ⟨rfl, rfl⟩)
  refine SXL.move rfl ?_
  apply SXL.orG 4
  case hl => exact rfl
  case hd => exact rfl
  case hg => exact rfl
  case ht =>
    intro g3
    refine SXL.pass rfl rfl rfl ?_
    refine SXL.pass rfl rfl rfl ?_
    refine SXL.pass rfl rfl rfl ?_
    refine SXL.pass rfl rfl rfl ?_
    exact SXL.nil (segQ.mk (.skip rfl (.skip rfl (.skip rfl (.skip rfl (.skip rfl (EnvSub.refl _)))))) rfl rfl rfl)
  case hf =>
    intro g3
    refine SXL.fieldAddr fp_27_3 rfl ?_
    refine SXL.loadNo 0 sh_23 rfl rfl rfl ?_
    refine SXL.call1 (.bool (decide (Spn s.a0 s.a1 1 600))) fn_115 rfl (fun w hI => spanned_any _ _ _ _ _) ?_
    refine SXL.not rfl ?_
    exact SXL.nil (segQ.mk (.skip rfl (.skip rfl (.skip rfl (.skip rfl (.skip rfl (EnvSub.refl _)))))) rfl rfl ⟨rfl, rfl⟩)
  refine SXL.move rfl ?_
  apply SXL.orG 4
  case hl => exact rfl
  case hd => exact rfl
  case hg => exact rfl
  case ht =>
    intro g4
    refine SXL.pass rfl rfl rfl ?_
    refine SXL.pass rfl rfl rfl ?_
    refine SXL.pass rfl rfl rfl ?_
    refine SXL.pass rfl rfl rfl ?_
    exact SXL.nil (segQ.mk (.skip rfl (.skip rfl (.skip rfl (.skip rfl (.skip rfl (EnvSub.refl _)))))) rfl rfl rfl)
  case hf =>
    intro g4
    refine SXL.fieldAddr fp_27_4 rfl ?_
    refine SXL.loadNo 0 sh_23 rfl rfl rfl ?_
    refine SXL.call1 (.bool (decide (Spn s.w0 s.w1 0 20))) fn_115 rfl (fun w hI => spanned_any _ _ _ _ _) ?_
    refine SXL.not rfl ?_
    exact SXL.nil (segQ.mk (.skip rfl (.skip rfl (.skip rfl (.skip rfl (.skip rfl (EnvSub.refl _)))))) rfl rfl ⟨rfl, rfl⟩)
  refine SXL.move rfl ?_
  apply SXL.orG 4
  case hl => exact rfl
  case hd => exact rfl
  case hg => exact rfl
  case ht =>
    intro g5
    refine SXL.pass rfl rfl rfl ?_
    refine SXL.pass rfl rfl rfl ?_
    refine SXL.pass rfl rfl rfl ?_
    refine SXL.pass rfl rfl rfl ?_
    exact SXL.nil (segQ.mk (.skip rfl (.skip rfl (.skip rfl (.skip rfl (.skip rfl (EnvSub.refl _)))))) rfl rfl rfl)
  case hf =>
    intro g5
    refine SXL.fieldAddr fp_27_5 rfl ?_
    refine SXL.load1o 0 sh_24 rfl rfl rfl ?_
    refine SXL.len is_24 rfl ?_
    refine SXL.gtr rfl rfl ?_
    exact SXL.nil (segQ.mk (.skip rfl (.skip rfl (.skip rfl (.skip rfl (.skip rfl (EnvSub.refl _)))))) rfl rfl ⟨rfl, rfl⟩)
  refine SXL.move rfl ?_
  apply SXL.orG 4
  case hl => exact rfl
  case hd => exact rfl
  case hg => exact rfl
  case ht =>
    intro c0
    refine SXL.pass rfl rfl rfl ?_
    refine SXL.pass rfl rfl rfl ?_
    refine SXL.pass rfl rfl rfl ?_
    refine SXL.pass rfl rfl rfl ?_
    exact SXL.nil (segQ.mk (.skip rfl (.skip rfl (.skip rfl (.skip rfl (.skip rfl (EnvSub.refl _)))))) rfl rfl rfl)
  case hf =>
    intro c0
    refine SXL.fieldAddr fp_27_6 rfl ?_
    refine SXL.load1o 0 sh_25 rfl rfl rfl ?_
    refine SXL.len is_25 rfl ?_
    refine SXL.gtr rfl rfl ?_
    exact SXL.nil (segQ.mk (.skip rfl (.skip rfl (.skip rfl (.skip rfl (.skip rfl (EnvSub.refl _)))))) rfl rfl ⟨rfl, rfl⟩)
  refine SXL.nil ?_
  refine thenQ.normal ?_
  refine SX.condP rfl (fun c0 => ?_) (fun c0 => ?_)
  · refine SX.seq ?_
    refine SX.region ?_
    refine SXL.assign rfl ?_
    refine SXL.nil ?_
    refine thenQ.normal ?_
    refine SX.ret ?_
    refine thenQ.ret ?_
    refine retQ.one (ResAt.tmp rfl) ?_
    exact congrArg Value.bool (decide_eq_false (by intro h; have h1 := h.1; unfold HeadP at h1; omega)).symm
  · refine SX.skip ?_
    refine thenQ.normal ?_
    refine SX.seq ?_
    refine SX.seq ?_
    refine SX.region ?_
    refine SXL.fieldAddr fp_27_5 rfl ?_
    refine SXL.load1o 0 sh_24 rfl rfl rfl ?_
    refine SXL.len is_24 rfl ?_
    refine SXL.move rfl ?_
    refine SXL.nil ?_
    refine thenQ.normal ?_
    refine SX.block ?_
    refine SX.loopG (α := Nat) [1, 2, 48, 49] rfl (fun k => [(50, .int .i64 (k : Int))]) (fun k => []) (fun k => k ≤ s.book.length ∧ ∀ i, i < k → (h : i < s.book.length) → LnP s.book[i] s.weeks) (fun k => s.book.length - k) 0 ⟨Nat.zero_le _, fun _ h => absurd h (Nat.not_lt_zero _)⟩ ⟨rfl, trivial⟩ rfl ?_
    rintro k ⟨hkl, hall⟩
    refine SX.seq ?_
    refine SX.region ?_
    refine SXL.lss rfl rfl ?_
    refine SXL.nil ?_
    refine thenQ.normal ?_
    refine SX.seq ?_
    refine SX.condP rfl (fun c1 => ?_) (fun c1 => ?_)
    · refine SX.skip ?_
      refine thenQ.normal ?_
      refine SX.seq ?_
      refine SX.block ?_
      refine SX.seq ?_
      have hk : k < s.book.length := by omega
      obtain ⟨b, o, ha, hm⟩ := hs.line hk
      refine SX.region ?_
      refine SXL.indexR el_24 rfl rfl ha (by omega) ?_
      refine SXL.loadN sh_61 rfl (hm _) rfl ?_
      refine SXL.alloc zp_61 ?_; intro b1
      refine SXL.store 1 sz_61 rfl rfl rfl rfl rfl rfl ?_
      refine SXL.nil ?_
      refine thenQ.normal ?_
      refine SX.seq ?_
      refine SX.region ?_
      refine SXL.fieldAddr fp_61_0 rfl ?_
      refine SXL.loadNo 1 sh_23 rfl rfl rfl ?_
      refine SXL.call1 (.bool (decide (Spn s.book[k].r0 s.book[k].r1 0 20))) fn_115 rfl (fun w hI => spanned_any _ _ _ _ _) ?_
      refine SXL.not rfl ?_
      refine SXL.move rfl ?_
      apply SXL.orG 7
      case hl => exact rfl
      case hd => exact rfl
      case hg => exact rfl
      case ht =>
        intro g9
        refine SXL.pass rfl rfl rfl ?_
        refine SXL.pass rfl rfl rfl ?_
        refine SXL.pass rfl rfl rfl ?_
        refine SXL.pass rfl rfl rfl ?_
        refine SXL.pass rfl rfl rfl ?_
        refine SXL.pass rfl rfl rfl ?_
        refine SXL.pass rfl rfl rfl ?_
        exact SXL.nil (segQ.mk (.skip rfl (.skip rfl (.skip rfl (.skip rfl (.skip rfl (.skip rfl (.skip rfl (.skip rfl (EnvSub.refl _))))))))) rfl rfl rfl)
      case hf =>
        intro g9
        refine SXL.fieldAddr fp_61_1 rfl ?_
        refine SXL.load1o 1 sh_3 rfl rfl rfl ?_
        refine SXL.fieldAddr fp_27_0 rfl ?_
        refine SXL.load1o 0 sh_3 rfl rfl rfl ?_
        refine SXL.sub rfl rfl (by omega) ?_
        refine SXL.call1 (.bool (decide (Wi s.book[k].wk 0 (s.weeks - 1)))) fn_104 rfl (fun w hI => within_any _ _ _ _) ?_
        refine SXL.not rfl ?_
        exact SXL.nil (segQ.mk (.skip rfl (.skip rfl (.skip rfl (.skip rfl (.skip rfl (.skip rfl (.skip rfl (.skip rfl (EnvSub.refl _))))))))) rfl rfl ⟨rfl, rfl⟩)
      refine SXL.move rfl ?_
      apply SXL.orG 4
      case hl => exact rfl
      case hd => exact rfl
      case hg => exact rfl
      case ht =>
        intro c2
        refine SXL.pass rfl rfl rfl ?_
        refine SXL.pass rfl rfl rfl ?_
        refine SXL.pass rfl rfl rfl ?_
        refine SXL.pass rfl rfl rfl ?_
        exact SXL.nil (segQ.mk (.skip rfl (.skip rfl (.skip rfl (.skip rfl (.skip rfl (EnvSub.refl _)))))) rfl rfl rfl)
      case hf =>
        intro c2
        refine SXL.fieldAddr fp_61_2 rfl ?_
        refine SXL.loadNo 1 sh_23 rfl rfl rfl ?_
        refine SXL.call1 (.bool (decide (Spn s.book[k].g0 s.book[k].g1 0 100))) fn_115 rfl (fun w hI => spanned_any _ _ _ _ _) ?_
        refine SXL.not rfl ?_
        exact SXL.nil (segQ.mk (.skip rfl (.skip rfl (.skip rfl (.skip rfl (.skip rfl (EnvSub.refl _)))))) rfl rfl ⟨rfl, rfl⟩)
      refine SXL.nil ?_
      refine thenQ.normal ?_
      refine SX.condP rfl (fun c2 => ?_) (fun c2 => ?_)
      · refine SX.seq ?_
        refine SX.region ?_
        refine SXL.assign rfl ?_
        refine SXL.nil ?_
        refine thenQ.normal ?_
        refine SX.ret ?_
        refine blockQ.ret ?_
        refine thenQ.ret ?_
        refine thenQ.ret ?_
        refine blockQ.ret ?_
        refine thenQ.ret ?_
        refine retQ.one (ResAt.tmp rfl) ?_
        exact congrArg Value.bool (decide_eq_false (by intro h; have h1 := h.2.1 k hk; omega)).symm
      · refine SX.skip ?_
        refine blockQ.normal ?_
        refine thenQ.normal ?_
        refine SX.region ?_
        refine SXL.add rfl rfl (by omega) ?_
        refine SXL.move rfl ?_
        refine SXL.nil ?_
        refine thenQ.normal ?_
        refine ⟨k + 1, Meets.mk _ ⟨rfl, trivial⟩ ⟨rfl, rfl, rfl, rfl, trivial⟩ rfl, ?_, by omega⟩
        refine ⟨by omega, fun i hi h => ?_⟩
        by_cases hik : i = k
        · subst hik; omega
        · exact hall i (by omega) h
    · refine SX.exit ?_
      refine thenQ.exit ?_
      refine thenQ.exit ?_
      refine blockQ.exit ?_
      refine thenQ.normal ?_
      refine SX.seq ?_
      refine SX.seq ?_
      refine SX.region ?_
      refine SXL.fieldAddr fp_27_6 rfl ?_
      refine SXL.load1o 0 sh_25 rfl rfl rfl ?_
      refine SXL.len is_25 rfl ?_
      refine SXL.move rfl ?_
      refine SXL.nil ?_
      refine thenQ.normal ?_
      refine SX.block ?_
      refine SX.loopG (α := Nat) [1, 2, 75, 76] rfl (fun k => [(77, .int .i64 (k : Int))]) (fun k => []) (fun k => k ≤ s.reads.length ∧ ∀ i, i < k → (h : i < s.reads.length) → RdP s.reads[i] s.weeks ∧ (0 < i → (s.reads.getD (i - 1) default).num < s.reads[i].num)) (fun k => s.reads.length - k) 0 ⟨Nat.zero_le _, fun _ h => absurd h (Nat.not_lt_zero _)⟩ ⟨rfl, trivial⟩ rfl ?_
      rintro k ⟨hkl2, hall2⟩
      refine SX.seq ?_
      refine SX.region ?_
      refine SXL.lss rfl rfl ?_
      refine SXL.nil ?_
      refine thenQ.normal ?_
      refine SX.seq ?_
      refine SX.condP rfl (fun c3 => ?_) (fun c3 => ?_)
      · refine SX.skip ?_
        refine thenQ.normal ?_
        refine SX.seq ?_
        refine SX.block ?_
        refine SX.seq ?_
        have hk : k < s.reads.length := by omega
        obtain ⟨b, o, ha, hm⟩ := hs.read hk
        refine SX.region ?_
        refine SXL.move rfl ?_
        refine SXL.indexR el_25 rfl rfl ha (by omega) ?_
        refine SXL.loadN sh_54 rfl (hm _) rfl ?_
        refine SXL.alloc zp_54 ?_; intro b1
        refine SXL.assign rfl ?_
        refine SXL.store 1 sz_54 rfl rfl rfl rfl rfl rfl ?_
        refine SXL.nil ?_
        refine thenQ.normal ?_
        refine SX.seq ?_
        refine SX.draw 21 (by kernel_rfl) (by kernel_rfl) {} ?_
        refine SXA.take 0 21 rfl (by kernel_rfl) rfl ?_
        refine SXL.loadNo 1 sh_54 rfl rfl rfl ?_
        refine SXL.fieldAddr fp_27_0 rfl ?_
        refine SXL.load1o 0 sh_3 rfl rfl rfl ?_
        refine SXL.call1 (.bool (decide (RdP s.reads[k] s.weeks))) fn_71 rfl (fun w hI => reading_any _ _ (by omega) (by omega) _) ?_
        refine SXL.not rfl ?_
        refine SXL.move rfl ?_
        apply SXL.orG 14
        case hl => exact rfl
        case hd => exact rfl
        case hg => exact rfl
        case ht =>
          intro c4
          refine SXL.pass rfl rfl rfl ?_
          refine SXL.pass rfl rfl rfl ?_
          refine SXL.pass rfl rfl rfl ?_
          refine SXL.pass rfl rfl rfl ?_
          refine SXL.pass rfl rfl rfl ?_
          refine SXL.pass rfl rfl rfl ?_
          refine SXL.pass rfl rfl rfl ?_
          refine SXL.pass rfl rfl rfl ?_
          refine SXL.pass rfl rfl rfl ?_
          refine SXL.pass rfl rfl rfl ?_
          refine SXL.pass rfl rfl rfl ?_
          refine SXL.pass rfl rfl rfl ?_
          refine SXL.pass rfl rfl rfl ?_
          refine SXL.pass rfl rfl rfl ?_
          exact SXL.nil (segQ.mk (.skip rfl (.skip rfl (.skip rfl (.skip rfl (.skip rfl (.skip rfl (.skip rfl (.skip rfl (.skip rfl (.skip rfl (.skip rfl (.skip rfl (.skip rfl (.skip rfl (.skip rfl (EnvSub.refl _)))))))))))))))) rfl rfl rfl)
        case hf =>
          intro c4
          refine SXL.move rfl ?_
          refine SXL.gtr rfl rfl ?_
          refine SXL.move rfl ?_
          apply SXL.andG 10
          case hl => exact rfl
          case hd => exact rfl
          case hg => exact rfl
          case ht =>
            intro g14
            obtain ⟨b2, o2, ha2, hm2⟩ := hs.readI (i := (k : Int) - 1) (by omega) (by omega)
            refine SXL.fieldAddr fp_27_6 rfl ?_
            refine SXL.load1o 0 sh_25 rfl rfl rfl ?_
            refine SXL.move rfl ?_
            refine SXL.sub rfl rfl (by omega) ?_
            refine SXL.indexR el_25 rfl rfl ha2 (by omega) ?_
            refine SXL.fieldAddr fp_54_0 rfl ?_
            refine SXL.load1 sh_3 rfl ((hm2 _).sub (j := 0) (k := 1) rfl) ?_
            refine SXL.fieldAddr fp_54_0 rfl ?_
            refine SXL.load1o 1 sh_3 rfl rfl rfl ?_
            refine SXL.geq rfl rfl ?_
            exact SXL.nil (segQ.mk (.skip rfl (.skip rfl (.skip rfl (.skip rfl (.skip rfl (.skip rfl (.skip rfl (.skip rfl (.skip rfl (.skip rfl (.skip rfl (EnvSub.refl _)))))))))))) rfl rfl ⟨rfl, rfl⟩)
          case hf =>
            intro g14
            refine SXL.pass rfl rfl rfl ?_
            refine SXL.pass rfl rfl rfl ?_
            refine SXL.pass rfl rfl rfl ?_
            refine SXL.pass rfl rfl rfl ?_
            refine SXL.pass rfl rfl rfl ?_
            refine SXL.pass rfl rfl rfl ?_
            refine SXL.pass rfl rfl rfl ?_
            refine SXL.pass rfl rfl rfl ?_
            refine SXL.pass rfl rfl rfl ?_
            refine SXL.pass rfl rfl rfl ?_
            exact SXL.nil (segQ.mk (.skip rfl (.skip rfl (.skip rfl (.skip rfl (.skip rfl (.skip rfl (.skip rfl (.skip rfl (.skip rfl (.skip rfl (.skip rfl (EnvSub.refl _)))))))))))) rfl rfl rfl)
          exact SXL.nil (segQ.mk (.skip rfl (.skip rfl (.skip rfl (.skip rfl (EnvSub.refl _))))) rfl rfl ⟨rfl, rfl⟩)
        refine SXL.nil ⟨rfl, rfl, rfl, ?_⟩
        refine SXA.done (by kernel_rfl) ?_
        refine SXL.nil ?_
        refine thenQ.normal ?_
        refine SX.condP rfl (fun c4 => ?_) (fun c4 => ?_)
        · refine SX.seq ?_
          refine SX.region ?_
          refine SXL.assign rfl ?_
          refine SXL.nil ?_
          refine thenQ.normal ?_
          refine SX.ret ?_
          refine blockQ.ret ?_
          refine thenQ.ret ?_
          refine thenQ.ret ?_
          refine blockQ.ret ?_
          refine thenQ.ret ?_
          refine retQ.one (ResAt.tmp rfl) ?_
          exact congrArg Value.bool (decide_eq_false (by intro h; have h1 := h.2.2 k hk; have e : ((k : Int) - 1).toNat = k - 1 := (by omega); rw [e] at c4; omega)).symm
        · refine SX.skip ?_
          refine blockQ.normal ?_
          refine thenQ.normal ?_
          refine SX.region ?_
          refine SXL.add rfl rfl (by omega) ?_
          refine SXL.move rfl ?_
          refine SXL.nil ?_
          refine thenQ.normal ?_
          refine ⟨k + 1, Meets.mk _ ⟨rfl, trivial⟩ ⟨rfl, rfl, rfl, rfl, trivial⟩ rfl, ?_, by omega⟩
          refine ⟨by omega, fun i hi h => ?_⟩
          by_cases hik : i = k
          · subst hik
            have e : ((i : Int) - 1).toNat = i - 1 := by omega
            rw [e] at c4
            omega
          · exact hall2 i (by omega) h
      · refine SX.exit ?_
        refine thenQ.exit ?_
        refine thenQ.exit ?_
        refine blockQ.exit ?_
        refine thenQ.normal ?_
        refine SX.seq ?_
        refine SX.region ?_
        refine SXL.assign rfl ?_
        refine SXL.nil ?_
        refine thenQ.normal ?_
        refine SX.ret ?_
        refine retQ.one (ResAt.tmp rfl) ?_
        exact congrArg Value.bool (decide_eq_true (p := SpP s) ⟨by unfold HeadP; omega, fun i h => hall i (by omega) h, fun i h => hall2 i (by omega) h⟩).symm
end Go.Proofs.YtknflipongbngaaDoor

/- The walks of functions. -/
namespace Go.Proofs.YtknflipongbngaaDoor
open Go.X Go.S
theorem linesTo_yes {s : Sp} {L : List Int} (rain : Int) {i : Nat} (h : i < s.book.length) (hc : Wi rain s.book[i].r0 s.book[i].r1) :
    linesTo s L rain (i + 1) = ((linesTo s L rain i).set s.book[i].wk.toNat (max (G (linesTo s L rain i) s.book[i].wk.toNat) s.book[i].g0)).set (10 + s.book[i].wk.toNat) (min (G (linesTo s L rain i) (10 + s.book[i].wk.toNat)) s.book[i].g1) := by
  simp only [linesTo, List.getElem?_eq_getElem h, lineStep, if_pos hc]
theorem linesTo_no {s : Sp} {L : List Int} (rain : Int) {i : Nat} (h : i < s.book.length) (hc : ¬Wi rain s.book[i].r0 s.book[i].r1) : linesTo s L rain (i + 1) = linesTo s L rain i := by
  simp only [linesTo, List.getElem?_eq_getElem h, lineStep, if_neg hc]
theorem okTo_zero (s : Sp) (w : Nat) (n : Int) : OkTo s w n 0 := fun _ hi => absurd hi (Nat.not_lt_zero _)
theorem okTo_succ {s : Sp} {w : Nat} {n : Int} {i : Nat} (hlt : i < s.reads.length) : (OkTo s w n i ∧ (s.reads[i].wk ≠ w ∨ Right s s.reads[i] n)) ↔ OkTo s w n (i + 1) := by
  constructor
  · rintro ⟨h1, h2⟩ k hk h
    by_cases e : k = i
    · subst e; exact h2
    · exact h1 k (by omega) h
  · intro h
    exact ⟨fun k hk h' => h k (by omega) h', h i (by omega) hlt⟩
theorem okTo_all {s : Sp} {w : Nat} {n : Int} (h : OkTo s w n s.reads.length) : OkP s w n := fun i hi => h i hi hi
theorem okTo_not {s : Sp} {w : Nat} {n : Int} (h : ¬OkTo s w n s.reads.length) : ¬OkP s w n := fun g => h fun i _ hi => g i hi
theorem base_any (s : Sp) (bo ro : Option Addr) (bc rc : Nat) (hv : SpP s) (w : World) (hs : SpAt w s bo ro) :
    CallsR Tryd.prog 113 [.agg ⟨[.int .i64 s.weeks, .int .i64 s.most, .int .i64 s.fall, .int .i64 s.a0, .int .i64 s.a1, .int .i64 s.w0, .int .i64 s.w1, (.slice bo s.book.length bc), (.slice ro s.reads.length rc)]⟩] w (fun v _ => v = .agg ⟨ints (baseL s)⟩) := by
  have hH := hv.1
  unfold HeadP at hH
  refine CallsR.of_SX (n := 66) (rs := [.cell 2 156]) Tryd.func113 rfl rfl rfl rfl ?_
  show SX _ _ _ ⟨[(0, .agg ⟨[.int .i64 s.weeks, .int .i64 s.most, .int .i64 s.fall, .int .i64 s.a0, .int .i64 s.a1, .int .i64 s.w0, .int .i64 s.w1, (.slice bo s.book.length bc), (.slice ro s.reads.length rc)]⟩)], [], []⟩
  refine SX.seq ?_
  refine SX.region ?_
  refine SXL.box rfl rfl ?_; intro b0
  refine SXL.alloc zp_156 ?_; intro b1
  refine SXL.nil ?_
  refine thenQ.normal ?_
  refine SX.seq ?_
  refine SX.region ?_
  refine SXL.alloc zp_156 ?_; intro b2
  refine SXL.nil ?_
  refine thenQ.normal ?_
  refine SX.seq ?_
  refine SX.seq ?_
  refine SX.region ?_
  refine SXL.assign rfl ?_
  refine SXL.nil ?_
  refine thenQ.normal ?_
  refine SX.block ?_
  refine SX.loopG (α := Nat) [1, 2, 3] rfl (fun k => [(4, .int .i64 (k : Int))]) (fun k => [(2, (b2, .cells ⟨ints (baseTo s k)⟩ 156 (0, 0)))]) (fun k => k ≤ s.weeks.toNat) (fun k => s.weeks.toNat - k) 0 (Nat.zero_le _) ⟨rfl, trivial⟩ rfl ?_
  rintro k hk
  have hB := Bd.base (s := s) hH.2.1 k (by omega)
  refine SX.seq ?_
  refine SX.seq ?_
  refine SX.region ?_
  refine SXL.move rfl ?_
  refine SXL.fieldAddr fp_27_0 rfl ?_
  refine SXL.load1o 0 sh_3 rfl rfl rfl ?_
  refine SXL.lss rfl rfl ?_
  refine SXL.nil ?_
  refine thenQ.normal ?_
  refine SX.condP rfl (fun c12 => ?_) (fun c12 => ?_)
  · refine SX.skip ?_
    refine thenQ.normal ?_
    refine SX.seq ?_
    refine SX.block ?_
    refine SX.seq ?_
    refine SX.region ?_
    refine SXL.move rfl ?_
    refine SXL.move rfl ?_
    refine SXL.fieldAddr fp_27_1 rfl ?_
    refine SXL.load1o 0 sh_3 rfl rfl rfl ?_
    refine SXL.add rfl rfl (by omega) ?_
    refine SXL.fieldAddr fp_156_0 rfl ?_
    refine SXL.indexA el_154 rfl rfl (by omega) ?_
    refine SXL.store 2 sz_3 rfl rfl rfl rfl rfl (ints_put (i := k) (by omega) (by simp only [hB.len]; omega)) ?_
    refine SXL.fieldAddr fp_156_1 rfl ?_
    refine SXL.indexA el_154 rfl rfl (by omega) ?_
    refine SXL.store 2 sz_3 rfl rfl rfl rfl rfl (ints_put (i := 10 + k) (by omega) (by simp only [List.length_set, hB.len]; omega)) ?_
    refine SXL.nil ?_
    refine thenQ.normal ?_
    refine SX.seq ?_
    refine SX.region ?_
    refine SXL.assign rfl ?_
    refine SXL.nil ?_
    refine thenQ.normal ?_
    refine SX.block ?_
    refine SX.loopG (α := Nat) [1, 2, 3, 4] rfl (fun j => [(5, .int .i64 (j : Int))]) (fun j => [(2, (b2, .cells ⟨ints (weekTo s (baseTo s k) k j)⟩ 156 (0, 0)))]) (fun j => j ≤ s.most.toNat + 1) (fun j => s.most.toNat + 1 - j) 0 (Nat.zero_le _) ⟨rfl, trivial⟩ rfl ?_
    rintro j hj
    have hBj := Bd.week (s := s) hB hH.2.1 (w := k) (by omega) j (by omega)
    refine SX.seq ?_
    refine SX.seq ?_
    refine SX.region ?_
    refine SXL.move rfl ?_
    refine SXL.fieldAddr fp_27_1 rfl ?_
    refine SXL.load1o 0 sh_3 rfl rfl rfl ?_
    refine SXL.leq rfl rfl ?_
    refine SXL.nil ?_
    refine thenQ.normal ?_
    refine SX.condP rfl (fun c27 => ?_) (fun c27 => ?_)
    · refine SX.skip ?_
      refine thenQ.normal ?_
      refine SX.seq ?_
      refine SX.block ?_
      refine SX.seq ?_
      refine SX.region ?_
      refine SXL.assign rfl ?_
      refine SXL.nil ?_
      refine thenQ.normal ?_
      refine SX.seq ?_
      refine SX.seq ?_
      refine SX.region ?_
      refine SXL.fieldAddr fp_27_6 rfl ?_
      refine SXL.load1o 0 sh_25 rfl rfl rfl ?_
      refine SXL.len is_25 rfl ?_
      refine SXL.move rfl ?_
      refine SXL.nil ?_
      refine thenQ.normal ?_
      refine SX.block ?_
      refine SX.loopG (α := Nat) [1, 2, 3, 4, 5, 31, 32] rfl (fun i => [(33, .int .i64 (i : Int)), (6, .bool (decide (OkTo s k (j : Int) i)))]) (fun i => []) (fun i => i ≤ s.reads.length) (fun i => s.reads.length - i) 0 (Nat.zero_le _) ⟨rfl, (congrArg (fun b => some (Value.bool b)) (decide_eq_true (okTo_zero s k j)).symm), trivial⟩ rfl ?_
      rintro i hi
      refine SX.seq ?_
      refine SX.region ?_
      refine SXL.lss rfl rfl ?_
      refine SXL.nil ?_
      refine thenQ.normal ?_
      refine SX.seq ?_
      refine SX.condP rfl (fun c34 => ?_) (fun c34 => ?_)
      · refine SX.skip ?_
        refine thenQ.normal ?_
        refine SX.seq ?_
        refine SX.block ?_
        refine SX.seq ?_
        have hlt : i < s.reads.length := by omega
        obtain ⟨b, o, ha, hm⟩ := hs.read hlt
        have hR := (hv.2.2 i hlt).1
        refine SX.region ?_
        refine SXL.indexR el_25 rfl rfl ha (by omega) ?_
        refine SXL.loadN sh_54 rfl (hm _) rfl ?_
        refine SXL.alloc zp_54 ?_; intro b3
        refine SXL.store 3 sz_54 rfl rfl rfl rfl rfl rfl ?_
        refine SXL.nil ?_
        refine thenQ.normal ?_
        refine SX.region ?_
        refine SXL.move rfl ?_
        refine SXL.move rfl ?_
        apply SXL.andG 10
        case hl => exact rfl
        case hd => exact rfl
        case hg => exact rfl
        case ht =>
          intro g4
          refine SXL.fieldAddr fp_54_1 rfl ?_
          refine SXL.load1o 3 sh_3 rfl rfl rfl ?_
          refine SXL.move rfl ?_
          refine SXL.neqI rfl rfl ?_
          refine SXL.move rfl ?_
          apply SXL.orG 4
          case hl => exact rfl
          case hd => exact rfl
          case hg => exact rfl
          case ht =>
            intro g5
            refine SXL.pass rfl rfl rfl ?_
            refine SXL.pass rfl rfl rfl ?_
            refine SXL.pass rfl rfl rfl ?_
            refine SXL.pass rfl rfl rfl ?_
            exact SXL.nil (segQ.mk (.skip rfl (.skip rfl (.skip rfl (.skip rfl (.skip rfl (EnvSub.refl _)))))) rfl rfl rfl)
          case hf =>
            intro g5
            refine SXL.loadNo 0 sh_27 rfl rfl rfl ?_
            refine SXL.loadNo 3 sh_54 rfl rfl rfl ?_
            refine SXL.move rfl ?_
            refine SXL.call1 (.bool (decide (Right s s.reads[i] (j : Int)))) fn_82 rfl (fun w hI => right_any s bo ro bc rc _ _ (by omega) (by omega) (by omega) (by omega) _) ?_
            exact SXL.nil (segQ.mk (.skip rfl (.skip rfl (.skip rfl (.skip rfl (.skip rfl (EnvSub.refl _)))))) rfl rfl ⟨rfl, rfl⟩)
          exact SXL.nil (segQ.mk (.skip rfl (.skip rfl (.skip rfl (.skip rfl (.skip rfl (.skip rfl (EnvSub.refl _))))))) rfl rfl ⟨rfl, rfl⟩)
        case hf =>
          intro g4
          refine SXL.pass rfl rfl rfl ?_
          refine SXL.pass rfl rfl rfl ?_
          refine SXL.pass rfl rfl rfl ?_
          refine SXL.pass rfl rfl rfl ?_
          refine SXL.pass rfl rfl rfl ?_
          refine SXL.pass rfl rfl rfl ?_
          refine SXL.pass rfl rfl rfl ?_
          refine SXL.pass rfl rfl rfl ?_
          refine SXL.pass rfl rfl rfl ?_
          refine SXL.pass rfl rfl rfl ?_
          exact SXL.nil (segQ.mk (.skip rfl (.skip rfl (.skip rfl (.skip rfl (.skip rfl (.skip rfl (.skip rfl (.skip rfl (.skip rfl (.skip rfl (.skip rfl (EnvSub.refl _)))))))))))) rfl rfl rfl)
        refine SXL.assign rfl ?_
        refine SXL.nil ?_
        refine blockQ.normal ?_
        refine thenQ.normal ?_
        refine SX.region ?_
        refine SXL.add rfl rfl (by omega) ?_
        refine SXL.move rfl ?_
        refine SXL.nil ?_
        refine thenQ.normal ?_
        refine ⟨i + 1, Meets.mk _ ⟨rfl, (congrArg (fun b => some (Value.bool b)) (decide_eq_decide.2 (okTo_succ hlt))), trivial⟩ ⟨rfl, rfl, rfl, rfl, rfl, rfl, rfl, trivial⟩ rfl, (by omega), (by omega)⟩
      · refine SX.exit ?_
        refine thenQ.exit ?_
        refine thenQ.exit ?_
        refine blockQ.exit ?_
        refine thenQ.normal ?_
        refine SX.seq ?_
        obtain rfl : i = s.reads.length := by omega
        refine SX.region ?_
        refine SXL.move rfl ?_
        refine SXL.nil ?_
        refine thenQ.normal ?_
        refine SX.condP rfl (fun c51 => ?_) (fun c51 => ?_)
        · refine SX.region ?_
          refine SXL.move rfl ?_
          refine SXL.move rfl ?_
          refine SXL.move rfl ?_
          refine SXL.fieldAddr fp_156_0 rfl ?_
          refine SXL.indexA el_154 rfl rfl (by omega) ?_
          refine SXL.load1o 2 sh_3 rfl rfl (intsAtX (i := k) (by omega) (by simp only [hBj.len]; omega)) ?_
          refine SXL.move rfl ?_
          refine SXL.min rfl rfl ?_
          refine SXL.move rfl ?_
          refine SXL.fieldAddr fp_156_0 rfl ?_
          refine SXL.indexA el_154 rfl rfl (by omega) ?_
          refine SXL.store 2 sz_3 rfl rfl rfl rfl rfl (ints_put (i := k) (by omega) (by simp only [hBj.len]; omega)) ?_
          refine SXL.fieldAddr fp_156_1 rfl ?_
          refine SXL.indexA el_154 rfl rfl (by omega) ?_
          refine SXL.store 2 sz_3 rfl rfl rfl rfl rfl (ints_put (i := 10 + k) (by omega) (by simp only [List.length_set, hBj.len]; omega)) ?_
          refine SXL.nil ?_
          refine blockQ.normal ?_
          refine thenQ.normal ?_
          refine SX.region ?_
          refine SXL.move rfl ?_
          refine SXL.add rfl rfl (by omega) ?_
          refine SXL.assign rfl ?_
          refine SXL.nil ?_
          refine thenQ.normal ?_
          refine ⟨j + 1, Meets.mk _ ⟨rfl, trivial⟩ ⟨rfl, rfl, rfl, rfl, trivial⟩ (by first | (rw [show weekTo s (baseTo s k) k (j + 1) = _ from if_pos (okTo_all c51)]; rfl) | (rw [show weekTo s (baseTo s k) k (j + 1) = _ from if_neg (okTo_not c51)]; rfl)), (by omega), (by omega)⟩
        · refine SX.skip ?_
          refine blockQ.normal ?_
          refine thenQ.normal ?_
          refine SX.region ?_
          refine SXL.move rfl ?_
          refine SXL.add rfl rfl (by omega) ?_
          refine SXL.assign rfl ?_
          refine SXL.nil ?_
          refine thenQ.normal ?_
          refine ⟨j + 1, Meets.mk _ ⟨rfl, trivial⟩ ⟨rfl, rfl, rfl, rfl, trivial⟩ (by first | (rw [show weekTo s (baseTo s k) k (j + 1) = _ from if_pos (okTo_all c51)]; rfl) | (rw [show weekTo s (baseTo s k) k (j + 1) = _ from if_neg (okTo_not c51)]; rfl)), (by omega), (by omega)⟩
    · refine SX.exit ?_
      refine thenQ.exit ?_
      refine thenQ.exit ?_
      refine blockQ.exit ?_
      refine blockQ.normal ?_
      refine thenQ.normal ?_
      obtain rfl : j = s.most.toNat + 1 := by omega
      refine SX.region ?_
      refine SXL.move rfl ?_
      refine SXL.add rfl rfl (by omega) ?_
      refine SXL.assign rfl ?_
      refine SXL.nil ?_
      refine thenQ.normal ?_
      refine ⟨k + 1, Meets.mk _ ⟨rfl, trivial⟩ ⟨rfl, rfl, rfl, trivial⟩ rfl, (by omega), (by omega)⟩
  · refine SX.exit ?_
    refine thenQ.exit ?_
    refine thenQ.exit ?_
    refine blockQ.exit ?_
    refine thenQ.normal ?_
    refine SX.seq ?_
    refine SX.region ?_
    refine SXL.loadNo 2 sh_156 rfl rfl (takeAt_full (by simp only [length_ints, hB.len])) ?_
    refine SXL.store 1 sz_156 rfl rfl rfl rfl (by simp only [length_ints, hB.len]) (putAt_all _ _ (by simp only [length_ints, hB.len]; rfl)) ?_ (ints_isOne _)
    refine SXL.nil ?_
    refine thenQ.normal ?_
    refine SX.ret ?_
    refine retQ.one (ResAt.cellNo 1 sh_156 rfl rfl (takeAt_full (by simp only [length_ints, hB.len]))) ?_
    rw [show k = s.weeks.toNat by omega]; rfl
set_option maxHeartbeats 1000000 in
theorem leaves_any (s : Sp) (bo ro : Option Addr) (bc rc : Nat) (L : List Int) (hL : Bd L) (rain : Int) (hv : SpP s) (w : World) (hs : SpAt w s bo ro) :
    CallsR Tryd.prog 133 [.agg ⟨[.int .i64 s.weeks, .int .i64 s.most, .int .i64 s.fall, .int .i64 s.a0, .int .i64 s.a1, .int .i64 s.w0, .int .i64 s.w1, (.slice bo s.book.length bc), (.slice ro s.reads.length rc)]⟩, .agg ⟨ints L⟩, .int .i64 rain] w (fun v _ => v = .tuple ⟨[.agg ⟨ints (lvL s L rain)⟩, .bool (decide (lvB s L rain))]⟩) := by
  have hH := hv.1
  unfold HeadP at hH
  refine CallsR.of_SX (n := 143) (rs := [.cell 6 156, .tmp 7]) Tryd.func133 rfl rfl rfl rfl ?_
  show SX _ _ _ ⟨[(0, .agg ⟨[.int .i64 s.weeks, .int .i64 s.most, .int .i64 s.fall, .int .i64 s.a0, .int .i64 s.a1, .int .i64 s.w0, .int .i64 s.w1, (.slice bo s.book.length bc), (.slice ro s.reads.length rc)]⟩), (1, .agg ⟨ints L⟩), (2, .int .i64 rain)], [], []⟩
  refine SX.seq ?_
  refine SX.region ?_
  refine SXL.box rfl rfl ?_; intro b0
  refine SXL.box rfl rfl ?_; intro b1
  refine SXL.alloc zp_156 ?_; intro b2
  refine SXL.assign rfl ?_
  refine SXL.nil ?_
  refine thenQ.normal ?_
  refine SX.seq ?_
  refine SX.seq ?_
  refine SX.region ?_
  refine SXL.fieldAddr fp_27_5 rfl ?_
  refine SXL.load1o 0 sh_24 rfl rfl rfl ?_
  refine SXL.len is_24 rfl ?_
  refine SXL.move rfl ?_
  refine SXL.nil ?_
  refine thenQ.normal ?_
  refine SX.block ?_
  refine SX.loopG (α := Nat) [2, 3, 4, 6, 7, 14, 15] rfl (fun i => [(16, .int .i64 (i : Int))]) (fun i => [(1, (b1, .cells ⟨ints (linesTo s L rain i)⟩ 156 (0, 0)))]) (fun i => i ≤ s.book.length) (fun i => s.book.length - i) 0 (Nat.zero_le _) ⟨rfl, trivial⟩ rfl ?_
  rintro i hi
  have hM := hL.lines hv.2.1 hH.1 rain i
  refine SX.seq ?_
  refine SX.region ?_
  refine SXL.lss rfl rfl ?_
  refine SXL.nil ?_
  refine thenQ.normal ?_
  refine SX.seq ?_
  refine SX.condP rfl (fun c17 => ?_) (fun c17 => ?_)
  · refine SX.skip ?_
    refine thenQ.normal ?_
    refine SX.seq ?_
    refine SX.block ?_
    refine SX.seq ?_
    have hlt : i < s.book.length := by omega
    obtain ⟨b, o, ha, hm⟩ := hs.line hlt
    have hl := hv.2.1 i hlt
    refine SX.region ?_
    refine SXL.indexR el_24 rfl rfl ha (by omega) ?_
    refine SXL.loadN sh_61 rfl (hm _) rfl ?_
    refine SXL.alloc zp_61 ?_; intro b3
    refine SXL.store 3 sz_61 rfl rfl rfl rfl rfl rfl ?_
    refine SXL.nil ?_
    refine thenQ.normal ?_
    refine SX.seq ?_
    refine SX.region ?_
    refine SXL.move rfl ?_
    refine SXL.fieldAddr fp_61_0 rfl ?_
    refine SXL.fieldAddr fp_23_0 rfl ?_
    refine SXL.load1o 3 sh_3 rfl rfl rfl ?_
    refine SXL.fieldAddr fp_61_0 rfl ?_
    refine SXL.fieldAddr fp_23_1 rfl ?_
    refine SXL.load1o 3 sh_3 rfl rfl rfl ?_
    refine SXL.call1 (.bool (decide (Wi rain s.book[i].r0 s.book[i].r1))) fn_104 rfl (fun w hI => within_any _ _ _ _) ?_
    refine SXL.nil ?_
    refine thenQ.normal ?_
    refine SX.condP rfl (fun c27 => ?_) (fun c27 => ?_)
    · refine SX.draw 28 (by kernel_rfl) (by kernel_rfl) ⟨[2, 3, 13, 14, 18, 19, 20, 21, 22, 25, 26, 27], [true, false]⟩ ?_
      refine SXA.take 0 2 rfl (by kernel_rfl) rfl ?_
      refine SXL.fieldAddr fp_61_1 rfl ?_
      refine SXL.load1o 3 sh_3 rfl rfl rfl ?_
      refine SXL.nil ⟨rfl, rfl, rfl, ?_⟩
      refine SXA.takeM 2 2 rfl (by kernel_rfl) rfl ?_
      refine SXL.fieldAddr fp_61_1 rfl ?_
      refine SXL.load1o 2 sh_3 rfl rfl rfl ?_
      refine SXL.nil ⟨rfl, rfl, rfl, ?_⟩
      refine SXA.take 4 9 rfl (by kernel_rfl) rfl ?_
      refine SXL.fieldAddr fp_61_1 rfl ?_
      refine SXL.load1o 3 sh_3 rfl rfl rfl ?_
      refine SXL.fieldAddr fp_156_0 rfl ?_
      refine SXL.indexA el_154 rfl rfl (by omega) ?_
      refine SXL.load1o 1 sh_3 rfl rfl (intsAtX (i := s.book[i].wk.toNat) (by omega) (by simp only [hM.len]; omega)) ?_
      refine SXL.fieldAddr fp_61_2 rfl ?_
      refine SXL.fieldAddr fp_23_0 rfl ?_
      refine SXL.load1o 3 sh_3 rfl rfl rfl ?_
      refine SXL.max rfl rfl ?_
      refine SXL.nil ⟨rfl, rfl, rfl, ?_⟩
      refine SXA.takeM 13 2 rfl (by kernel_rfl) rfl ?_
      refine SXL.fieldAddr fp_61_1 rfl ?_
      refine SXL.load1o 2 sh_3 rfl rfl rfl ?_
      refine SXL.nil ⟨rfl, rfl, rfl, ?_⟩
      refine SXA.take 15 3 rfl (by kernel_rfl) rfl ?_
      refine SXL.fieldAddr fp_156_1 rfl ?_
      refine SXL.indexA el_154 rfl rfl (by omega) ?_
      refine SXL.load1o 1 sh_3 rfl rfl (intsAtX (i := 10 + s.book[i].wk.toNat) (by omega) (by simp only [hM.len]; omega)) ?_
      refine SXL.nil ⟨rfl, rfl, rfl, ?_⟩
      refine SXA.takeM 18 5 rfl (by kernel_rfl) rfl ?_
      refine SXL.fieldAddr fp_61_2 rfl ?_
      refine SXL.fieldAddr fp_23_1 rfl ?_
      refine SXL.load1o 2 sh_3 rfl rfl rfl ?_
      refine SXL.min rfl rfl ?_
      refine SXL.fieldAddr fp_156_0 rfl ?_
      refine SXL.nil ⟨rfl, rfl, rfl, ?_⟩
      refine SXA.take 23 1 rfl (by kernel_rfl) rfl ?_
      refine SXL.indexA el_154 rfl rfl (by omega) ?_
      refine SXL.nil ⟨rfl, rfl, rfl, ?_⟩
      refine SXA.takeM 25 1 rfl (by kernel_rfl) rfl ?_
      refine SXL.fieldAddr fp_156_1 rfl ?_
      refine SXL.nil ⟨rfl, rfl, rfl, ?_⟩
      refine SXA.all [24] (by kernel_rfl) rfl ⟨⟨?_, rfl⟩, trivial⟩
      refine (show SXL _ _ [_] _ _ from ?_)
      refine SXL.store 1 sz_3 rfl rfl rfl rfl rfl (ints_put (i := s.book[i].wk.toNat) (by omega) (by simp only [hM.len]; omega)) ?_
      refine SXL.nil (stepQ.mkL _ (by kernel_rfl) rfl rfl ?_)
      refine SXA.takeM 26 1 rfl (by kernel_rfl) rfl ?_
      refine SXL.indexA el_154 rfl rfl (by omega) ?_
      refine SXL.nil ⟨rfl, rfl, rfl, ?_⟩
      refine SXA.all [27] (by kernel_rfl) rfl ⟨⟨?_, rfl⟩, trivial⟩
      refine (show SXL _ _ [_] _ _ from ?_)
      refine SXL.store 1 sz_3 rfl rfl rfl rfl rfl (ints_put (i := 10 + s.book[i].wk.toNat) (by omega) (by simp only [List.length_set, hM.len]; omega)) ?_
      refine SXL.nil (stepQ.mkL _ (by kernel_rfl) rfl rfl ?_)
      refine SXA.done (by kernel_rfl) ?_
      refine SXL.nil ?_
      refine blockQ.normal ?_
      refine thenQ.normal ?_
      refine SX.region ?_
      refine SXL.add rfl rfl (by omega) ?_
      refine SXL.move rfl ?_
      refine SXL.nil ?_
      refine thenQ.normal ?_
      refine ⟨i + 1, Meets.mk _ ⟨rfl, trivial⟩ ⟨rfl, rfl, rfl, rfl, rfl, rfl, rfl, trivial⟩ (by first | (rw [linesTo_yes rain hlt c27]; rfl) | (rw [linesTo_no rain hlt c27]; rfl)), (by omega), (by omega)⟩
    · refine SX.skip ?_
      refine blockQ.normal ?_
      refine thenQ.normal ?_
      refine SX.region ?_
      refine SXL.add rfl rfl (by omega) ?_
      refine SXL.move rfl ?_
      refine SXL.nil ?_
      refine thenQ.normal ?_
      refine ⟨i + 1, Meets.mk _ ⟨rfl, trivial⟩ ⟨rfl, rfl, rfl, rfl, rfl, rfl, rfl, trivial⟩ (by first | (rw [linesTo_yes rain hlt c27]; rfl) | (rw [linesTo_no rain hlt c27]; rfl)), (by omega), (by omega)⟩
  · refine SX.exit ?_
    refine thenQ.exit ?_
    refine thenQ.exit ?_
    refine blockQ.exit ?_
    refine thenQ.normal ?_
    refine SX.seq ?_
    refine SX.seq ?_
    obtain rfl : i = s.book.length := by omega
    refine SX.region ?_
    refine SXL.assign rfl ?_
    refine SXL.nil ?_
    refine thenQ.normal ?_
    refine SX.block ?_
    refine SX.loopG (α := Nat) [3, 4, 6, 7] rfl (fun j => [(10, .int .i64 ((j : Int) + 1))]) (fun j => [(1, (b1, .cells ⟨ints (fwdTo s.fall (linesTo s L rain s.book.length) j)⟩ 156 (0, 0)))]) (fun j => j ≤ s.weeks.toNat - 1) (fun j => s.weeks.toNat - 1 - j) 0 (Nat.zero_le _) ⟨rfl, trivial⟩ rfl ?_
    rintro j hj
    have hF := hM.fwd hH.2.2.1 j (by omega)
    have g1 := hF.2 j (by omega)
    refine SX.seq ?_
    refine SX.seq ?_
    refine SX.region ?_
    refine SXL.move rfl ?_
    refine SXL.fieldAddr fp_27_0 rfl ?_
    refine SXL.load1o 0 sh_3 rfl rfl rfl ?_
    refine SXL.lss rfl rfl ?_
    refine SXL.nil ?_
    refine thenQ.normal ?_
    refine SX.condP rfl (fun c58 => ?_) (fun c58 => ?_)
    · refine SX.skip ?_
      refine thenQ.normal ?_
      refine SX.seq ?_
      refine SX.block ?_
      have g2 := hF.2 (j + 1) (by omega)
      have g3 := hF.2 (10 + j) (by omega)
      have g4 := hF.2 (10 + (j + 1)) (by omega)
      refine SX.draw 31 (by kernel_rfl) (by kernel_rfl) ⟨[1, 15, 19, 20, 24, 25, 28, 29, 30], [true, false]⟩ ?_
      refine SXA.take 0 1 rfl (by kernel_rfl) rfl ?_
      refine SXL.move rfl ?_
      refine SXL.nil ⟨rfl, rfl, rfl, ?_⟩
      refine SXA.takeM 1 1 rfl (by kernel_rfl) rfl ?_
      refine SXL.move rfl ?_
      refine SXL.nil ⟨rfl, rfl, rfl, ?_⟩
      refine SXA.take 2 13 rfl (by kernel_rfl) rfl ?_
      refine SXL.move rfl ?_
      refine SXL.fieldAddr fp_156_0 rfl ?_
      refine SXL.indexA el_154 rfl rfl (by omega) ?_
      refine SXL.load1o 1 sh_3 rfl rfl (intsAtX (i := j + 1) (by omega) (by simp only [hF.len]; omega)) ?_
      refine SXL.move rfl ?_
      refine SXL.sub rfl rfl (by omega) ?_
      refine SXL.fieldAddr fp_156_0 rfl ?_
      refine SXL.indexA el_154 rfl rfl (by omega) ?_
      refine SXL.load1o 1 sh_3 rfl rfl (intsAtX (i := j) (by omega) (by simp only [hF.len]; omega)) ?_
      refine SXL.fieldAddr fp_27_2 rfl ?_
      refine SXL.load1o 0 sh_3 rfl rfl rfl ?_
      refine SXL.sub rfl rfl (by omega) ?_
      refine SXL.max rfl rfl ?_
      refine SXL.nil ⟨rfl, rfl, rfl, ?_⟩
      refine SXA.takeM 15 1 rfl (by kernel_rfl) rfl ?_
      refine SXL.move rfl ?_
      refine SXL.nil ⟨rfl, rfl, rfl, ?_⟩
      refine SXA.take 16 3 rfl (by kernel_rfl) rfl ?_
      refine SXL.fieldAddr fp_156_1 rfl ?_
      refine SXL.indexA el_154 rfl rfl (by omega) ?_
      refine SXL.load1o 1 sh_3 rfl rfl (intsAtX (i := 10 + (j + 1)) (by omega) (by simp only [hF.len]; omega)) ?_
      refine SXL.nil ⟨rfl, rfl, rfl, ?_⟩
      refine SXA.takeM 19 2 rfl (by kernel_rfl) rfl ?_
      refine SXL.move rfl ?_
      refine SXL.sub rfl rfl (by omega) ?_
      refine SXL.nil ⟨rfl, rfl, rfl, ?_⟩
      refine SXA.take 21 3 rfl (by kernel_rfl) rfl ?_
      refine SXL.fieldAddr fp_156_1 rfl ?_
      refine SXL.indexA el_154 rfl rfl (by omega) ?_
      refine SXL.load1o 1 sh_3 rfl rfl (intsAtX (i := 10 + j) (by omega) (by simp only [hF.len]; omega)) ?_
      refine SXL.nil ⟨rfl, rfl, rfl, ?_⟩
      refine SXA.takeM 24 2 rfl (by kernel_rfl) rfl ?_
      refine SXL.min rfl rfl ?_
      refine SXL.fieldAddr fp_156_0 rfl ?_
      refine SXL.nil ⟨rfl, rfl, rfl, ?_⟩
      refine SXA.take 26 1 rfl (by kernel_rfl) rfl ?_
      refine SXL.indexA el_154 rfl rfl (by omega) ?_
      refine SXL.nil ⟨rfl, rfl, rfl, ?_⟩
      refine SXA.takeM 28 1 rfl (by kernel_rfl) rfl ?_
      refine SXL.fieldAddr fp_156_1 rfl ?_
      refine SXL.nil ⟨rfl, rfl, rfl, ?_⟩
      refine SXA.all [27] (by kernel_rfl) rfl ⟨⟨?_, rfl⟩, trivial⟩
      refine (show SXL _ _ [_] _ _ from ?_)
      refine SXL.store 1 sz_3 rfl rfl rfl rfl rfl (ints_put (i := j + 1) (by omega) (by simp only [hF.len]; omega)) ?_
      refine SXL.nil (stepQ.mkL _ (by kernel_rfl) rfl rfl ?_)
      refine SXA.takeM 29 1 rfl (by kernel_rfl) rfl ?_
      refine SXL.indexA el_154 rfl rfl (by omega) ?_
      refine SXL.nil ⟨rfl, rfl, rfl, ?_⟩
      refine SXA.all [30] (by kernel_rfl) rfl ⟨⟨?_, rfl⟩, trivial⟩
      refine (show SXL _ _ [_] _ _ from ?_)
      refine SXL.store 1 sz_3 rfl rfl rfl rfl rfl (ints_put (i := 10 + (j + 1)) (by omega) (by simp only [List.length_set, hF.len]; omega)) ?_
      refine SXL.nil (stepQ.mkL _ (by kernel_rfl) rfl rfl ?_)
      refine SXA.done (by kernel_rfl) ?_
      refine SXL.nil ?_
      refine blockQ.normal ?_
      refine thenQ.normal ?_
      refine SX.region ?_
      refine SXL.move rfl ?_
      refine SXL.add rfl rfl (by omega) ?_
      refine SXL.assign rfl ?_
      refine SXL.nil ?_
      refine thenQ.normal ?_
      refine ⟨j + 1, Meets.mk _ ⟨rfl, trivial⟩ ⟨rfl, rfl, rfl, rfl, trivial⟩ rfl, (by omega), (by omega)⟩
    · refine SX.exit ?_
      refine thenQ.exit ?_
      refine thenQ.exit ?_
      refine blockQ.exit ?_
      refine thenQ.normal ?_
      refine SX.seq ?_
      refine SX.seq ?_
      obtain rfl : j = s.weeks.toNat - 1 := by omega
      refine SX.region ?_
      refine SXL.fieldAddr fp_27_0 rfl ?_
      refine SXL.load1o 0 sh_3 rfl rfl rfl ?_
      refine SXL.sub rfl rfl (by omega) ?_
      refine SXL.assign rfl ?_
      refine SXL.nil ?_
      refine thenQ.normal ?_
      refine SX.block ?_
      refine SX.loopG (α := Nat) [3, 4, 6, 7] rfl (fun j => [(11, .int .i64 (s.weeks - 2 - (j : Int)))]) (fun j => [(1, (b1, .cells ⟨ints (bwdTo s.fall (s.weeks.toNat - 1) (fwdTo s.fall (linesTo s L rain s.book.length) (s.weeks.toNat - 1)) j)⟩ 156 (0, 0)))]) (fun j => j ≤ s.weeks.toNat - 1) (fun j => s.weeks.toNat - 1 - j) 0 (Nat.zero_le _) ⟨congrArg (fun z => some (Value.int .i64 z)) (show s.weeks - 2 = s.weeks - 2 - ((0 : Nat) : Int) by omega), trivial⟩ rfl ?_
      rintro j hj
      have hW := hF.bwd (n := s.weeks.toNat - 1) hH.2.2.1 (by omega) j (by omega)
      refine SX.seq ?_
      refine SX.seq ?_
      refine SX.region ?_
      refine SXL.move rfl ?_
      refine SXL.geq rfl rfl ?_
      refine SXL.nil ?_
      refine thenQ.normal ?_
      refine SX.condP rfl (fun c94 => ?_) (fun c94 => ?_)
      · refine SX.skip ?_
        refine thenQ.normal ?_
        refine SX.seq ?_
        refine SX.block ?_
        have hw8 : s.weeks.toNat - 1 - 1 - j ≤ 8 := by omega
        have g1 := hW.2 (s.weeks.toNat - 1 - 1 - j) (by omega)
        have g2 := hW.2 (s.weeks.toNat - 1 - 1 - j + 1) (by omega)
        have g3 := hW.2 (10 + (s.weeks.toNat - 1 - 1 - j)) (by omega)
        have g4 := hW.2 (10 + (s.weeks.toNat - 1 - 1 - j + 1)) (by omega)
        refine SX.draw 31 (by kernel_rfl) (by kernel_rfl) ⟨[1, 12, 16, 17, 21, 22, 23, 24, 25, 28, 29, 30], [true, false]⟩ ?_
        refine SXA.take 0 1 rfl (by kernel_rfl) rfl ?_
        refine SXL.move rfl ?_
        refine SXL.nil ⟨rfl, rfl, rfl, ?_⟩
        refine SXA.takeM 1 1 rfl (by kernel_rfl) rfl ?_
        refine SXL.move rfl ?_
        refine SXL.nil ⟨rfl, rfl, rfl, ?_⟩
        refine SXA.take 2 10 rfl (by kernel_rfl) rfl ?_
        refine SXL.move rfl ?_
        refine SXL.fieldAddr fp_156_0 rfl ?_
        refine SXL.indexA el_154 rfl rfl (by omega) ?_
        refine SXL.load1o 1 sh_3 rfl rfl (intsAtX (i := s.weeks.toNat - 1 - 1 - j) (by omega) (by simp only [hW.len]; omega)) ?_
        refine SXL.move rfl ?_
        refine SXL.add rfl rfl (by omega) ?_
        refine SXL.fieldAddr fp_156_0 rfl ?_
        refine SXL.indexA el_154 rfl rfl (by omega) ?_
        refine SXL.load1o 1 sh_3 rfl rfl (intsAtX (i := s.weeks.toNat - 1 - 1 - j + 1) (by omega) (by simp only [hW.len]; omega)) ?_
        refine SXL.max rfl rfl ?_
        refine SXL.nil ⟨rfl, rfl, rfl, ?_⟩
        refine SXA.takeM 12 1 rfl (by kernel_rfl) rfl ?_
        refine SXL.move rfl ?_
        refine SXL.nil ⟨rfl, rfl, rfl, ?_⟩
        refine SXA.take 13 3 rfl (by kernel_rfl) rfl ?_
        refine SXL.fieldAddr fp_156_1 rfl ?_
        refine SXL.indexA el_154 rfl rfl (by omega) ?_
        refine SXL.load1o 1 sh_3 rfl rfl (intsAtX (i := 10 + (s.weeks.toNat - 1 - 1 - j)) (by omega) (by simp only [hW.len]; omega)) ?_
        refine SXL.nil ⟨rfl, rfl, rfl, ?_⟩
        refine SXA.takeM 16 2 rfl (by kernel_rfl) rfl ?_
        refine SXL.move rfl ?_
        refine SXL.add rfl rfl (by omega) ?_
        refine SXL.nil ⟨rfl, rfl, rfl, ?_⟩
        refine SXA.take 18 3 rfl (by kernel_rfl) rfl ?_
        refine SXL.fieldAddr fp_156_1 rfl ?_
        refine SXL.indexA el_154 rfl rfl (by omega) ?_
        refine SXL.load1o 1 sh_3 rfl rfl (intsAtX (i := 10 + (s.weeks.toNat - 1 - 1 - j + 1)) (by omega) (by simp only [hW.len]; omega)) ?_
        refine SXL.nil ⟨rfl, rfl, rfl, ?_⟩
        refine SXA.takeM 21 5 rfl (by kernel_rfl) rfl ?_
        refine SXL.fieldAddr fp_27_2 rfl ?_
        refine SXL.load1o 0 sh_3 rfl rfl rfl ?_
        refine SXL.add rfl rfl (by omega) ?_
        refine SXL.min rfl rfl ?_
        refine SXL.fieldAddr fp_156_0 rfl ?_
        refine SXL.nil ⟨rfl, rfl, rfl, ?_⟩
        refine SXA.take 26 1 rfl (by kernel_rfl) rfl ?_
        refine SXL.indexA el_154 rfl rfl (by omega) ?_
        refine SXL.nil ⟨rfl, rfl, rfl, ?_⟩
        refine SXA.takeM 28 1 rfl (by kernel_rfl) rfl ?_
        refine SXL.fieldAddr fp_156_1 rfl ?_
        refine SXL.nil ⟨rfl, rfl, rfl, ?_⟩
        refine SXA.all [27] (by kernel_rfl) rfl ⟨⟨?_, rfl⟩, trivial⟩
        refine (show SXL _ _ [_] _ _ from ?_)
        refine SXL.store 1 sz_3 rfl rfl rfl rfl rfl (ints_put (i := s.weeks.toNat - 1 - 1 - j) (by omega) (by simp only [hW.len]; omega)) ?_
        refine SXL.nil (stepQ.mkL _ (by kernel_rfl) rfl rfl ?_)
        refine SXA.takeM 29 1 rfl (by kernel_rfl) rfl ?_
        refine SXL.indexA el_154 rfl rfl (by omega) ?_
        refine SXL.nil ⟨rfl, rfl, rfl, ?_⟩
        refine SXA.all [30] (by kernel_rfl) rfl ⟨⟨?_, rfl⟩, trivial⟩
        refine (show SXL _ _ [_] _ _ from ?_)
        refine SXL.store 1 sz_3 rfl rfl rfl rfl rfl (ints_put (i := 10 + (s.weeks.toNat - 1 - 1 - j)) (by omega) (by simp only [List.length_set, hW.len]; omega)) ?_
        refine SXL.nil (stepQ.mkL _ (by kernel_rfl) rfl rfl ?_)
        refine SXA.done (by kernel_rfl) ?_
        refine SXL.nil ?_
        refine blockQ.normal ?_
        refine thenQ.normal ?_
        refine SX.region ?_
        refine SXL.move rfl ?_
        refine SXL.sub rfl rfl (by omega) ?_
        refine SXL.assign rfl ?_
        refine SXL.nil ?_
        refine thenQ.normal ?_
        refine ⟨j + 1, Meets.mk _ ⟨congrArg (fun z => some (Value.int .i64 z)) (show s.weeks - 2 - (j : Int) - 1 = s.weeks - 2 - ((j + 1 : Nat) : Int) by omega), trivial⟩ ⟨rfl, rfl, rfl, rfl, trivial⟩ rfl, (by omega), (by omega)⟩
      · refine SX.exit ?_
        refine thenQ.exit ?_
        refine thenQ.exit ?_
        refine blockQ.exit ?_
        refine thenQ.normal ?_
        refine SX.seq ?_
        refine SX.seq ?_
        obtain rfl : j = s.weeks.toNat - 1 := by omega
        refine SX.region ?_
        refine SXL.assign rfl ?_
        refine SXL.nil ?_
        refine thenQ.normal ?_
        refine SX.block ?_
        refine SX.loopG (α := Nat) [3, 4, 6, 7] rfl (fun i => [(12, .int .i64 (i : Int))]) (fun i => []) (fun i => i ≤ s.weeks.toNat ∧ ∀ w, w < i → G (lvL s L rain) w ≤ G (lvL s L rain) (10 + w)) (fun i => s.weeks.toNat - i) 0 ⟨Nat.zero_le _, fun _ h => absurd h (Nat.not_lt_zero _)⟩ ⟨rfl, trivial⟩ rfl ?_
        rintro i ⟨hi2, hall⟩
        refine SX.seq ?_
        refine SX.seq ?_
        refine SX.region ?_
        refine SXL.move rfl ?_
        refine SXL.fieldAddr fp_27_0 rfl ?_
        refine SXL.load1o 0 sh_3 rfl rfl rfl ?_
        refine SXL.lss rfl rfl ?_
        refine SXL.nil ?_
        refine thenQ.normal ?_
        refine SX.condP rfl (fun c129 => ?_) (fun c129 => ?_)
        · refine SX.skip ?_
          refine thenQ.normal ?_
          refine SX.seq ?_
          refine SX.block ?_
          refine SX.seq ?_
          refine SX.draw 9 (by kernel_rfl) (by kernel_rfl) {} ?_
          refine SXA.take 0 9 rfl (by kernel_rfl) rfl ?_
          refine SXL.move rfl ?_
          refine SXL.fieldAddr fp_156_0 rfl ?_
          refine SXL.indexA el_154 rfl rfl (by omega) ?_
          refine SXL.load1o 1 sh_3 rfl rfl (intsAtX (i := i) (by omega) (by simp only [hW.len]; omega)) ?_
          refine SXL.move rfl ?_
          refine SXL.fieldAddr fp_156_1 rfl ?_
          refine SXL.indexA el_154 rfl rfl (by omega) ?_
          refine SXL.load1o 1 sh_3 rfl rfl (intsAtX (i := 10 + i) (by omega) (by simp only [hW.len]; omega)) ?_
          refine SXL.gtr rfl rfl ?_
          refine SXL.nil ⟨rfl, rfl, rfl, ?_⟩
          refine SXA.done (by kernel_rfl) ?_
          refine SXL.nil ?_
          refine thenQ.normal ?_
          refine SX.condP rfl (fun c140 => ?_) (fun c140 => ?_)
          · refine SX.seq ?_
            refine SX.region ?_
            refine SXL.loadNo 1 sh_156 rfl rfl (takeAt_full (by simp only [length_ints, hW.len])) ?_
            refine SXL.store 2 sz_156 rfl rfl rfl rfl (by simp only [length_ints, hW.len]) (putAt_all _ _ (by simp only [length_ints, hW.len]; rfl)) ?_ (ints_isOne _)
            refine SXL.assign rfl ?_
            refine SXL.nil ?_
            refine thenQ.normal ?_
            refine SX.ret ?_
            refine blockQ.ret ?_
            refine thenQ.ret ?_
            refine thenQ.ret ?_
            refine blockQ.ret ?_
            refine thenQ.ret ?_
            refine retQ.two (ResAt.cellNo 2 sh_156 rfl rfl (takeAt_full (by simp only [length_ints, hW.len]))) (ResAt.tmp rfl) ?_
            rw [decide_eq_false (p := lvB s L rain) (fun h => absurd (h i (by omega)) (Int.not_le.2 c140))]; rfl
          · refine SX.skip ?_
            refine blockQ.normal ?_
            refine thenQ.normal ?_
            refine SX.region ?_
            refine SXL.move rfl ?_
            refine SXL.add rfl rfl (by omega) ?_
            refine SXL.assign rfl ?_
            refine SXL.nil ?_
            refine thenQ.normal ?_
            refine ⟨i + 1, Meets.mk _ ⟨rfl, trivial⟩ ⟨rfl, rfl, rfl, rfl, trivial⟩ rfl, ?_, (by omega)⟩
            refine ⟨by omega, fun w hw => ?_⟩
            by_cases e : w = i
            · subst e; exact Int.not_lt.1 c140
            · exact hall w (by omega)
        · refine SX.exit ?_
          refine thenQ.exit ?_
          refine thenQ.exit ?_
          refine blockQ.exit ?_
          refine thenQ.normal ?_
          refine SX.seq ?_
          refine SX.region ?_
          refine SXL.loadNo 1 sh_156 rfl rfl (takeAt_full (by simp only [length_ints, hW.len])) ?_
          refine SXL.store 2 sz_156 rfl rfl rfl rfl (by simp only [length_ints, hW.len]) (putAt_all _ _ (by simp only [length_ints, hW.len]; rfl)) ?_ (ints_isOne _)
          refine SXL.assign rfl ?_
          refine SXL.nil ?_
          refine thenQ.normal ?_
          refine SX.ret ?_
          refine retQ.two (ResAt.cellNo 2 sh_156 rfl rfl (takeAt_full (by simp only [length_ints, hW.len]))) (ResAt.tmp rfl) ?_
          rw [decide_eq_true (p := lvB s L rain) (fun w hw => hall w (by omega))]; rfl
end Go.Proofs.YtknflipongbngaaDoor

/- The walks of functions. -/
namespace Go.Proofs.YtknflipongbngaaDoor
open Go.X Go.S
theorem rained_any (s : Sp) (bo ro : Option Addr) (bc rc : Nat) (L : List Int) (hL : Bd L) (hv : SpP s) (w : World) (hs : SpAt w s bo ro) :
    CallsR Tryd.prog 129 [.agg ⟨[.int .i64 s.weeks, .int .i64 s.most, .int .i64 s.fall, .int .i64 s.a0, .int .i64 s.a1, .int .i64 s.w0, .int .i64 s.w1, (.slice bo s.book.length bc), (.slice ro s.reads.length rc)]⟩, .agg ⟨ints L⟩] w (RnR (rnsL s L) (lvsL s L (rnsL s L))) := by
  have hH := hv.1
  unfold HeadP at hH
  refine CallsR.of_SX (n := 39) (rs := [.tmp 4, .tmp 5]) Tryd.func129 rfl rfl rfl rfl ?_
  show SX _ _ _ ⟨[(0, .agg ⟨[.int .i64 s.weeks, .int .i64 s.most, .int .i64 s.fall, .int .i64 s.a0, .int .i64 s.a1, .int .i64 s.w0, .int .i64 s.w1, (.slice bo s.book.length bc), (.slice ro s.reads.length rc)]⟩), (1, .agg ⟨ints L⟩)], [], []⟩
  refine SX.seq ?_
  refine SX.region ?_
  refine SXL.box rfl rfl ?_; intro b0
  refine SXL.box rfl rfl ?_; intro b1
  refine SXL.assign rfl ?_
  refine SXL.assign rfl ?_
  refine SXL.nil ?_
  refine thenQ.normal ?_
  refine SX.seq ?_
  refine SX.region ?_
  refine SXL.assign rfl ?_
  refine SXL.nil ?_
  refine thenQ.normal ?_
  refine SX.seq ?_
  refine SX.region ?_
  refine SXL.assign rfl ?_
  refine SXL.nil ?_
  refine thenQ.normal ?_
  refine SX.seq ?_
  refine SX.seq ?_
  refine SX.pad (Sl.nil.ent 3 []) rfl ?_
  refine SX.pad (Sl.nil.ent 156 []) rfl ?_
  refine SX.region ?_
  refine SXL.fieldAddr fp_27_4 rfl ?_
  refine SXL.fieldAddr fp_23_0 rfl ?_
  refine SXL.load1o 0 sh_3 rfl rfl rfl ?_
  refine SXL.assign rfl ?_
  refine SXL.nil ?_
  refine thenQ.normal ?_
  refine SX.block ?_
  refine SX.loopG (α := Nat × Sl × Sl × Nat × Nat × List Value × List Value) [2, 3, 4, 5] rfl (fun ⟨k, r1, r2, n1, n2, c1, c2⟩ => [(8, .int .i64 (s.w0 + (k : Int))), (6, r1.val n1), (7, r2.val n2)]) (fun ⟨k, r1, r2, n1, n2, c1, c2⟩ => [(2, r1.ent 3 c1), (3, r2.ent 156 c2)]) (fun ⟨k, r1, r2, n1, n2, c1, c2⟩ => k ≤ rnN s ∧ r1.Ok n1 1 c1 ∧ c1 = ints (rnsTo s L k) ∧ r2.Ok n2 20 c2 ∧ c2 = (rowsI (lvsL s L (rnsTo s L k))).flatten ∧ n2 = n1) (fun ⟨k, r1, r2, n1, n2, c1, c2⟩ => rnN s - k) (0, Sl.nil, Sl.nil, 0, 0, [], []) ⟨Nat.zero_le _, .none _, rfl, .none _, rfl, rfl⟩ ⟨congrArg (fun z => some (Value.int .i64 z)) (show s.w0 = s.w0 + ((0 : Nat) : Int) by omega), rfl, rfl, trivial⟩ rfl ?_
  rintro ⟨k, r1, r2, n1, n2, c1, c2⟩ ⟨hk, ho1, rfl, ho2, rfl, rfl⟩
  have hlen := rnsTo_len s L k
  have hn1 := Ok.n ho1
  have hN : rnN s = (s.w1 + 1 - s.w0).toNat := rfl
  have hLv := Bd.lv hL hv (s.w0 + (k : Int))
  refine SX.seq ?_
  refine SX.seq ?_
  refine SX.region ?_
  refine SXL.move rfl ?_
  refine SXL.fieldAddr fp_27_4 rfl ?_
  refine SXL.fieldAddr fp_23_1 rfl ?_
  refine SXL.load1o 0 sh_3 rfl rfl rfl ?_
  refine SXL.leq rfl rfl ?_
  refine SXL.nil ?_
  refine thenQ.normal ?_
  refine SX.condP rfl (fun c18 => ?_) (fun c18 => ?_)
  · refine SX.skip ?_
    refine thenQ.normal ?_
    refine SX.seq ?_
    refine SX.block ?_
    refine SX.seq ?_
    refine SX.region ?_
    refine SXL.loadNo 0 sh_27 rfl rfl rfl ?_
    refine SXL.loadNo 1 sh_156 rfl rfl (takeAt_full (by simp only [length_ints, hL.len])) ?_
    refine SXL.move rfl ?_
    refine SXL.call1 (.tuple ⟨[.agg ⟨ints (lvL s L (s.w0 + (k : Int)))⟩, .bool (decide (lvB s L (s.w0 + (k : Int))))]⟩) fn_133 rfl (fun w hI => leaves_any s bo ro _ _ L hL _ hv _ (hs.inv hI)) ?_
    refine SXL.move rfl ?_
    refine SXL.extract rfl rfl ?_
    refine SXL.extract rfl rfl ?_
    refine SXL.alloc zp_156 ?_; intro b4
    refine SXL.store 4 sz_156 rfl rfl rfl rfl (by simp only [length_ints, hLv.len]) (putAt_all _ _ (by simp only [length_ints, hLv.len]; rfl)) ?_ (ints_isOne _)
    refine SXL.assign rfl ?_
    refine SXL.nil ?_
    refine thenQ.normal ?_
    refine SX.seq ?_
    refine SX.region ?_
    refine SXL.move rfl ?_
    refine SXL.nil ?_
    refine thenQ.normal ?_
    refine SX.condP rfl (fun c28 => ?_) (fun c28 => ?_)
    · refine SX.draw 10 (by kernel_rfl) (by kernel_rfl) ⟨[0, 1, 2, 4, 5, 6, 7, 8, 9], [true, true, false, false]⟩ ?_
      refine SXA.takeM 0 2 rfl (by kernel_rfl) rfl ?_
      refine SXL.move rfl ?_
      refine SXL.move rfl ?_
      refine SXL.nil ⟨rfl, rfl, rfl, ?_⟩
      refine SXA.takeM 4 2 rfl (by kernel_rfl) rfl ?_
      refine SXL.move rfl ?_
      refine SXL.loadNo 2 sh_156 rfl rfl (takeAt_full (by simp only [length_ints, hLv.len])) ?_
      refine SXL.nil ⟨rfl, rfl, rfl, ?_⟩
      refine SXA.all [2, 6] (by kernel_rfl) rfl ⟨⟨?_, rfl⟩, ⟨?_, rfl⟩, trivial⟩
      · refine (show SXL _ _ [_] _ _ from ?_)
        refine SXL.buildSlice et_35 zp_3 rfl rfl rfl rfl ?_; intro b5
        refine SXL.nil (stepQ.mk _ rfl rfl ?_)
        refine SXA.all [3, 6] (by kernel_rfl) rfl ⟨⟨?_, rfl⟩, ⟨?_, rfl⟩, trivial⟩
        · refine (show SXL _ _ [_] _ _ from ?_)
          refine SXL.append 2 ap_35 rfl rfl ho1 rfl (.inr ⟨_, _, rfl, Mem.own (i := 5) rfl (takeAt_all _)⟩) rfl rfl ⟨by simp only [maxLen]; omega, by omega⟩ ?_; intro r_32 o_32
          refine SXL.nil (stepQ.mkL _ (by kernel_rfl) rfl rfl ?_)
          refine SXA.all [6] (by kernel_rfl) rfl ⟨⟨?_, rfl⟩, trivial⟩
          refine (show SXL _ _ [_] _ _ from ?_)
          refine SXL.buildSlice et_125 zp_156 rfl rfl rfl (bld_one rfl (by simp only [length_ints, hLv.len])) ?_; intro b6
          refine SXL.nil (stepQ.mk _ rfl rfl ?_)
          refine SXA.all [7] (by kernel_rfl) rfl ⟨⟨?_, rfl⟩, trivial⟩
          refine (show SXL _ _ [_] _ _ from ?_)
          refine SXL.append 3 ap_125 rfl rfl ho2 rfl (.inr ⟨_, _, rfl, Mem.own (i := 6) rfl (takeAt_all _)⟩) (by simp only [length_ints, hLv.len]) (ints_isOne _) ⟨by simp only [maxLen]; omega, by omega⟩ ?_; intro r_36 o_36
          refine SXL.nil (stepQ.mkL _ (by kernel_rfl) rfl rfl ?_)
          refine SXA.takeM 8 2 rfl (by kernel_rfl) rfl ?_
          refine SXL.assign rfl ?_
          refine SXL.assign rfl ?_
          refine SXL.nil ⟨rfl, rfl, rfl, ?_⟩
          refine SXA.done (by kernel_rfl) ?_
          refine SXL.nil ?_
          refine blockQ.normal ?_
          refine thenQ.normal ?_
          refine SX.region ?_
          refine SXL.move rfl ?_
          refine SXL.add rfl rfl (by omega) ?_
          refine SXL.assign rfl ?_
          refine SXL.nil ?_
          refine thenQ.normal ?_
          refine ⟨(k + 1, _, _, _, _, _, _), Meets.mk _ ⟨congrArg (fun z => some (Value.int .i64 z)) (show s.w0 + (k : Int) + 1 = s.w0 + ((k + 1 : Nat) : Int) by omega), rfl, rfl, trivial⟩ ⟨rfl, rfl, rfl, rfl, trivial⟩ rfl, ?_, ?_⟩
          · refine ⟨by omega, ?_⟩
            first
              | exact ⟨o_32, by rw [rnsTo_yes c28]; simp [ints_snoc], o_36, by rw [rnsTo_yes c28]; simp [rowsI, lvsL], rfl⟩
              | exact ⟨ho1, by rw [rnsTo_no c28], ho2, by rw [rnsTo_no c28], rfl⟩
          · show rnN s - (k + 1) < rnN s - k; omega
        · refine (show SXL _ _ [_] _ _ from ?_)
          refine SXL.buildSlice et_125 zp_156 rfl rfl rfl (bld_one rfl (by simp only [length_ints, hLv.len])) ?_; intro b6
          refine SXL.nil (stepQ.mk _ rfl rfl ?_)
          refine SXA.all [3] (by kernel_rfl) rfl ⟨⟨?_, rfl⟩, trivial⟩
          refine (show SXL _ _ [_] _ _ from ?_)
          refine SXL.append 2 ap_35 rfl rfl ho1 rfl (.inr ⟨_, _, rfl, Mem.own (i := 5) rfl (takeAt_all _)⟩) rfl rfl ⟨by simp only [maxLen]; omega, by omega⟩ ?_; intro r_32 o_32
          refine SXL.nil (stepQ.mkL _ (by kernel_rfl) rfl rfl ?_)
          refine SXA.all [7] (by kernel_rfl) rfl ⟨⟨?_, rfl⟩, trivial⟩
          refine (show SXL _ _ [_] _ _ from ?_)
          refine SXL.append 3 ap_125 rfl rfl ho2 rfl (.inr ⟨_, _, rfl, Mem.own (i := 6) rfl (takeAt_all _)⟩) (by simp only [length_ints, hLv.len]) (ints_isOne _) ⟨by simp only [maxLen]; omega, by omega⟩ ?_; intro r_36 o_36
          refine SXL.nil (stepQ.mkL _ (by kernel_rfl) rfl rfl ?_)
          refine SXA.takeM 8 2 rfl (by kernel_rfl) rfl ?_
          refine SXL.assign rfl ?_
          refine SXL.assign rfl ?_
          refine SXL.nil ⟨rfl, rfl, rfl, ?_⟩
          refine SXA.done (by kernel_rfl) ?_
          refine SXL.nil ?_
          refine blockQ.normal ?_
          refine thenQ.normal ?_
          refine SX.region ?_
          refine SXL.move rfl ?_
          refine SXL.add rfl rfl (by omega) ?_
          refine SXL.assign rfl ?_
          refine SXL.nil ?_
          refine thenQ.normal ?_
          refine ⟨(k + 1, _, _, _, _, _, _), Meets.mk _ ⟨congrArg (fun z => some (Value.int .i64 z)) (show s.w0 + (k : Int) + 1 = s.w0 + ((k + 1 : Nat) : Int) by omega), rfl, rfl, trivial⟩ ⟨rfl, rfl, rfl, rfl, trivial⟩ rfl, ?_, ?_⟩
          · refine ⟨by omega, ?_⟩
            first
              | exact ⟨o_32, by rw [rnsTo_yes c28]; simp [ints_snoc], o_36, by rw [rnsTo_yes c28]; simp [rowsI, lvsL], rfl⟩
              | exact ⟨ho1, by rw [rnsTo_no c28], ho2, by rw [rnsTo_no c28], rfl⟩
          · show rnN s - (k + 1) < rnN s - k; omega
      · refine (show SXL _ _ [_] _ _ from ?_)
        refine SXL.buildSlice et_125 zp_156 rfl rfl rfl (bld_one rfl (by simp only [length_ints, hLv.len])) ?_; intro b5
        refine SXL.nil (stepQ.mk _ rfl rfl ?_)
        refine SXA.all [2] (by kernel_rfl) rfl ⟨⟨?_, rfl⟩, trivial⟩
        refine (show SXL _ _ [_] _ _ from ?_)
        refine SXL.buildSlice et_35 zp_3 rfl rfl rfl rfl ?_; intro b6
        refine SXL.nil (stepQ.mk _ rfl rfl ?_)
        refine SXA.all [3] (by kernel_rfl) rfl ⟨⟨?_, rfl⟩, trivial⟩
        refine (show SXL _ _ [_] _ _ from ?_)
        refine SXL.append 2 ap_35 rfl rfl ho1 rfl (.inr ⟨_, _, rfl, Mem.own (i := 6) rfl (takeAt_all _)⟩) rfl rfl ⟨by simp only [maxLen]; omega, by omega⟩ ?_; intro r_32 o_32
        refine SXL.nil (stepQ.mkL _ (by kernel_rfl) rfl rfl ?_)
        refine SXA.all [7] (by kernel_rfl) rfl ⟨⟨?_, rfl⟩, trivial⟩
        refine (show SXL _ _ [_] _ _ from ?_)
        refine SXL.append 3 ap_125 rfl rfl ho2 rfl (.inr ⟨_, _, rfl, Mem.own (i := 5) rfl (takeAt_all _)⟩) (by simp only [length_ints, hLv.len]) (ints_isOne _) ⟨by simp only [maxLen]; omega, by omega⟩ ?_; intro r_36 o_36
        refine SXL.nil (stepQ.mkL _ (by kernel_rfl) rfl rfl ?_)
        refine SXA.takeM 8 2 rfl (by kernel_rfl) rfl ?_
        refine SXL.assign rfl ?_
        refine SXL.assign rfl ?_
        refine SXL.nil ⟨rfl, rfl, rfl, ?_⟩
        refine SXA.done (by kernel_rfl) ?_
        refine SXL.nil ?_
        refine blockQ.normal ?_
        refine thenQ.normal ?_
        refine SX.region ?_
        refine SXL.move rfl ?_
        refine SXL.add rfl rfl (by omega) ?_
        refine SXL.assign rfl ?_
        refine SXL.nil ?_
        refine thenQ.normal ?_
        refine ⟨(k + 1, _, _, _, _, _, _), Meets.mk _ ⟨congrArg (fun z => some (Value.int .i64 z)) (show s.w0 + (k : Int) + 1 = s.w0 + ((k + 1 : Nat) : Int) by omega), rfl, rfl, trivial⟩ ⟨rfl, rfl, rfl, rfl, trivial⟩ rfl, ?_, ?_⟩
        · refine ⟨by omega, ?_⟩
          first
            | exact ⟨o_32, by rw [rnsTo_yes c28]; simp [ints_snoc], o_36, by rw [rnsTo_yes c28]; simp [rowsI, lvsL], rfl⟩
            | exact ⟨ho1, by rw [rnsTo_no c28], ho2, by rw [rnsTo_no c28], rfl⟩
        · show rnN s - (k + 1) < rnN s - k; omega
    · refine SX.skip ?_
      refine blockQ.normal ?_
      refine thenQ.normal ?_
      refine SX.region ?_
      refine SXL.move rfl ?_
      refine SXL.add rfl rfl (by omega) ?_
      refine SXL.assign rfl ?_
      refine SXL.nil ?_
      refine thenQ.normal ?_
      refine ⟨(k + 1, _, _, _, _, _, _), Meets.mk _ ⟨congrArg (fun z => some (Value.int .i64 z)) (show s.w0 + (k : Int) + 1 = s.w0 + ((k + 1 : Nat) : Int) by omega), rfl, rfl, trivial⟩ ⟨rfl, rfl, rfl, rfl, trivial⟩ rfl, ?_, ?_⟩
      · refine ⟨by omega, ?_⟩
        first
          | exact ⟨o_32, by rw [rnsTo_yes c28]; simp [ints_snoc], o_36, by rw [rnsTo_yes c28]; simp [rowsI, lvsL], rfl⟩
          | exact ⟨ho1, by rw [rnsTo_no c28], ho2, by rw [rnsTo_no c28], rfl⟩
      · show rnN s - (k + 1) < rnN s - k; omega
  · refine SX.exit ?_
    refine thenQ.exit ?_
    refine thenQ.exit ?_
    refine blockQ.exit ?_
    refine thenQ.normal ?_
    refine SX.seq ?_
    have hkN : k = rnN s := by omega
    subst hkN
    refine SX.region ?_
    refine SXL.move rfl ?_
    refine SXL.move rfl ?_
    refine SXL.assign rfl ?_
    refine SXL.assign rfl ?_
    refine SXL.nil ?_
    refine thenQ.normal ?_
    refine SX.ret ?_
    refine retQ.sel [2, 3] rfl rfl ?_
    refine retQ.two (ResAt.tmp rfl) (ResAt.tmp rfl) ?_
    refine ⟨r1, r2, ?_⟩; have e2 := Ok.n ho1; subst e2; exact ⟨ho1, by simpa [lvsL, rnsL] using ho2, by simp [lvsL, rnsL], rfl⟩
end Go.Proofs.YtknflipongbngaaDoor

/- The walks of functions. -/
namespace Go.Proofs.YtknflipongbngaaDoor
open Go.X Go.S
theorem rains_any (s : Sp) (bo ro : Option Addr) (bc rc : Nat) (hv : SpP s) (w : World) (hs : SpAt w s bo ro) :
    CallsR Tryd.prog 111 [.agg ⟨[.int .i64 s.weeks, .int .i64 s.most, .int .i64 s.fall, .int .i64 s.a0, .int .i64 s.a1, .int .i64 s.w0, .int .i64 s.w1, (.slice bo s.book.length bc), (.slice ro s.reads.length rc)]⟩] w (RnR (rnsL s (baseL s)) (lvsL s (baseL s) (rnsL s (baseL s)))) := by
  refine CallsR.of_SX (n := 10) (rs := [.tmp 2, .tmp 3]) Tryd.func111 rfl rfl rfl rfl ?_
  show SX _ _ _ ⟨[(0, .agg ⟨[.int .i64 s.weeks, .int .i64 s.most, .int .i64 s.fall, .int .i64 s.a0, .int .i64 s.a1, .int .i64 s.w0, .int .i64 s.w1, (.slice bo s.book.length bc), (.slice ro s.reads.length rc)]⟩)], [], []⟩
  refine SX.seq ?_
  refine SX.region ?_
  refine SXL.box rfl rfl ?_; intro b0
  refine SXL.assign rfl ?_
  refine SXL.assign rfl ?_
  refine SXL.nil ?_
  refine thenQ.normal ?_
  refine SX.seq ?_
  refine SX.draw 8 (by kernel_rfl) (by kernel_rfl) {} ?_
  refine SXA.take 0 3 rfl (by kernel_rfl) rfl ?_
  refine SXL.loadNo 0 sh_27 rfl rfl rfl ?_
  refine SXL.loadNo 0 sh_27 rfl rfl rfl ?_
  refine SXL.call1 (.agg ⟨ints (baseL s)⟩) fn_113 rfl (fun w hI => base_any s bo ro _ _ hv _ (hs.inv hI)) ?_
  refine SXL.nil ⟨rfl, rfl, rfl, ?_⟩
  refine SXA.all [3] (by kernel_rfl) rfl ⟨⟨?_, rfl⟩, trivial⟩
  refine (show SXL _ _ [_] _ _ from ?_)
  refine SXL.callF (RnR (rnsL s (baseL s)) (lvsL s (baseL s) (rnsL s (baseL s)))) fn_129 rfl (fun w hI => rained_any s bo ro _ _ _ (baseL_Bd hv) hv _ (hs.inv hI)) ?_; rintro _ _ ⟨r1, r2, o1, o2, rfl, rfl⟩
  refine SXL.nil (stepQ.mk _ rfl rfl ?_)
  refine SXA.take 4 4 rfl (by kernel_rfl) rfl ?_
  refine SXL.extract rfl rfl ?_
  refine SXL.extract rfl rfl ?_
  refine SXL.assign rfl ?_
  refine SXL.assign rfl ?_
  refine SXL.nil ⟨rfl, rfl, rfl, ?_⟩
  refine SXA.done (by kernel_rfl) ?_
  refine SXL.nil ?_
  refine thenQ.normal ?_
  refine SX.ret ?_
  refine retQ.sel [1, 2] rfl rfl ?_
  refine retQ.two (ResAt.tmp rfl) (ResAt.tmp rfl) ?_
  exact ⟨r1, r2, o1, o2, rfl, rfl⟩
theorem true_any (s : Sp) (bo ro : Option Addr) (bc rc : Nat) (hv : SpP s) (w : World) (hs : SpAt w s bo ro) :
    CallsR Tryd.prog 60 [.agg ⟨[.int .i64 s.weeks, .int .i64 s.most, .int .i64 s.fall, .int .i64 s.a0, .int .i64 s.a1, .int .i64 s.w0, .int .i64 s.w1, (.slice bo s.book.length bc), (.slice ro s.reads.length rc)]⟩] w (fun v _ => v = .bool (decide (TrueP s))) := by
  refine CallsR.of_SX (n := 13) (rs := [.tmp 2]) Tryd.func60 rfl rfl rfl rfl ?_
  show SX _ _ _ ⟨[(0, .agg ⟨[.int .i64 s.weeks, .int .i64 s.most, .int .i64 s.fall, .int .i64 s.a0, .int .i64 s.a1, .int .i64 s.w0, .int .i64 s.w1, (.slice bo s.book.length bc), (.slice ro s.reads.length rc)]⟩)], [], []⟩
  refine SX.seq ?_
  refine SX.region ?_
  refine SXL.box rfl rfl ?_; intro b0
  refine SXL.assign rfl ?_
  refine SXL.nil ?_
  refine thenQ.normal ?_
  refine SX.seq ?_
  refine SX.region ?_
  refine SXL.loadNo 0 sh_27 rfl rfl rfl ?_
  refine SXL.callF (RnR (rnsL s (baseL s)) (lvsL s (baseL s) (rnsL s (baseL s)))) fn_111 rfl (fun w hI => rains_any s bo ro _ _ hv _ (hs.inv hI)) ?_; rintro _ _ ⟨r1, r2, o1, o2, rfl, rfl⟩
  refine SXL.move rfl ?_
  refine SXL.extract rfl rfl ?_
  refine SXL.extract rfl rfl ?_
  refine SXL.assign rfl ?_
  refine SXL.assign rfl ?_
  refine SXL.nil ?_
  refine thenQ.normal ?_
  refine SX.seq ?_
  refine SX.region ?_
  refine SXL.move rfl ?_
  refine SXL.len is_35 rfl ?_
  refine SXL.gtr rfl rfl ?_
  refine SXL.assign rfl ?_
  refine SXL.nil ?_
  refine thenQ.normal ?_
  refine SX.ret ?_
  refine retQ.one (ResAt.tmp rfl) ?_
  exact congrArg Value.bool (decide_eq_decide.2 (len_pos_iff _))
end Go.Proofs.YtknflipongbngaaDoor

/- From week to week, and back: both ways of reckoning come to the same. Nothing of Go stands here. -/
namespace Go.S
open Go.X (G)
/-- What is given week by week, within bounds. -/
def Tr (n : Nat) (f : Int) (lo hi : Nat → Int) (t : Nat → Int) : Prop := ∀ w, w < n → lo w ≤ t w ∧ t w ≤ hi w ∧ (0 < w → t (w - 1) - f ≤ t w ∧ t w ≤ t (w - 1))
/-- All truths lie within. -/
def Wn (n : Nat) (f : Int) (lo hi lo' hi' : Nat → Int) : Prop := ∀ t, Tr n f lo hi t → ∀ w, w < n → lo' w ≤ t w ∧ t w ≤ hi' w
/-- The steps of the lower and the upper ends are right. -/
def Stp (n : Nat) (f : Int) (lo hi : Nat → Int) : Prop := ∀ w, w < n → 0 < w → (lo (w - 1) - f ≤ lo w ∧ lo w ≤ lo (w - 1)) ∧ (hi (w - 1) - f ≤ hi w ∧ hi w ≤ hi (w - 1))
theorem ends_true {n : Nat} {f : Int} {lo hi lo' hi' : Nat → Int} (hs : Stp n f lo' hi') (hsub : ∀ w, w < n → lo w ≤ lo' w ∧ hi' w ≤ hi w) (hne : ∀ w, w < n → lo' w ≤ hi' w) : Tr n f lo hi lo' ∧ Tr n f lo hi hi' := by
  constructor
  · intro w hw
    have h1 := hsub w hw; have h2 := hne w hw
    exact ⟨h1.1, by omega, fun h0 => (hs w hw h0).1⟩
  · intro w hw
    have h1 := hsub w hw; have h2 := hne w hw
    exact ⟨by omega, h1.2, fun h0 => (hs w hw h0).2⟩
/-- Two that hold all truths, and whose ends are truths, are the same. -/
theorem hull_unique {n : Nat} {f : Int} {lo hi l1 h1 l2 h2 : Nat → Int} (w1 : Wn n f lo hi l1 h1) (w2 : Wn n f lo hi l2 h2) (t1 : Tr n f lo hi l1 ∧ Tr n f lo hi h1) (t2 : Tr n f lo hi l2 ∧ Tr n f lo hi h2) : ∀ w, w < n → l1 w = l2 w ∧ h1 w = h2 w := by
  intro w hw
  have a := w1 _ t2.1 w hw; have b := w2 _ t1.1 w hw; have c := w1 _ t2.2 w hw; have d := w2 _ t1.2 w hw
  omega

/-! ### the reference: there and back -/
theorem setA_at {M : List Int} (hM : M.length = 20) {i j : Nat} (hi : i < 10) (hj : j < 10) (x y : Int) :
    G ((M.set i x).set (10 + i) y) j = (if i = j then x else G M j) ∧ G ((M.set i x).set (10 + i) y) (10 + j) = (if i = j then y else G M (10 + j)) := by
  constructor
  · rw [G_set (by simp; omega), if_neg (by omega), G_set (by omega)]
  · rw [G_set (by simp; omega)]
    by_cases h : i = j
    · rw [if_pos (by omega), if_pos h]
    · rw [if_neg (by omega), if_neg h, G_set (by omega), if_neg (by omega)]
structure FwdP (n : Nat) (f : Int) (L M : List Int) (j : Nat) : Prop where
  len : M.length = 20
  step : ∀ w, w ≤ j → 0 < w → G M (w - 1) - f ≤ G M w ∧ G M (10 + w) ≤ G M (10 + (w - 1))
  rest : ∀ w, w < 10 → j < w → G M w = G L w ∧ G M (10 + w) = G L (10 + w)
  sub : ∀ w, w < 10 → G L w ≤ G M w ∧ G M (10 + w) ≤ G L (10 + w)
  wn : Wn n f (fun w => G L w) (fun w => G L (10 + w)) (fun w => G M w) (fun w => G M (10 + w))
theorem fwd_ok {n : Nat} {f : Int} {L : List Int} (hL : L.length = 20) (hn : n ≤ 10) (hf : 0 ≤ f) : ∀ j, j + 1 ≤ n → FwdP n f L (fwdTo f L j) j
  | 0, _ => ⟨hL, fun w h h0 => by omega, fun w _ _ => ⟨rfl, rfl⟩, fun w _ => ⟨Int.le_refl _, Int.le_refl _⟩, fun t ht w hw => ⟨(ht w hw).1, (ht w hw).2.1⟩⟩
  | j + 1, hj => by
    have ih := fwd_ok hL hn hf j (by omega)
    have hs := fun (k : Nat) (hk : k < 10) => setA_at ih.len (i := j + 1) (j := k) (by omega) hk (max (G (fwdTo f L j) (j + 1)) (G (fwdTo f L j) j - f)) (min (G (fwdTo f L j) (10 + (j + 1))) (G (fwdTo f L j) (10 + j)))
    refine ⟨by simp [fwdTo, ih.len], fun w hw h0 => ?_, fun w h10 hw => ?_, fun w hw => ?_, fun t ht w hw => ?_⟩
    · simp only [fwdTo]
      have h1 := hs w (by omega); have h2 := hs (w - 1) (by omega)
      rw [h1.1, h1.2, h2.1, h2.2]
      by_cases e : j + 1 = w
      · subst e
        rw [if_pos rfl, if_pos rfl, if_neg (by omega), if_neg (by omega)]
        simp only [Nat.add_sub_cancel]
        omega
      · rw [if_neg e, if_neg e, if_neg (by omega), if_neg (by omega)]
        exact ih.step w (by omega) h0
    · simp only [fwdTo]
      have h1 := hs w h10
      rw [h1.1, h1.2, if_neg (by omega), if_neg (by omega)]
      exact ih.rest w h10 (by omega)
    · simp only [fwdTo]
      have h1 := hs w hw
      rw [h1.1, h1.2]
      have := ih.sub w hw
      by_cases e : j + 1 = w
      · subst e; rw [if_pos rfl, if_pos rfl]; omega
      · rw [if_neg e, if_neg e]; exact this
    · simp only [fwdTo]
      have h1 := hs w (by omega)
      rw [h1.1, h1.2]
      have := ih.wn t ht w hw
      by_cases e : j + 1 = w
      · subst e
        rw [if_pos rfl, if_pos rfl]
        have h2 := ih.wn t ht j (by omega)
        have h3 := (ht (j + 1) hw).2.2 (by omega)
        simp only [Nat.add_sub_cancel] at h3
        simp only at h2 this
        omega
      · rw [if_neg e, if_neg e]; exact this
/-- After j weeks back from n - 1. -/
structure BwdP (n : Nat) (f : Int) (L K M : List Int) (j : Nat) : Prop where
  len : M.length = 20
  done : ∀ w, w < n → 0 < w → n - 1 - j < w → (G M (w - 1) - f ≤ G M w ∧ G M w ≤ G M (w - 1)) ∧ (G M (10 + (w - 1)) - f ≤ G M (10 + w) ∧ G M (10 + w) ≤ G M (10 + (w - 1)))
  rest : ∀ w, w < 10 → (w + j + 1 < n ∨ n ≤ w ∨ w + 1 = n) → G M w = G K w ∧ G M (10 + w) = G K (10 + w)
  sub : ∀ w, w < 10 → G K w ≤ G M w ∧ G M (10 + w) ≤ G K (10 + w)
  wn : Wn n f (fun w => G L w) (fun w => G L (10 + w)) (fun w => G M w) (fun w => G M (10 + w))
theorem bwd_ok {n : Nat} {f : Int} {L K : List Int} (hn : n ≤ 10) (hn1 : 1 ≤ n) (hf : 0 ≤ f) (hK : FwdP n f L K (n - 1)) : ∀ j, j + 1 ≤ n → BwdP n f L K (bwdTo f (n - 1) K j) j
  | 0, _ => ⟨hK.len, fun w h h0 h1 => by omega, fun w _ _ => ⟨rfl, rfl⟩, fun w _ => ⟨Int.le_refl _, Int.le_refl _⟩, hK.wn⟩
  | j + 1, hj => by
    have ih := bwd_ok hn hn1 hf hK j (by omega)
    simp only [bwdTo, bwdAt]
    have he : n - 1 - 1 - j = n - 2 - j := by omega
    rw [he]
    have hs := fun (k : Nat) (hk : k < 10) => setA_at ih.len (i := n - 2 - j) (j := k) (by omega) hk (max (G (bwdTo f (n - 1) K j) (n - 2 - j)) (G (bwdTo f (n - 1) K j) (n - 2 - j + 1))) (min (G (bwdTo f (n - 1) K j) (10 + (n - 2 - j))) (G (bwdTo f (n - 1) K j) (10 + (n - 2 - j + 1)) + f))
    refine ⟨by simp [ih.len], fun w hw h0 h1 => ?_, fun w h10 hw => ?_, fun w hw => ?_, fun t ht w hw => ?_⟩
    · have a1 := hs w (by omega); have a2 := hs (w - 1) (by omega)
      rw [a1.1, a1.2, a2.1, a2.2]
      rw [if_neg (show ¬ n - 2 - j = w by omega), if_neg (show ¬ n - 2 - j = w by omega)]
      by_cases e : n - 2 - j = w - 1
      · rw [if_pos e, if_pos e]
        have e2 : n - 2 - j + 1 = w := by omega
        rw [e, show w - 1 + 1 = w by omega]
        have r1 := ih.rest (w - 1) (by omega) (by omega)
        have st := hK.step w (by omega) h0
        have sb := ih.sub w (by omega)
        rw [r1.1, r1.2]
        omega
      · rw [if_neg e, if_neg e]
        exact ih.done w hw h0 (by omega)
    · have a1 := hs w h10
      rw [a1.1, a1.2, if_neg (by omega), if_neg (by omega)]
      exact ih.rest w h10 (by omega)
    · have a1 := hs w hw
      rw [a1.1, a1.2]
      have := ih.sub w hw
      by_cases e : n - 2 - j = w
      · subst e; rw [if_pos rfl, if_pos rfl]; omega
      · rw [if_neg e, if_neg e]; exact this
    · have a1 := hs w (by omega)
      simp only
      rw [a1.1, a1.2]
      have := ih.wn t ht w hw
      by_cases e : n - 2 - j = w
      · subst e
        rw [if_pos rfl, if_pos rfl]
        have h2 := ih.wn t ht (n - 2 - j + 1) (by omega)
        have h3 := (ht (n - 2 - j + 1) (by omega)).2.2 (by omega)
        simp only [Nat.add_sub_cancel] at h3
        simp only at h2 this
        omega
      · rw [if_neg e, if_neg e]; exact this
/-- What the reference comes to, of what lines and readings leave (C). -/
structure RefP (n : Nat) (f : Int) (C X : List Int) : Prop where
  len : X.length = 20
  stp : Stp n f (fun w => G X w) (fun w => G X (10 + w))
  sub : ∀ w, w < 10 → G C w ≤ G X w ∧ G X (10 + w) ≤ G C (10 + w)
  rest : ∀ w, w < 10 → n ≤ w → G X w = G C w ∧ G X (10 + w) = G C (10 + w)
  wn : Wn n f (fun w => G C w) (fun w => G C (10 + w)) (fun w => G X w) (fun w => G X (10 + w))
theorem ref_ok {n : Nat} {f : Int} {C : List Int} (hC : C.length = 20) (hn : n ≤ 10) (hn1 : 1 ≤ n) (hf : 0 ≤ f) : RefP n f C (bwdTo f (n - 1) (fwdTo f C (n - 1)) (n - 1)) := by
  have h1 := fwd_ok hC hn hf (n - 1) (by omega)
  have h2 := bwd_ok hn hn1 hf h1 (n - 1) (by omega)
  refine ⟨h2.len, fun w hw h0 => h2.done w hw h0 (by omega), fun w hw => ?_, fun w hw hnw => ?_, h2.wn⟩
  · have a := h1.sub w hw; have b := h2.sub w hw; omega
  · have a := h1.rest w hw (by omega); have b := h2.rest w hw (by omega)
    rw [b.1, b.2]; exact a
end Go.S

/- The package spring: again and again until nothing turns. Nothing of Go stands here. -/
namespace Go.S
open Go.X (G)
/-- One step: week i by the week before, and back. -/
def step1 (f : Int) (M : List Int) (k : Nat) : List Int := set2 M (k + 1) (bothP (Lo M (k + 1)) (Hi M (k + 1)) (Lo M k - f) (Hi M k))
def step2 (f : Int) (M : List Int) (k : Nat) : List Int := set2 M k (bothP (Lo M k) (Hi M k) (Lo M (k + 1)) (Hi M (k + 1) + f))
def stepM (f : Int) (M : List Int) (k : Nat) : List Int := step2 f (step1 f M k) k
def NoneAt (M : List Int) (i : Nat) : Prop := Lo M i = 1 ∧ Hi M i = 0
instance (M : List Int) (i : Nat) : Decidable (NoneAt M i) := by unfold NoneAt; infer_instance
def psTo (f : Int) (M : List Int) : Nat → List Int
  | 0 => M
  | k + 1 => stepM f (psTo f M k) k
/-- No step has come to nothing. -/
def Alive (f : Int) (M : List Int) (k : Nat) : Prop := ∀ j, j < k → ¬NoneAt (psTo f M (j + 1)) j ∧ ¬NoneAt (psTo f M (j + 1)) (j + 1)
def sumW (M : List Int) : Nat → Int
  | 0 => 0
  | k + 1 => sumW M k + (Hi M k - Lo M k + 1)
@[simp] theorem step1_len (f : Int) (M : List Int) (k : Nat) : (step1 f M k).length = M.length := by simp [step1]
@[simp] theorem step2_len (f : Int) (M : List Int) (k : Nat) : (step2 f M k).length = M.length := by simp [step2]
@[simp] theorem stepM_len (f : Int) (M : List Int) (k : Nat) : (stepM f M k).length = M.length := by simp [stepM]
@[simp] theorem psTo_len (f : Int) (M : List Int) : ∀ k, (psTo f M k).length = M.length
  | 0 => rfl
  | k + 1 => by simp [psTo, psTo_len f M k]
theorem sumW_nonneg {M : List Int} (h : Sb M) : ∀ k, k ≤ 10 → 0 ≤ sumW M k
  | 0, _ => Int.le_refl _
  | k + 1, hk => by
    have := sumW_nonneg h k (by omega)
    have := h k (by omega)
    simp only [sumW]
    omega
theorem sumW_set {M : List Int} (hM : M.length = 20) {i : Nat} (hi : i < 10) (p : Int × Int) : ∀ k, k ≤ 10 → sumW (set2 M i p) k = sumW M k + (if i < k then (p.2 - p.1) - (Hi M i - Lo M i) else 0)
  | 0, _ => by simp [sumW]
  | k + 1, hk => by
    have ih := sumW_set hM hi p k (by omega)
    obtain ⟨h1, h2⟩ := set2_at hM hi (j := k) (by omega) p
    simp only [sumW, ih, h1, h2]
    by_cases e : i = k
    · subst e
      rw [if_pos rfl, if_pos rfl, if_neg (by omega), if_pos (by omega)]
      omega
    · rw [if_neg e, if_neg e]
      by_cases e2 : i < k
      · rw [if_pos e2, if_pos (by omega)]; omega
      · rw [if_neg e2, if_neg (by omega)]; omega
theorem list_ext20 {M K : List Int} (hM : M.length = 20) (hK : K.length = 20) (h : ∀ j, j < 10 → Lo M j = Lo K j ∧ Hi M j = Hi K j) : M = K := by
  refine List.ext_getElem (by omega) fun i h1 h2 => ?_
  have h3 := h (i / 2) (by omega)
  have hg : ∀ (L : List Int) (hi : i < L.length), G L i = L[i] := fun L hi => by simp [G, hi]
  rw [← hg M h1, ← hg K h2]
  by_cases e : i % 2 = 0
  · have : i = i / 2 * 2 := by omega
    rw [this]; exact h3.1
  · have : i = i / 2 * 2 + 1 := by omega
    rw [this]; exact h3.2
/-- A span set to a part of itself: the same, or less. -/
theorem set_less {M : List Int} (hM : M.length = 20) (hS : Sb M) {i : Nat} (hi : i < 10) (c d : Int) :
    set2 M i (bothP (Lo M i) (Hi M i) c d) = M ∨ sumW (set2 M i (bothP (Lo M i) (Hi M i) c d)) 10 < sumW M 10 := by
  have hs := sumW_set hM hi (bothP (Lo M i) (Hi M i) c d) 10 (Nat.le_refl _)
  rw [if_pos hi] at hs
  have hsi := hS i hi
  by_cases e : (bothP (Lo M i) (Hi M i) c d).1 = Lo M i ∧ (bothP (Lo M i) (Hi M i) c d).2 = Hi M i
  · left
    refine list_ext20 (by simp [hM]) hM fun j hj => ?_
    obtain ⟨h1, h2⟩ := set2_at hM hi hj (bothP (Lo M i) (Hi M i) c d)
    rw [h1, h2]
    by_cases hij : i = j
    · subst hij; rw [if_pos rfl, if_pos rfl]; exact e
    · rw [if_neg hij, if_neg hij]; exact ⟨rfl, rfl⟩
  · right
    rw [hs]
    revert e
    unfold bothP
    split
    · simp only; omega
    · simp only; omega
theorem step_less {f : Int} {M : List Int} (hM : M.length = 20) (hS : Sb M) {k : Nat} (hk : k + 1 < 10) :
    Sb (step1 f M k) ∧ Sb (stepM f M k) ∧ ((step1 f M k = M ∧ stepM f M k = M) ∨ sumW (stepM f M k) 10 < sumW M 10) := by
  have h1 : Sb (step1 f M k) := hS.set hM hk (bothP_sb (hS _ hk))
  have hl : (step1 f M k).length = 20 := by simp [hM]
  have h2 : Sb (stepM f M k) := h1.set hl (by omega) (bothP_sb (h1 _ (by omega)))
  refine ⟨h1, h2, ?_⟩
  have a := set_less hM hS hk (Lo M k - f) (Hi M k)
  have b := set_less hl h1 (i := k) (by omega) (Lo (step1 f M k) (k + 1)) (Hi (step1 f M k) (k + 1) + f)
  rcases b with b | b
  · rcases a with a | a
    · have a' : step1 f M k = M := a
      exact .inl ⟨a', (show stepM f M k = step1 f M k from b).trans a'⟩
    · right
      rw [show stepM f M k = step1 f M k from b]; exact a
  · rcases a with a | a
    · right
      have a' : step1 f M k = M := a
      have : sumW (stepM f M k) 10 < sumW (step1 f M k) 10 := b
      rwa [a'] at this
    · right
      have : sumW (stepM f M k) 10 < sumW (step1 f M k) 10 := b
      have a2 : sumW (step1 f M k) 10 < sumW M 10 := a
      omega
theorem ps_less {f : Int} {M : List Int} (hM : M.length = 20) (hS : Sb M) : ∀ k, k ≤ 9 → Sb (psTo f M k) ∧ ((∀ j, j < k → step1 f M j = M ∧ stepM f M j = M ∧ psTo f M (j + 1) = M) ∧ psTo f M k = M ∨ sumW (psTo f M k) 10 < sumW M 10)
  | 0, _ => ⟨hS, .inl ⟨fun j hj => absurd hj (Nat.not_lt_zero _), rfl⟩⟩
  | k + 1, hk => by
    obtain ⟨h1, h2⟩ := ps_less hM hS k (by omega)
    obtain ⟨_, g1, g2⟩ := step_less (f := f) (by simp [hM]) h1 (k := k) (by omega)
    refine ⟨g1, ?_⟩
    show (_ ∧ stepM f (psTo f M k) k = M) ∨ sumW (stepM f (psTo f M k) k) 10 < _
    rcases h2 with ⟨h2, h3⟩ | h2
    · rw [h3] at g2 ⊢
      rcases g2 with ⟨g2, g3⟩ | g2
      · refine .inl ⟨fun j hj => ?_, g3⟩
        by_cases e : j = k
        · subst e
          exact ⟨g2, g3, by show stepM f (psTo f M j) j = M; rw [h3]; exact g3⟩
        · exact h2 j (by omega)
      · exact .inr g2
    · right
      rcases g2 with ⟨_, g3⟩ | g2
      · rw [g3]; exact h2
      · omega
/-- All truths of C lie within M, and M in C. -/
structure KeepP (n : Nat) (f : Int) (C M : List Int) : Prop where
  len : M.length = 20
  sb : Sb M
  sub : ∀ w, w < n → Lo M w ≤ Hi M w → Lo C w ≤ Lo M w ∧ Hi M w ≤ Hi C w
  wn : Wn n f (Lo C) (Hi C) (Lo M) (Hi M)
  rest : ∀ w, w < 10 → n ≤ w → Lo M w = Lo C w ∧ Hi M w = Hi C w
theorem both_in {a b c d t : Int} (h1 : a ≤ t ∧ t ≤ b) (h2 : c ≤ t ∧ t ≤ d) : (bothP a b c d).1 ≤ t ∧ t ≤ (bothP a b c d).2 := by
  unfold bothP
  split
  · omega
  · simp only; omega
theorem both_sub {a b c d : Int} (h : (bothP a b c d).1 ≤ (bothP a b c d).2) : a ≤ (bothP a b c d).1 ∧ (bothP a b c d).2 ≤ b := by
  revert h
  unfold bothP
  split
  · simp
  · simp only; omega
theorem KeepP.step {n : Nat} {f : Int} {C M : List Int} (h : KeepP n f C M) (hn : n ≤ 10) {k : Nat} (hk : k + 1 < n) : KeepP n f C (stepM f M k) := by
  obtain ⟨s1, s2, _⟩ := step_less (f := f) h.len h.sb (k := k) (by omega)
  have hl : (step1 f M k).length = 20 := by simp [h.len]
  have a1 := fun (j : Nat) (hj : j < 10) => set2_at h.len (i := k + 1) (j := j) (by omega) hj (bothP (Lo M (k + 1)) (Hi M (k + 1)) (Lo M k - f) (Hi M k))
  have a2 := fun (j : Nat) (hj : j < 10) => set2_at hl (i := k) (j := j) (by omega) hj (bothP (Lo (step1 f M k) k) (Hi (step1 f M k) k) (Lo (step1 f M k) (k + 1)) (Hi (step1 f M k) (k + 1) + f))
  have b1 : ∀ j, j < 10 → Lo (step1 f M k) j = _ ∧ Hi (step1 f M k) j = _ := a1
  have b2 : ∀ j, j < 10 → Lo (stepM f M k) j = _ ∧ Hi (stepM f M k) j = _ := a2
  refine ⟨by simp [h.len], s2, fun w hw hne => ?_, fun t ht w hw => ?_, fun w h10 hw => ?_⟩
  · have c1 := b1 w (by omega); have c2 := b2 w (by omega)
    have hsub := h.sub w hw
    rw [c2.1, c2.2] at hne ⊢
    by_cases e : k = w
    · subst e
      rw [if_pos rfl, if_pos rfl] at hne ⊢
      have h3 := both_sub hne
      rw [c1.1, c1.2, if_neg (by omega), if_neg (by omega)] at h3 hne ⊢
      have := hsub (by omega)
      omega
    · rw [if_neg e, if_neg e] at hne ⊢
      rw [c1.1, c1.2] at hne ⊢
      by_cases e2 : k + 1 = w
      · subst e2
        rw [if_pos rfl, if_pos rfl] at hne ⊢
        have h3 := both_sub hne
        have := hsub (by omega)
        omega
      · rw [if_neg e2, if_neg e2] at hne ⊢
        exact hsub hne
  · have hstep := (ht (k + 1) hk).2.2 (by omega)
    simp only [Nat.add_sub_cancel] at hstep
    have t0 := h.wn t ht k (by omega)
    have t1 := h.wn t ht (k + 1) hk
    have u1 : Lo (step1 f M k) (k + 1) ≤ t (k + 1) ∧ t (k + 1) ≤ Hi (step1 f M k) (k + 1) := by
      have c1 := b1 (k + 1) (by omega)
      rw [c1.1, c1.2, if_pos rfl, if_pos rfl]
      exact both_in t1 (by omega)
    have u0 : Lo (step1 f M k) k ≤ t k ∧ t k ≤ Hi (step1 f M k) k := by
      have c1 := b1 k (by omega)
      rw [c1.1, c1.2, if_neg (by omega), if_neg (by omega)]
      exact t0
    have c2 := b2 w (by omega)
    rw [c2.1, c2.2]
    by_cases e : k = w
    · subst e
      rw [if_pos rfl, if_pos rfl]
      exact both_in u0 (by omega)
    · rw [if_neg e, if_neg e]
      by_cases e2 : k + 1 = w
      · subst e2; exact u1
      · have c1 := b1 w (by omega)
        rw [c1.1, c1.2, if_neg e2, if_neg e2]
        exact h.wn t ht w hw
  · have c1 := b1 w h10; have c2 := b2 w h10
    rw [c2.1, c2.2, if_neg (by omega), if_neg (by omega), c1.1, c1.2, if_neg (by omega), if_neg (by omega)]
    exact h.rest w h10 hw
theorem KeepP.ps {n : Nat} {f : Int} {C M : List Int} (h : KeepP n f C M) (hn : n ≤ 10) : ∀ k, k + 1 ≤ n → KeepP n f C (psTo f M k)
  | 0, _ => h
  | k + 1, hk => (h.ps hn k (by omega)).step hn (by omega)
theorem KeepP.none {n : Nat} {f : Int} {C M : List Int} (h : KeepP n f C M) {i : Nat} (hi : i < n) (hN : NoneAt M i) : ¬∃ t, Tr n f (Lo C) (Hi C) t := by
  rintro ⟨t, ht⟩
  have := h.wn t ht i hi
  obtain ⟨h1, h2⟩ := hN
  omega
/-- The end: nothing turns any more. -/
theorem stp_of_same {n : Nat} {f : Int} {M : List Int} (hM : M.length = 20) (_hS : Sb M) (hn : n ≤ 10) (hf : 0 ≤ f) (hsame : ∀ j, j + 1 < n → step1 f M j = M ∧ stepM f M j = M) (hne : ∀ w, w < n → Lo M w ≤ Hi M w) : Stp n f (Lo M) (Hi M) := by
  intro w hw h0
  obtain ⟨j, rfl⟩ : ∃ j, w = j + 1 := ⟨w - 1, by omega⟩
  obtain ⟨e1, e2⟩ := hsame j hw
  simp only [Nat.add_sub_cancel]
  have a1 := set2_at hM (i := j + 1) (j := j + 1) (by omega) (by omega) (bothP (Lo M (j + 1)) (Hi M (j + 1)) (Lo M j - f) (Hi M j))
  have b1 : Lo (step1 f M j) (j + 1) = _ ∧ Hi (step1 f M j) (j + 1) = _ := a1
  rw [e1, if_pos rfl, if_pos rfl] at b1
  have a2 := set2_at (M := step1 f M j) (by simp [hM]) (i := j) (j := j) (by omega) (by omega) (bothP (Lo (step1 f M j) j) (Hi (step1 f M j) j) (Lo (step1 f M j) (j + 1)) (Hi (step1 f M j) (j + 1) + f))
  have b2 : Lo (stepM f M j) j = _ ∧ Hi (stepM f M j) j = _ := a2
  rw [e2, if_pos rfl, if_pos rfl, e1] at b2
  have n1 := hne (j + 1) hw; have n0 := hne j (by omega)
  revert b1 b2
  unfold bothP
  split <;> split <;> simp only <;> intro b1 b2 <;> omega
theorem stp_zero {n : Nat} {f : Int} {M : List Int} (hf : 0 ≤ f) (hz : ∀ w, w < n → Lo M w = 0 ∧ Hi M w = 0) : Stp n f (Lo M) (Hi M) := by
  intro w hw h0
  have a := hz w hw; have b := hz (w - 1) (by omega)
  omega
end Go.S

/- Both ways of reckoning what readings, lines and a rain leave. Nothing of Go stands here. -/
namespace Go.S
open Go.X (G)
/-- The same spans, or none on both sides. -/
def RelC (n : Nat) (R L : List Int) : Prop := ∀ w, w < n → (Lo R w = G L w ∧ Hi R w = G L (10 + w)) ∨ (Hi R w < Lo R w ∧ G L (10 + w) < G L w)
theorem RelC.tr {n : Nat} {f : Int} {R L : List Int} (h : RelC n R L) (t : Nat → Int) : Tr n f (Lo R) (Hi R) t ↔ Tr n f (fun w => G L w) (fun w => G L (10 + w)) t := by
  constructor
  · intro ht w hw
    have h1 := ht w hw
    refine ⟨?_, ?_, h1.2.2⟩ <;> rcases h w hw with ⟨a, b⟩ | ⟨a, b⟩ <;> simp only <;> omega
  · intro ht w hw
    have h1 := ht w hw
    simp only at h1
    refine ⟨?_, ?_, h1.2.2⟩ <;> rcases h w hw with ⟨a, b⟩ | ⟨a, b⟩ <;> omega
/-- Lines, as the package spring reckons them. -/
def slTo (s : Sp) (R : List Int) (rain : Int) : Nat → List Int
  | 0 => R
  | k + 1 => let x := s.book.getD k default
    if Wi rain x.r0 x.r1 then set2 (slTo s R rain k) x.wk.toNat (bothP (Lo (slTo s R rain k) x.wk.toNat) (Hi (slTo s R rain k) x.wk.toNat) x.g0 x.g1) else slTo s R rain k
@[simp] theorem slTo_len (s : Sp) (R : List Int) (rain : Int) : ∀ k, (slTo s R rain k).length = R.length
  | 0 => rfl
  | k + 1 => by
    have ih := slTo_len s R rain k
    simp only [slTo]
    split <;> simp [ih]
theorem bookD {s : Sp} (hb : BookP s) {k : Nat} (hk : k < s.book.length) : LnP (s.book.getD k default) s.weeks := by
  simpa [hk] using hb k hk
theorem slTo_sb {s : Sp} (hv : SpP s) {R : List Int} (hR : R.length = 20) (hS : Sb R) (rain : Int) : ∀ k, k ≤ s.book.length → Sb (slTo s R rain k)
  | 0, _ => hS
  | k + 1, hk => by
    have ih := slTo_sb hv hR hS rain k (by omega)
    have h1 := hv.1; unfold HeadP at h1
    have hl := bookD hv.2.1 (k := k) (by omega)
    simp only [slTo]
    split
    · exact ih.set (by simp [hR]) (by omega) (bothP_sb (ih _ (by omega)))
    · exact ih
theorem linesTo_len {s : Sp} {L : List Int} (rain : Int) : ∀ k, (linesTo s L rain k).length = L.length
  | 0 => rfl
  | k + 1 => by
    have ih := linesTo_len (s := s) (L := L) rain k
    simp only [linesTo]
    split
    · simp only [lineStep]
      split <;> simp [ih]
    · exact ih
theorem lines_rel {s : Sp} (hv : SpP s) {R L : List Int} (hR : R.length = 20) (hL : L.length = 20) (hS : Sb R) (h : RelC s.weeks.toNat R L) (h0 : ∀ w, w < 10 → s.weeks.toNat ≤ w → Lo R w = G L w ∧ Hi R w = G L (10 + w)) (rain : Int) :
    ∀ k, k ≤ s.book.length → RelC s.weeks.toNat (slTo s R rain k) (linesTo s L rain k) ∧ (∀ w, w < 10 → s.weeks.toNat ≤ w → Lo (slTo s R rain k) w = G (linesTo s L rain k) w ∧ Hi (slTo s R rain k) w = G (linesTo s L rain k) (10 + w))
  | 0, _ => ⟨h, h0⟩
  | k + 1, hk => by
    obtain ⟨i1, i2⟩ := lines_rel hv hR hL hS h h0 rain k (by omega)
    have h1 := hv.1; unfold HeadP at h1
    have hl := bookD hv.2.1 (k := k) (by omega)
    have hsb := slTo_sb hv hR hS rain k (by omega)
    have he : s.book[k]? = some (s.book.getD k default) := by simp [show k < s.book.length by omega]
    simp only [slTo, linesTo, he, lineStep]
    by_cases hc : Wi rain (s.book.getD k default).r0 (s.book.getD k default).r1
    · rw [if_pos hc, if_pos hc]
      have a1 := fun (j : Nat) (hj : j < 10) => set2_at (M := slTo s R rain k) (by simp [hR]) (i := (s.book.getD k default).wk.toNat) (j := j) (by omega) hj (bothP (Lo (slTo s R rain k) (s.book.getD k default).wk.toNat) (Hi (slTo s R rain k) (s.book.getD k default).wk.toNat) (s.book.getD k default).g0 (s.book.getD k default).g1)
      have a2 := fun (j : Nat) (hj : j < 10) => setA_at (M := linesTo s L rain k) (by rw [linesTo_len]; exact hL) (i := (s.book.getD k default).wk.toNat) (j := j) (by omega) hj (max (G (linesTo s L rain k) (s.book.getD k default).wk.toNat) (s.book.getD k default).g0) (min (G (linesTo s L rain k) (10 + (s.book.getD k default).wk.toNat)) (s.book.getD k default).g1)
      refine ⟨fun w hw => ?_, fun w h10 hw => ?_⟩
      · have b1 := a1 w (by omega); have b2 := a2 w (by omega)
        rw [b1.1, b1.2, b2.1, b2.2]
        by_cases e : (s.book.getD k default).wk.toNat = w
        · rw [if_pos e, if_pos e, if_pos e, if_pos e, e]
          have hr := i1 w hw
          have hs := hsb w (by omega)
          unfold bothP
          split <;> simp only <;> omega
        · rw [if_neg e, if_neg e, if_neg e, if_neg e]
          exact i1 w hw
      · have b1 := a1 w h10; have b2 := a2 w h10
        rw [b1.1, b1.2, b2.1, b2.2, if_neg (by omega), if_neg (by omega), if_neg (by omega), if_neg (by omega)]
        exact i2 w h10 hw
    · rw [if_neg hc, if_neg hc]
      exact ⟨i1, i2⟩
/-- Ends beside each other. -/
def ilv (X : List Int) : List Int := (List.range 20).map fun i => if i % 2 = 0 then G X (i / 2) else G X (10 + i / 2)
@[simp] theorem ilv_len (X : List Int) : (ilv X).length = 20 := by simp [ilv]
theorem ilv_at (X : List Int) {w : Nat} (hw : w < 10) : Lo (ilv X) w = G X w ∧ Hi (ilv X) w = G X (10 + w) := by
  unfold Lo Hi ilv
  constructor
  · have : w * 2 < 20 := by omega
    simp [G, this]
  · have h1 : w * 2 + 1 < 20 := by omega
    have h2 : (w * 2 + 1) % 2 = 1 := by omega
    have h3 : (w * 2 + 1) / 2 = w := by omega
    simp [G, h1, h2, h3]
/-- **What the package spring comes to is what the reference comes to.** -/
theorem after_ok {s : Sp} (hv : SpP s) {R L : List Int} (hR : R.length = 20) (hL : L.length = 20) (hS : Sb R) (h : RelC s.weeks.toNat R L) (h0 : ∀ w, w < 10 → s.weeks.toNat ≤ w → Lo R w = G L w ∧ Hi R w = G L (10 + w)) (rain : Int) :
    (∀ M, KeepP s.weeks.toNat s.fall (slTo s R rain s.book.length) M → Stp s.weeks.toNat s.fall (Lo M) (Hi M) → (∀ w, w < s.weeks.toNat → Lo M w ≤ Hi M w) → lvB s L rain ∧ M = ilv (lvL s L rain)) ∧
    (∀ M, KeepP s.weeks.toNat s.fall (slTo s R rain s.book.length) M → ∀ w, w < s.weeks.toNat → NoneAt M w → ¬lvB s L rain) := by
  have h1 := hv.1; unfold HeadP at h1
  obtain ⟨r1, r2⟩ := lines_rel hv hR hL hS h h0 rain s.book.length (Nat.le_refl _)
  have hC : (linesTo s L rain s.book.length).length = 20 := by rw [linesTo_len]; exact hL
  have href : RefP s.weeks.toNat s.fall (linesTo s L rain s.book.length) (lvL s L rain) := ref_ok hC (by omega) (by omega) (by omega)
  have hlv : lvB s L rain → Tr s.weeks.toNat s.fall (fun w => G (linesTo s L rain s.book.length) w) (fun w => G (linesTo s L rain s.book.length) (10 + w)) (fun w => G (lvL s L rain) w) ∧ Tr s.weeks.toNat s.fall (fun w => G (linesTo s L rain s.book.length) w) (fun w => G (linesTo s L rain s.book.length) (10 + w)) (fun w => G (lvL s L rain) (10 + w)) :=
    fun hb => ends_true href.stp (fun w hw => href.sub w (by omega)) hb
  have hno : ∀ t, Tr s.weeks.toNat s.fall (fun w => G (linesTo s L rain s.book.length) w) (fun w => G (linesTo s L rain s.book.length) (10 + w)) t → lvB s L rain := fun t ht w hw => by
    have := href.wn t ht w hw
    simp only at this
    omega
  refine ⟨fun M hM hst hne => ?_, fun M hM w hw hN hb => hM.none hw hN ⟨_, (r1.tr _).2 (hlv hb).1⟩⟩
  have hMt := ends_true (lo := Lo (slTo s R rain s.book.length)) (hi := Hi (slTo s R rain s.book.length)) hst (fun w hw => hM.sub w hw (hne w hw)) hne
  have hMt' := And.intro ((r1.tr _).1 hMt.1) ((r1.tr _).1 hMt.2)
  have hb := hno _ hMt'.1
  refine ⟨hb, ?_⟩
  have hwn : Wn s.weeks.toNat s.fall (fun w => G (linesTo s L rain s.book.length) w) (fun w => G (linesTo s L rain s.book.length) (10 + w)) (Lo M) (Hi M) := fun t ht => hM.wn t ((r1.tr t).2 ht)
  have hu := hull_unique hwn href.wn hMt' (hlv hb)
  refine list_ext20 hM.len (by simp) fun w hw => ?_
  obtain ⟨e1, e2⟩ := ilv_at (lvL s L rain) hw
  rw [e1, e2]
  by_cases hwn2 : w < s.weeks.toNat
  · exact hu w hwn2
  · have a := hM.rest w hw (by omega); have b := r2 w hw (by omega); have c := href.rest w hw (by omega)
    rw [a.1, a.2, b.1, b.2]
    exact ⟨c.1.symm, c.2.symm⟩
theorem keep_start {n : Nat} {f : Int} {C : List Int} (hl : C.length = 20) (hS : Sb C) : KeepP n f C C := ⟨hl, hS, fun _w _ _ => ⟨Int.le_refl _, Int.le_refl _⟩, fun _t ht w hw => ⟨(ht w hw).1, (ht w hw).2.1⟩, fun _w _ _ => ⟨rfl, rfl⟩⟩
end Go.S

/- What readings leave: both ways of reckoning. Nothing of Go stands here. -/
namespace Go.S
open Go.X (G)
theorem both_mem' {a b c d n : Int} : ((bothP a b c d).1 ≤ n ∧ n ≤ (bothP a b c d).2) ↔ ((a ≤ n ∧ n ≤ b) ∧ c ≤ n ∧ n ≤ d) := by
  unfold bothP
  split <;> simp only <;> omega
/-- A reading's span is of the numbers with which it is true. -/
theorem reads_mem {s : Sp} {x : Rd} (h1 : Spn s.a0 s.a1 1 600) (h2 : Spn x.s0 x.s1 0 99) (h3 : Wi x.bu 1 40) (h4 : 0 < x.s1) {n : Int} (hn : 0 ≤ n ∧ n ≤ s.most) : ((readsP s x).1 ≤ n ∧ n ≤ (readsP s x).2) ↔ Right s x n := by
  have hs : 0 < x.s1 * s.a1 := Int.mul_pos h4 (by omega)
  have hq : 0 ≤ x.s0 * s.a0 := Int.mul_nonneg (by omega) (by omega)
  unfold readsP
  rw [both_mem']
  have e1 : (3600 * x.bu + x.s1 * s.a1 - 1) / (x.s1 * s.a1) ≤ n ↔ 3600 * x.bu ≤ x.s1 * s.a1 * n := by
    rw [← Int.lt_add_one_iff, Int.ediv_lt_iff_lt_mul hs, Int.add_mul, Int.one_mul, Int.mul_comm n]
    generalize x.s1 * s.a1 * n = p
    generalize x.s1 * s.a1 = q
    omega
  have e2 : n ≤ (if 0 < x.s0 * s.a0 then min s.most (3600 * x.bu / (x.s0 * s.a0)) else s.most) ↔ x.s0 * s.a0 * n ≤ 3600 * x.bu := by
    split
    · rename_i hp
      have e3 : n ≤ 3600 * x.bu / (x.s0 * s.a0) ↔ x.s0 * s.a0 * n ≤ 3600 * x.bu := by
        rw [Int.le_ediv_iff_mul_le hp, Int.mul_comm n]
      rw [← e3]
      omega
    · have : x.s0 * s.a0 = 0 := by omega
      rw [this, Int.zero_mul]
      omega
  have e4 : 3600 * x.bu ≤ x.s1 * s.a1 * n → 0 < n := by
    intro h
    refine Decidable.byContradiction fun hn0 => ?_
    have : n = 0 := by omega
    rw [this, Int.mul_zero] at h
    omega
  constructor
  · rintro ⟨⟨a, b⟩, _⟩
    exact ⟨⟨e4 (e1.1 a), e2.1 b⟩, e1.1 a⟩
  · rintro ⟨⟨_, a⟩, b⟩
    exact ⟨⟨e1.2 b, e2.2 a⟩, hn.1, hn.2⟩
theorem okTo_succ' {s : Sp} {w : Nat} {n : Int} {i : Nat} (hlt : i < s.reads.length) : OkTo s w n (i + 1) ↔ (OkTo s w n i ∧ ((s.reads.getD i default).wk ≠ w ∨ Right s (s.reads.getD i default) n)) := by
  have he : s.reads.getD i default = s.reads[i] := by simp [hlt]
  rw [he]
  constructor
  · intro h
    exact ⟨fun k hk h' => h k (by omega) h', h i (by omega) hlt⟩
  · rintro ⟨h1, h2⟩ k hk h
    by_cases e : k = i
    · subst e; exact h2
    · exact h1 k (by omega) h
theorem fl0_at {s : Sp} : ∀ k, k ≤ 10 → ∀ w, w < 10 → Lo (fl0 s k) w = 0 ∧ Hi (fl0 s k) w = (if w < k then s.most else 0)
  | 0, _, w, hw => by
    have h : ∀ i, i < 10 → G (List.replicate 20 (0 : Int)) (i * 2) = 0 ∧ G (List.replicate 20 (0 : Int)) (i * 2 + 1) = 0 := by decide
    have := h w hw
    simp only [fl0, Lo, Hi, this.1, this.2]
    simp
  | k + 1, hk, w, hw => by
    have ih := fl0_at (s := s) k (by omega) w hw
    obtain ⟨h1, h2⟩ := set2_at (fl0_len s k) (i := k) (j := w) (by omega) hw (0, s.most)
    simp only [fl0, h1, h2]
    by_cases e : k = w
    · subst e; rw [if_pos rfl, if_pos rfl, if_pos (by omega)]; exact ⟨rfl, rfl⟩
    · rw [if_neg e, if_neg e, ih.1, ih.2]
      refine ⟨rfl, ?_⟩
      by_cases e2 : w < k
      · rw [if_pos e2, if_pos (by omega)]
      · rw [if_neg e2, if_neg (by omega)]
theorem flTo_mem {s : Sp} (hv : SpP s) : ∀ k, k ≤ s.reads.length → ∀ w, w < s.weeks.toNat → (∀ n : Int, 0 ≤ n → n ≤ s.most → (OkTo s w n k ↔ (Lo (flTo s k) w ≤ n ∧ n ≤ Hi (flTo s k) w))) ∧ (Lo (flTo s k) w ≤ Hi (flTo s k) w → 0 ≤ Lo (flTo s k) w ∧ Hi (flTo s k) w ≤ s.most)
  | 0, _, w, hw => by
    have h1 := hv.1; unfold HeadP at h1
    obtain ⟨a, b⟩ := fl0_at (s := s) s.weeks.toNat (by omega) w (by omega)
    rw [if_pos hw] at b
    simp only [flTo, a, b]
    refine ⟨fun n h0 h1 => ⟨fun _ => ⟨h0, h1⟩, fun _ i hi => absurd hi (Nat.not_lt_zero _)⟩, fun _ => ⟨Int.le_refl _, Int.le_refl _⟩⟩
  | k + 1, hk, w, hw => by
    have h1 := hv.1; unfold HeadP at h1
    obtain ⟨i1, i2⟩ := flTo_mem hv k (by omega) w hw
    have hr := ((reads_iff s).1 hv.2.2 k (by omega)).1
    obtain ⟨a, b⟩ := set2_at (flTo_len s k) (i := (s.reads.getD k default).wk.toNat) (j := w) (by omega) (by omega) (bothP (Lo (flTo s k) (s.reads.getD k default).wk.toNat) (Hi (flTo s k) (s.reads.getD k default).wk.toNat) (readsP s (s.reads.getD k default)).1 (readsP s (s.reads.getD k default)).2)
    simp only [flTo, a, b]
    by_cases e : (s.reads.getD k default).wk.toNat = w
    · rw [if_pos e, if_pos e, e]
      refine ⟨fun n h0 hm => ?_, fun hne => ?_⟩
      · rw [okTo_succ' (by omega), both_mem', i1 n h0 hm, reads_mem h1.2.2.2.1 (by omega) (by omega) (by omega) ⟨h0, hm⟩]
        have : (s.reads.getD k default).wk = (w : Int) := by omega
        constructor
        · rintro ⟨p, q⟩
          exact ⟨p, q.resolve_left (fun hh => hh this)⟩
        · rintro ⟨p, q⟩
          exact ⟨p, .inr q⟩
      · have := both_sub hne
        have := i2 (by omega)
        omega
    · rw [if_neg e, if_neg e]
      refine ⟨fun n h0 hm => ?_, i2⟩
      rw [okTo_succ' (by omega), i1 n h0 hm]
      have : (s.reads.getD k default).wk ≠ (w : Int) := by omega
      constructor
      · rintro ⟨p, _⟩; exact p
      · intro p; exact ⟨p, .inl this⟩
theorem okP_iff {s : Sp} {w : Nat} {n : Int} : OkP s w n ↔ OkTo s w n s.reads.length := ⟨fun h i _ h' => h i h', fun h i h' => h i h' h'⟩
/-- What week w comes to, number by number: the least and the greatest that are right. -/
theorem weekTo_mem {s : Sp} (hm : Wi s.most 0 100) {L : List Int} (hL : L.length = 20) {w : Nat} (hw : w < 10) {lo hi : Int} (hok : ∀ n : Int, 0 ≤ n → n ≤ s.most → (OkP s w n ↔ (lo ≤ n ∧ n ≤ hi))) (hb : lo ≤ hi → 0 ≤ lo ∧ hi ≤ s.most) :
    ∀ j, j ≤ s.most.toNat + 1 → (weekTo s L w j).length = 20 ∧ (∀ v, v < 10 → v ≠ w → G (weekTo s L w j) v = G L v ∧ G (weekTo s L w j) (10 + v) = G L (10 + v)) ∧
      ((lo ≤ hi ∧ lo < j ∧ G (weekTo s L w j) w = lo ∧ G (weekTo s L w j) (10 + w) = min hi (j - 1)) ∨ ((¬lo ≤ hi ∨ (j : Int) ≤ lo) ∧ G (weekTo s L w j) w = s.most + 1 ∧ G (weekTo s L w j) (10 + w) = -1))
  | 0, _ => by
    have a := fun (v : Nat) (hv : v < 10) => setA_at hL hw hv (s.most + 1) (-1)
    refine ⟨by simp [weekTo, hL], fun v hv hne => ?_, .inr ⟨?_, ?_, ?_⟩⟩
    · have := a v hv
      simp only [weekTo]
      rw [this.1, this.2, if_neg (Ne.symm hne), if_neg (Ne.symm hne)]; exact ⟨rfl, rfl⟩
    · by_cases e : lo ≤ hi
      · right; have := hb e; omega
      · exact .inl e
    · simp only [weekTo]; rw [(a w hw).1, if_pos rfl]
    · simp only [weekTo]; rw [(a w hw).2, if_pos rfl]
  | j + 1, hj => by
    obtain ⟨i1, i2, i3⟩ := weekTo_mem hm hL hw hok hb j (by omega)
    have hokj := hok j (by omega) (by omega)
    simp only [weekTo, bstep]
    by_cases hc : OkP s w j
    · rw [if_pos hc]
      have a := fun (v : Nat) (hv : v < 10) => setA_at i1 hw hv (min (G (weekTo s L w j) w) (j : Int)) (j : Int)
      have hin := hokj.1 hc
      refine ⟨by simp [i1], fun v hv hne => ?_, ?_⟩
      · have := a v hv
        rw [this.1, this.2, if_neg (Ne.symm hne), if_neg (Ne.symm hne)]; exact i2 v hv hne
      · rw [(a w hw).1, (a w hw).2, if_pos rfl, if_pos rfl]
        left
        rcases i3 with ⟨p1, p2, p3, p4⟩ | ⟨p1, p2, p3⟩
        · rw [p3]; omega
        · rw [p2]; omega
    · rw [if_neg hc]
      refine ⟨i1, i2, ?_⟩
      have hin : ¬(lo ≤ (j : Int) ∧ (j : Int) ≤ hi) := fun h => hc (hokj.2 h)
      rcases i3 with ⟨p1, p2, p3, p4⟩ | ⟨p1, p2, p3⟩
      · left; rw [p3, p4]; omega
      · by_cases e : lo ≤ hi
        · right
          refine ⟨.inr ?_, p2, p3⟩
          omega
        · exact .inr ⟨.inl e, p2, p3⟩
theorem base_rel {s : Sp} (hv : SpP s) : ∀ k, k ≤ s.weeks.toNat → (baseTo s k).length = 20 ∧ (∀ w, w < k → ((Lo (flL s) w = G (baseTo s k) w ∧ Hi (flL s) w = G (baseTo s k) (10 + w)) ∨ (Hi (flL s) w < Lo (flL s) w ∧ G (baseTo s k) (10 + w) < G (baseTo s k) w))) ∧ (∀ w, w < 10 → k ≤ w → G (baseTo s k) w = 0 ∧ G (baseTo s k) (10 + w) = 0)
  | 0, _ => by
    refine ⟨by simp [baseTo], fun w hw => absurd hw (Nat.not_lt_zero _), fun w hw _ => ?_⟩
    have h : ∀ i, i < 10 → G (List.replicate 20 (0 : Int)) i = 0 ∧ G (List.replicate 20 (0 : Int)) (10 + i) = 0 := by decide
    exact h w hw
  | k + 1, hk => by
    have h1 := hv.1; unfold HeadP at h1
    obtain ⟨i1, i2, i3⟩ := base_rel hv k (by omega)
    obtain ⟨m1, m2⟩ := flTo_mem hv s.reads.length (Nat.le_refl _) k (by omega)
    obtain ⟨w1, w2, w3⟩ := weekTo_mem h1.2.1 i1 (w := k) (by omega) (lo := Lo (flL s) k) (hi := Hi (flL s) k) (fun n h0 hm => by rw [okP_iff]; exact m1 n h0 hm) m2 (s.most.toNat + 1) (Nat.le_refl _)
    refine ⟨w1, fun w hw => ?_, fun w h10 hw => ?_⟩
    · simp only [baseTo]
      by_cases e : w = k
      · subst e
        rcases w3 with ⟨p1, p2, p3, p4⟩ | ⟨p1, p2, p3⟩
        · left
          rw [p3, p4]
          have := m2 p1
          have : Hi (flL s) w ≤ s.most := this.2
          omega
        · right
          rw [p2, p3]
          refine ⟨?_, by omega⟩
          rcases p1 with p1 | p1
          · omega
          · refine Decidable.byContradiction fun hne => ?_
            have h5 : Lo (flL s) w ≤ Hi (flL s) w := by omega
            have h6 := m2 h5
            have h7 : 0 ≤ Lo (flL s) w ∧ Hi (flL s) w ≤ s.most := h6
            omega
      · have := w2 w (by omega) e
        rw [this.1, this.2]
        exact i2 w (by omega)
    · simp only [baseTo]
      have := w2 w h10 (by omega)
      rw [this.1, this.2]
      exact i3 w h10 (by omega)
theorem flTo_rest {s : Sp} (hv : SpP s) : ∀ k, k ≤ s.reads.length → ∀ w, w < 10 → s.weeks.toNat ≤ w → Lo (flTo s k) w = 0 ∧ Hi (flTo s k) w = 0
  | 0, _, w, h10, hw => by
    have h1 := hv.1; unfold HeadP at h1
    obtain ⟨a, b⟩ := fl0_at (s := s) s.weeks.toNat (by omega) w h10
    rw [if_neg (by omega)] at b
    exact ⟨a, b⟩
  | k + 1, hk, w, h10, hw => by
    have h1 := hv.1; unfold HeadP at h1
    have ih := flTo_rest hv k (by omega) w h10 hw
    have hr := ((reads_iff s).1 hv.2.2 k (by omega)).1
    obtain ⟨a, b⟩ := set2_at (flTo_len s k) (i := (s.reads.getD k default).wk.toNat) (j := w) (by omega) h10 (bothP (Lo (flTo s k) (s.reads.getD k default).wk.toNat) (Hi (flTo s k) (s.reads.getD k default).wk.toNat) (readsP s (s.reads.getD k default)).1 (readsP s (s.reads.getD k default)).2)
    simp only [flTo, a, b]
    rw [if_neg (by omega), if_neg (by omega)]
    exact ih
/-- R and L say the same of a valid spring's weeks. -/
structure RelW (s : Sp) (R L : List Int) : Prop where
  lr : R.length = 20
  ll : Bd L
  sb : Sb R
  rel : RelC s.weeks.toNat R L
  rest : ∀ w, w < 10 → s.weeks.toNat ≤ w → Lo R w = G L w ∧ Hi R w = G L (10 + w)
theorem relW {s : Sp} (hv : SpP s) : RelW s (flL s) (baseL s) := by
  obtain ⟨a, b, c⟩ := base_rel hv s.weeks.toNat (Nat.le_refl _)
  refine ⟨flTo_len s _, baseL_Bd hv, flTo_sb hv _ (Nat.le_refl _), b, fun w h10 hw => ?_⟩
  have d := c w h10 hw
  have e := flTo_rest hv s.reads.length (Nat.le_refl _) w h10 hw
  unfold baseL
  rw [d.1, d.2]
  exact e
end Go.S

/- The end of the package spring's reckoning. Nothing of Go stands here. -/
namespace Go.S
open Go.X (G)
theorem mu_less {f : Int} {M W : List Int} (hM : M.length = 20) (hS : Sb M) (hne : W ≠ M) (k : Nat) (hk : k ≤ 9) :
    2 * (sumW (psTo f M k) 10).toNat + (if M = psTo f M k then 0 else 1) < 2 * (sumW M 10).toNat + (if W = M then 0 else 1) := by
  rw [if_neg hne]
  obtain ⟨h1, h2⟩ := ps_less (f := f) hM hS k hk
  have p1 := sumW_nonneg h1 10 (Nat.le_refl _)
  have p2 := sumW_nonneg hS 10 (Nat.le_refl _)
  rcases h2 with ⟨_, h2⟩ | h2
  · rw [h2, if_pos rfl]; omega
  · split <;> omega
theorem after_end {s : Sp} (hv : SpP s) {R L : List Int} (hW : RelW s R L) {rain : Int} {W : List Int} (hM : KeepP s.weeks.toNat s.fall (slTo s R rain s.book.length) W)
    (hWM : (∀ j, j < 10 → Lo W j = 0 ∧ Hi W j = 0) ∨ (Sb W ∧ W = psTo s.fall W (s.weeks.toNat - 1) ∧ Alive s.fall W (s.weeks.toNat - 1))) :
    ((∀ w, w < s.weeks.toNat → ¬NoneAt W w) ↔ lvB s L rain) ∧ (lvB s L rain → W = ilv (lvL s L rain)) := by
  have h1 := hv.1; unfold HeadP at h1
  obtain ⟨a1, a2⟩ := after_ok hv hW.lr hW.ll.len hW.sb hW.rel hW.rest rain
  have hnn : (∀ w, w < s.weeks.toNat → ¬NoneAt W w) → lvB s L rain ∧ W = ilv (lvL s L rain) := by
    intro hnn
    have hne : ∀ w, w < s.weeks.toNat → Lo W w ≤ Hi W w := fun w hw => by
      have := hM.sb w (by omega)
      have h3 := hnn w hw
      unfold NoneAt at h3
      omega
    refine a1 W hM ?_ hne
    rcases hWM with hz | ⟨hS, he, _⟩
    · exact stp_zero (by omega) fun w hw => hz w (by omega)
    · obtain ⟨_, h2⟩ := ps_less (f := s.fall) hM.len hS (s.weeks.toNat - 1) (by omega)
      rcases h2 with ⟨h2, _⟩ | h2
      · exact stp_of_same hM.len hS (by omega) (by omega) (fun j hj => ⟨(h2 j (by omega)).1, (h2 j (by omega)).2.1⟩) hne
      · rw [← he] at h2; omega
  have hall : lvB s L rain → ∀ w, w < s.weeks.toNat → ¬NoneAt W w := fun hb w hw hN => a2 W hM w hw hN hb
  exact ⟨⟨fun h => (hnn h).1, hall⟩, fun h => (hnn (hall h)).2⟩
end Go.S

/- Springs without some readings: the plain words. Nothing of Go stands here. -/
namespace Go.S
open Go.X (G)
/-- Those that are not struck. -/
def keepR (l : List Rd) (ns : List Int) : List Rd := l.filter fun x => decide (x.num ∉ ns)
/-- A spring without some readings. -/
def wo (s : Sp) (ns : List Int) : Sp := { s with reads := keepR s.reads ns }
def numsL (s : Sp) : List Int := s.reads.map (·.num)
@[simp] theorem length_numsL (s : Sp) : (numsL s).length = s.reads.length := by simp [numsL]
theorem keepR_len (l : List Rd) (ns : List Int) : (keepR l ns).length ≤ l.length := List.length_filter_le _ _
theorem take_snoc {α : Type} [Inhabited α] {l : List α} {k : Nat} (h : k < l.length) : l.take (k + 1) = l.take k ++ [l.getD k default] := by
  rw [List.take_add_one, List.getElem?_eq_getElem h]
  simp [h]
theorem keepR_yes {l : List Rd} {ns : List Int} {k : Nat} (h : k < l.length) (hn : (l.getD k default).num ∉ ns) : keepR (l.take (k + 1)) ns = keepR (l.take k) ns ++ [l.getD k default] := by
  rw [take_snoc h]
  simp only [keepR, List.filter_append]
  rw [List.filter_cons_of_pos (by simpa using hn)]
  rfl
theorem keepR_no {l : List Rd} {ns : List Int} {k : Nat} (h : k < l.length) (hn : (l.getD k default).num ∈ ns) : keepR (l.take (k + 1)) ns = keepR (l.take k) ns := by
  rw [take_snoc h]
  simp only [keepR, List.filter_append]
  rw [List.filter_cons_of_neg (by simpa using hn)]
  simp
theorem mem_take_succ {ns : List Int} {j : Nat} (h : j < ns.length) {x : Int} : x ∈ ns.take (j + 1) ↔ (x ∈ ns.take j ∨ ns.getD j 0 = x) := by
  rw [show ns.take (j + 1) = ns.take j ++ [ns.getD j 0] from take_snoc h]
  simp [eq_comm]
/-- Readings in order: each is right, each Number is greater than all before. -/
theorem readsP_iff {s : Sp} : ReadsP s ↔ (∀ x ∈ s.reads, RdP x s.weeks) ∧ s.reads.Pairwise fun a b => a.num < b.num := by
  constructor
  · intro h
    refine ⟨fun x hx => ?_, ?_⟩
    · obtain ⟨i, hi, rfl⟩ := List.getElem_of_mem hx
      exact (h i hi).1
    · rw [List.pairwise_iff_getElem]
      intro i j hi hj hij
      have key : ∀ m, ∀ (hm : i + m + 1 < s.reads.length), s.reads[i].num < s.reads[i + m + 1].num := by
        intro m
        induction m with
        | zero =>
          intro hm
          have := (h (i + 1) hm).2 (by omega)
          rw [Nat.add_sub_cancel] at this
          simpa [hi] using this
        | succ m ih =>
          intro hm
          have h1 := ih (by omega)
          have := (h (i + m + 1 + 1) (by omega)).2 (by omega)
          rw [Nat.add_sub_cancel] at this
          rw [List.getD_eq_getElem?_getD, List.getElem?_eq_getElem (show i + m + 1 < s.reads.length by omega)] at this
          simp only [Option.getD_some] at this
          have e : i + (m + 1) + 1 = i + m + 1 + 1 := by omega
          simp only [e]
          omega
      have := key (j - i - 1) (by omega)
      have e : i + (j - i - 1) + 1 = j := by omega
      simpa only [e] using this
  · rintro ⟨h1, h2⟩ i hi
    refine ⟨h1 _ (List.getElem_mem hi), fun h0 => ?_⟩
    have := List.pairwise_iff_getElem.1 h2 (i - 1) i (by omega) hi (by omega)
    simpa [show i - 1 < s.reads.length by omega] using this
theorem nums_nodup {s : Sp} (h : ReadsP s) : (numsL s).Nodup := by
  have := (readsP_iff.1 h).2
  unfold numsL
  rw [List.Nodup, List.pairwise_map]
  exact this.imp fun h => by omega
theorem wo_valid {s : Sp} (h : SpP s) (ns : List Int) : SpP (wo s ns) := by
  refine ⟨?_, h.2.1, ?_⟩
  · have h1 := h.1
    unfold HeadP at h1 ⊢
    have := keepR_len s.reads ns
    simp only [wo]
    omega
  · have := readsP_iff.1 h.2.2
    exact readsP_iff.2 ⟨fun x hx => this.1 x (List.mem_filter.1 hx).1, this.2.filter _⟩
theorem nodup_at {l : List Rd} (h : (l.map (·.num)).Nodup) {i j : Nat} (hi : i < l.length) (hj : j < l.length) (he : (l.getD i default).num = (l.getD j default).num) : i = j := by
  have hp := List.pairwise_iff_getElem.1 h
  have e1 : l[i].num = l[j].num := by simpa [hi, hj] using he
  rcases Nat.lt_trichotomy i j with hlt | rfl | hlt
  · exact absurd (by rw [List.getElem_map, List.getElem_map]; exact e1) (hp i j (by simpa using hi) (by simpa using hj) hlt)
  · rfl
  · exact absurd (by rw [List.getElem_map, List.getElem_map]; exact e1.symm) (hp j i (by simpa using hj) (by simpa using hi) hlt)
def gvL (s : Sp) (week : Int) : List Int := [givesLo s week, givesHi s week]
/-- On which readings a week rests. -/
def restsTo (s : Sp) (week : Int) (k : Nat) : List Int := ((s.reads.take k).filter fun x => decide (gvL (wo s [x.num]) week ≠ gvL s week)).map (·.num)
def restsL (s : Sp) (week : Int) : List Int := if toldE s week = 0 then restsTo s week s.reads.length else []
theorem restsTo_yes {s : Sp} {week : Int} {k : Nat} (h : k < s.reads.length) (hc : gvL (wo s [(s.reads.getD k default).num]) week ≠ gvL s week) : restsTo s week (k + 1) = restsTo s week k ++ [(s.reads.getD k default).num] := by
  unfold restsTo
  rw [take_snoc h, List.filter_append, List.filter_cons_of_pos (by simpa using hc)]
  simp
theorem restsTo_no {s : Sp} {week : Int} {k : Nat} (h : k < s.reads.length) (hc : gvL (wo s [(s.reads.getD k default).num]) week = gvL s week) : restsTo s week (k + 1) = restsTo s week k := by
  unfold restsTo
  rw [take_snoc h, List.filter_append, List.filter_cons_of_neg (by simpa using hc)]
  simp
theorem restsTo_len (s : Sp) (week : Int) (k : Nat) : (restsTo s week k).length ≤ k := by
  unfold restsTo
  rw [List.length_map]
  exact Nat.le_trans (List.length_filter_le _ _) (by simp; omega)
/-- The first list of so many readings more, of those from an index on, without which there is a truth. -/
def struckFrom (rec : Nat → List Int → Option (List Int)) (s : Sp) (l : List Int) : Nat → Nat → Option (List Int)
  | _, 0 => none
  | i, f + 1 => match rec (i + 1) (l ++ [(s.reads.getD i default).num]) with
    | some r => some r
    | none => struckFrom rec s l (i + 1) f
def struckP (s : Sp) : Nat → Nat → List Int → Option (List Int)
  | 0, _, l => if TrueP (wo s l) then some l else none
  | m + 1, i, l => struckFrom (struckP s m) s l i (s.reads.length - i)
theorem struck_done {s : Sp} {m : Nat} {i : Nat} {l : List Int} (h : s.reads.length ≤ i) : struckP s (m + 1) i l = none := by
  rw [struckP, Nat.sub_eq_zero_of_le h, struckFrom]
theorem struck_step {s : Sp} {m : Nat} {i : Nat} {l : List Int} (h : i < s.reads.length) : struckP s (m + 1) i l = (match struckP s m (i + 1) (l ++ [(s.reads.getD i default).num]) with
    | some r => some r
    | none => struckP s (m + 1) (i + 1) l) := by
  rw [struckP, show s.reads.length - i = (s.reads.length - (i + 1)) + 1 by omega, struckFrom]
  rfl
/-- The readings that must be false; the error. -/
def wrongF (s : Sp) : Option (List Int) := match struckP s 0 0 [] with
  | some r => some r
  | none => match struckP s 1 0 [] with
    | some r => some r
    | none => struckP s 2 0 []
def wrongE (s : Sp) : Int := if ¬SpP s then 10 else if (wrongF s).isSome then 0 else if ¬TrueP { s with reads := [] } then 6 else 4
def wrongL (s : Sp) : List Int := if SpP s then (wrongF s).getD [] else []
end Go.S

/- What is true of a spring, and what is told of it: the plain words. Nothing of Go stands here. -/
namespace Go.S
open Go.X (G)
/-- What may be given week by week, with a rain, of what is left of each week. -/
def Tl (s : Sp) (L : List Int) (rain : Int) (t : Nat → Int) : Prop := ∀ w, w < s.weeks.toNat →
  (G L w ≤ t w ∧ t w ≤ G L (10 + w)) ∧ (∀ x ∈ s.book, x.wk = w → Wi rain x.r0 x.r1 → Wi (t w) x.g0 x.g1) ∧ (0 < w → t (w - 1) - s.fall ≤ t w ∧ t w ≤ t (w - 1))
theorem lines_tr {s : Sp} (hv : SpP s) {L : List Int} (hL : L.length = 20) (rain : Int) {w : Nat} (hw : w < s.weeks.toNat) (m : Int) : ∀ k, k ≤ s.book.length →
    ((G (linesTo s L rain k) w ≤ m ∧ m ≤ G (linesTo s L rain k) (10 + w)) ↔ ((G L w ≤ m ∧ m ≤ G L (10 + w)) ∧ ∀ x ∈ s.book.take k, x.wk = w → Wi rain x.r0 x.r1 → Wi m x.g0 x.g1))
  | 0, _ => by simp [linesTo]
  | k + 1, hk => by
    have ih := lines_tr hv hL rain hw m k (by omega)
    have h1 := hv.1; unfold HeadP at h1
    have hb := bookD hv.2.1 (show k < s.book.length by omega)
    have hlen : (linesTo s L rain k).length = 20 := by rw [linesTo_len]; exact hL
    rw [take_snoc (show k < s.book.length by omega)]
    simp only [linesTo, List.getElem?_eq_getElem (show k < s.book.length by omega), lineStep]
    have e : s.book[k] = s.book.getD k default := by simp [show k < s.book.length by omega]
    rw [e]
    generalize s.book.getD k default = x at *
    have hx : ∀ p : Prop, (∀ y ∈ s.book.take k ++ [x], y.wk = w → Wi rain y.r0 y.r1 → Wi m y.g0 y.g1) ↔ ((∀ y ∈ s.book.take k, y.wk = w → Wi rain y.r0 y.r1 → Wi m y.g0 y.g1) ∧ (x.wk = w → Wi rain x.r0 x.r1 → Wi m x.g0 x.g1)) := by
      intro _
      constructor
      · intro h; exact ⟨fun y hy => h y (by simp [hy]), h x (by simp)⟩
      · rintro ⟨h2, h3⟩ y hy
        rcases List.mem_append.1 hy with hy | hy
        · exact h2 y hy
        · simp at hy; subst hy; exact h3
    rw [hx True]
    by_cases hr : Wi rain x.r0 x.r1
    · rw [if_pos hr]
      obtain ⟨a1, a2⟩ := setA_at hlen (i := x.wk.toNat) (j := w) (by omega) (by omega) (max (G (linesTo s L rain k) x.wk.toNat) x.g0) (min (G (linesTo s L rain k) (10 + x.wk.toNat)) x.g1)
      rw [a1, a2]
      by_cases hwk : x.wk.toNat = w
      · rw [if_pos hwk, if_pos hwk, hwk]
        have e2 : x.wk = w := by omega
        constructor
        · intro h
          have := ih.1 (by omega)
          exact ⟨this.1, this.2, fun _ _ => by omega⟩
        · rintro ⟨h2, h3, h4⟩
          have := ih.2 ⟨h2, h3⟩
          have := h4 e2 hr
          omega
      · rw [if_neg hwk, if_neg hwk, ih]
        constructor
        · rintro ⟨h2, h3⟩
          exact ⟨h2, h3, fun e => by omega⟩
        · rintro ⟨h2, h3, _⟩
          exact ⟨h2, h3⟩
    · rw [if_neg hr, ih]
      constructor
      · rintro ⟨h2, h3⟩
        exact ⟨h2, h3, fun _ h => absurd h hr⟩
      · rintro ⟨h2, h3, _⟩
        exact ⟨h2, h3⟩
theorem tl_tr {s : Sp} (hv : SpP s) {L : List Int} (hL : L.length = 20) (rain : Int) (t : Nat → Int) :
    Tr s.weeks.toNat s.fall (fun w => G (linesTo s L rain s.book.length) w) (fun w => G (linesTo s L rain s.book.length) (10 + w)) t ↔ Tl s L rain t := by
  constructor
  · intro h w hw
    have h1 := h w hw
    have h2 := (lines_tr hv hL rain hw (t w) s.book.length (Nat.le_refl _)).1 ⟨h1.1, h1.2.1⟩
    rw [List.take_length] at h2
    exact ⟨h2.1, h2.2, h1.2.2⟩
  · intro h w hw
    have h1 := h w hw
    have h2 := (lines_tr hv hL rain hw (t w) s.book.length (Nat.le_refl _)).2 (by rw [List.take_length]; exact ⟨h1.1, h1.2.1⟩)
    exact ⟨h2.1, h2.2, h1.2.2⟩
theorem lv_ref {s : Sp} (hv : SpP s) {L : List Int} (hL : L.length = 20) (rain : Int) : RefP s.weeks.toNat s.fall (linesTo s L rain s.book.length) (lvL s L rain) := by
  have h1 := hv.1; unfold HeadP at h1
  exact ref_ok (by rw [linesTo_len]; exact hL) (by omega) (by omega) (by omega)
/-- All that may be given lies within what a rain leaves. -/
theorem lv_in {s : Sp} (hv : SpP s) {L : List Int} (hL : L.length = 20) {rain : Int} {t : Nat → Int} (h : Tl s L rain t) : ∀ w, w < s.weeks.toNat → G (lvL s L rain) w ≤ t w ∧ t w ≤ G (lvL s L rain) (10 + w) :=
  (lv_ref hv hL rain).wn t ((tl_tr hv hL rain t).2 h)
theorem lv_bool {s : Sp} (hv : SpP s) {L : List Int} (hL : L.length = 20) {rain : Int} {t : Nat → Int} (h : Tl s L rain t) : lvB s L rain := fun w hw => by
  have := lv_in hv hL h w hw
  omega
/-- Both ends may be given. -/
theorem lv_ends {s : Sp} (hv : SpP s) {L : List Int} (hL : L.length = 20) {rain : Int} (h : lvB s L rain) : Tl s L rain (fun w => G (lvL s L rain) w) ∧ Tl s L rain (fun w => G (lvL s L rain) (10 + w)) := by
  have h1 := hv.1; unfold HeadP at h1
  have hr := lv_ref hv hL rain
  have := ends_true hr.stp (fun w hw => hr.sub w (by omega)) h
  exact ⟨(tl_tr hv hL rain _).1 this.1, (tl_tr hv hL rain _).1 this.2⟩
theorem lv_iff {s : Sp} (hv : SpP s) {L : List Int} (hL : L.length = 20) {rain : Int} : lvB s L rain ↔ ∃ t, Tl s L rain t :=
  ⟨fun h => ⟨_, (lv_ends hv hL h).1⟩, fun ⟨_, h⟩ => lv_bool hv hL h⟩
/-- What readings leave: just the numbers that are right. -/
theorem base_mem {s : Sp} (hv : SpP s) {w : Nat} (hw : w < s.weeks.toNat) (m : Int) : (G (baseL s) w ≤ m ∧ m ≤ G (baseL s) (10 + w)) ↔ ((0 ≤ m ∧ m ≤ s.most) ∧ OkP s w m) := by
  have h1 := hv.1; unfold HeadP at h1
  have hf := flTo_mem hv s.reads.length (Nat.le_refl _) w hw
  have hb := (relW hv).rel w hw
  have hfl : flTo s s.reads.length = flL s := rfl
  rw [hfl] at hf
  constructor
  · intro h
    rcases hb with ⟨a, b⟩ | ⟨a, b⟩
    · have hle := hf.2
      have hr : 0 ≤ m ∧ m ≤ s.most := by omega
      exact ⟨hr, okP_iff.2 ((hf.1 m hr.1 hr.2).2 (by omega))⟩
    · omega
  · rintro ⟨h2, h3⟩
    have := (hf.1 m h2.1 h2.2).1 (okP_iff.1 h3)
    rcases hb with ⟨a, b⟩ | ⟨a, b⟩ <;> omega
theorem base_len {s : Sp} (hv : SpP s) : (baseL s).length = 20 := (baseL_Bd hv).len
/-- A truth: a rain, and what is given week by week. -/
def Truth (s : Sp) (rain : Int) (t : Nat → Int) : Prop := ∀ w, w < s.weeks.toNat →
  ((0 ≤ t w ∧ t w ≤ s.most) ∧ OkP s w (t w)) ∧ (∀ x ∈ s.book, x.wk = w → Wi rain x.r0 x.r1 → Wi (t w) x.g0 x.g1) ∧ (0 < w → t (w - 1) - s.fall ≤ t w ∧ t w ≤ t (w - 1))
theorem truth_tl {s : Sp} (hv : SpP s) {rain : Int} {t : Nat → Int} : Truth s rain t ↔ Tl s (baseL s) rain t := by
  constructor
  · intro h w hw
    have := h w hw
    exact ⟨(base_mem hv hw _).2 this.1, this.2⟩
  · intro h w hw
    have := h w hw
    exact ⟨(base_mem hv hw _).1 this.1, this.2⟩
theorem mem_rnsTo {s : Sp} {L : List Int} {r : Int} : ∀ k, r ∈ rnsTo s L k ↔ ∃ i : Nat, i < k ∧ r = s.w0 + i ∧ lvB s L r
  | 0 => by simp [rnsTo]
  | k + 1 => by
    have ih := mem_rnsTo (s := s) (L := L) (r := r) k
    simp only [rnsTo]
    split
    · rename_i hb
      rw [List.mem_append, ih]
      constructor
      · rintro (⟨i, h1, h2, h3⟩ | h)
        · exact ⟨i, by omega, h2, h3⟩
        · simp at h
          exact ⟨k, by omega, h, h ▸ hb⟩
      · rintro ⟨i, h1, h2, h3⟩
        by_cases e : i = k
        · right; simp [h2, e]
        · exact .inl ⟨i, by omega, h2, h3⟩
    · rename_i hb
      rw [ih]
      constructor
      · rintro ⟨i, h1, h2, h3⟩
        exact ⟨i, by omega, h2, h3⟩
      · rintro ⟨i, h1, h2, h3⟩
        by_cases e : i = k
        · subst e; subst h2; exact absurd h3 hb
        · exact ⟨i, by omega, h2, h3⟩
theorem mem_rnsL {s : Sp} {L : List Int} {r : Int} : r ∈ rnsL s L ↔ Wi r s.w0 s.w1 ∧ lvB s L r := by
  rw [rnsL, mem_rnsTo]
  unfold rnN
  constructor
  · rintro ⟨i, h1, h2, h3⟩
    exact ⟨by omega, h3⟩
  · rintro ⟨h1, h3⟩
    exact ⟨(r - s.w0).toNat, by omega, by omega, h3⟩
/-- There is a truth. -/
theorem true_iff {s : Sp} (hv : SpP s) : TrueP s ↔ ∃ rain t, Wi rain s.w0 s.w1 ∧ Truth s rain t := by
  have : TrueP s ↔ ∃ r, r ∈ rnsL s (baseL s) := by
    unfold TrueP
    constructor
    · intro h
      cases hl : rnsL s (baseL s) with
      | nil => exact absurd hl h
      | cons a l => exact ⟨a, by simp⟩
    · rintro ⟨r, h⟩ e
      rw [e] at h; cases h
  rw [this]
  constructor
  · rintro ⟨r, h⟩
    obtain ⟨h1, h2⟩ := mem_rnsL.1 h
    obtain ⟨t, h3⟩ := (lv_iff hv (base_len hv)).1 h2
    exact ⟨r, t, h1, (truth_tl hv).2 h3⟩
  · rintro ⟨r, t, h1, h2⟩
    exact ⟨r, mem_rnsL.2 ⟨h1, (lv_iff hv (base_len hv)).2 ⟨t, (truth_tl hv).1 h2⟩⟩⟩
/-- Fewer readings: no fewer truths. -/
theorem truth_sub {s : Sp} {l : List Rd} (hl : ∀ x ∈ l, x ∈ s.reads) {rain : Int} {t : Nat → Int} (h : Truth s rain t) : Truth { s with reads := l } rain t := by
  intro w hw
  have := h w hw
  refine ⟨⟨this.1.1, fun i hi => ?_⟩, this.2⟩
  obtain ⟨j, hj, he⟩ := List.getElem_of_mem (hl _ (List.getElem_mem hi))
  have := this.1.2 j hj
  rw [he] at this
  exact this
theorem wo_all {s : Sp} : wo s (numsL s) = { s with reads := [] } := by
  unfold wo keepR
  have : (s.reads.filter fun x => decide (x.num ∉ numsL s)) = [] := by
    rw [List.filter_eq_nil_iff]
    intro x hx
    simp only [numsL, decide_eq_true_eq, Decidable.not_not, List.mem_map]
    exact ⟨x, hx, rfl⟩
  rw [this]
theorem struckFrom_true {s : Sp} {rec : Nat → List Int → Option (List Int)} {l : List Int} (hrec : ∀ i l r, rec i l = some r → ∃ l', TrueP (wo s l')) : ∀ (f i : Nat) {r : List Int}, struckFrom rec s l i f = some r → ∃ l', TrueP (wo s l')
  | 0, _, _, h => by cases h
  | f + 1, i, r, h => by
    simp only [struckFrom] at h
    split at h
    · rename_i r' hr
      exact hrec _ _ _ hr
    · exact struckFrom_true hrec f (i + 1) h
theorem struck_true {s : Sp} : ∀ (m i : Nat) (l : List Int) {r : List Int}, struckP s m i l = some r → ∃ l', TrueP (wo s l')
  | 0, _, l, r, h => by
    simp only [struckP] at h
    split at h
    · rename_i ht; exact ⟨l, ht⟩
    · cases h
  | m + 1, i, l, r, h => struckFrom_true (fun i l r h => struck_true m i l h) _ _ h
/-- Without any reading there is no truth: none without some. -/
theorem none_struck {s : Sp} (hv : SpP s) (h : ¬TrueP { s with reads := [] }) (m i : Nat) (l : List Int) : struckP s m i l = none := by
  cases hs : struckP s m i l with
  | none => rfl
  | some r =>
    exfalso
    obtain ⟨l', ht⟩ := struck_true m i l hs
    obtain ⟨rain, t, h1, h2⟩ := (true_iff (wo_valid hv l')).1 ht
    have hv2 : SpP { s with reads := [] } := wo_all ▸ wo_valid hv (numsL s)
    refine h ((true_iff hv2).2 ⟨rain, t, h1, ?_⟩)
    exact truth_sub (s := wo s l') (l := []) (fun x hx => by cases hx) h2
theorem wrong_none {s : Sp} (hv : SpP s) (h : ¬TrueP { s with reads := [] }) : wrongF s = none := by
  simp [wrongF, none_struck hv h]
end Go.S

/- What all rains leave of each week. Nothing of Go stands here. -/
namespace Go.S
open Go.X (G)
def mk20 (lo hi : Nat → Int) : List Int := (List.range 20).map fun i => if i % 2 = 0 then lo (i / 2) else hi (i / 2)
@[simp] theorem mk20_len (lo hi : Nat → Int) : (mk20 lo hi).length = 20 := by simp [mk20]
theorem mk20_at (lo hi : Nat → Int) {w : Nat} (hw : w < 10) : Lo (mk20 lo hi) w = lo w ∧ Hi (mk20 lo hi) w = hi w := by
  unfold Lo Hi mk20
  constructor
  · have : w * 2 < 20 := by omega
    simp [G, this]
  · have h1 : w * 2 + 1 < 20 := by omega
    have h2 : (w * 2 + 1) % 2 = 1 := by omega
    have h3 : (w * 2 + 1) / 2 = w := by omega
    simp [G, h1, h2, h3]
def oLo (n : Nat) (A : List (List Int)) (i : Nat) : Int := if A = [] ∨ n ≤ i then 0 else hLo A i
def oHi (n : Nat) (A : List (List Int)) (i : Nat) : Int := if A = [] ∨ n ≤ i then 0 else hHi A i
def outL (n : Nat) (A : List (List Int)) : List Int := mk20 (oLo n A) (oHi n A)
theorem hTo_snoc {A : List (List Int)} (X : List Int) (w : Nat) (hA : A ≠ []) : ∀ k, k ≤ A.length → hLoTo (A ++ [X]) w k = hLoTo A w k ∧ hHiTo (A ++ [X]) w k = hHiTo A w k
  | 0, _ => by
    have h0 : 0 < A.length := List.length_pos_iff.2 hA
    have e : (A ++ [X]).getD 0 [] = A.getD 0 [] := by rw [List.getD_eq_getElem?_getD, List.getD_eq_getElem?_getD, List.getElem?_append_left h0]
    simp only [hLoTo, hHiTo, e]; exact ⟨trivial, trivial⟩
  | k + 1, hk => by
    have ih := hTo_snoc X w hA k (by omega)
    have h0 : k < A.length := by omega
    have e : (A ++ [X]).getD k [] = A.getD k [] := by rw [List.getD_eq_getElem?_getD, List.getD_eq_getElem?_getD, List.getElem?_append_left h0]
    simp only [hLoTo, hHiTo, ih.1, ih.2, e]; exact ⟨trivial, trivial⟩
theorem h_snoc {A : List (List Int)} (X : List Int) (w : Nat) : hLo (A ++ [X]) w = (if A = [] then G X w else min (hLo A w) (G X w)) ∧ hHi (A ++ [X]) w = (if A = [] then G X (10 + w) else max (hHi A w) (G X (10 + w))) := by
  by_cases hA : A = []
  · subst hA
    rw [if_pos rfl, if_pos rfl]
    simp [hLo, hHi, hLoTo, hHiTo]
  · rw [if_neg hA, if_neg hA]
    have h := hTo_snoc X w hA A.length (Nat.le_refl _)
    unfold hLo hHi
    rw [show (A ++ [X]).length = A.length + 1 by simp]
    simp only [hLoTo, hHiTo, h.1, h.2]
    simp
/-- One rain more: week j. -/
theorem o_snoc {n : Nat} {A : List (List Int)} (X : List Int) {i : Nat} (hi : i < n) : oLo n (A ++ [X]) i = (if A = [] then G X i else min (oLo n A i) (G X i)) ∧ oHi n (A ++ [X]) i = (if A = [] then G X (10 + i) else max (oHi n A i) (G X (10 + i))) := by
  obtain ⟨h1, h2⟩ := h_snoc (A := A) X i
  unfold oLo oHi
  have hne : ¬((A ++ [X]) = [] ∨ n ≤ i) := by
    rintro (h | h)
    · simp at h
    · omega
  simp only [if_neg hne, h1, h2]
  by_cases hA : A = []
  · simp only [if_pos hA]; exact ⟨trivial, trivial⟩
  · have hne2 : ¬(A = [] ∨ n ≤ i) := by
      rintro (h | h)
      · exact hA h
      · omega
    simp only [if_neg hA, if_neg hne2]; exact ⟨trivial, trivial⟩
theorem o_rest {n : Nat} {A : List (List Int)} {i : Nat} (hi : n ≤ i) : oLo n A i = 0 ∧ oHi n A i = 0 := by
  unfold oLo oHi
  rw [if_pos (.inr hi), if_pos (.inr hi)]; exact ⟨rfl, rfl⟩
/-- M holds what the rains of A leave. -/
structure IsO (n : Nat) (A : List (List Int)) (M : List Int) : Prop where
  len : M.length = 20
  at_ : ∀ i, i < 10 → Lo M i = oLo n A i ∧ Hi M i = oHi n A i
theorem IsO.eq {n : Nat} {A : List (List Int)} {M : List Int} (h : IsO n A M) : M = outL n A :=
  list_ext20 h.len (by simp [outL]) fun j hj => by
    obtain ⟨h1, h2⟩ := mk20_at (oLo n A) (oHi n A) hj
    have := h.at_ j hj
    rw [this.1, this.2]; exact ⟨h1.symm, h2.symm⟩
theorem IsO.zero (n : Nat) : IsO n [] (List.replicate 20 0) := ⟨by simp, fun i hi => by
  have h : ∀ i, i < 10 → G (List.replicate 20 (0 : Int)) (i * 2) = 0 ∧ G (List.replicate 20 (0 : Int)) (i * 2 + 1) = 0 := by decide
  have := h i hi
  simp only [Lo, Hi, this.1, this.2, oLo, oHi, true_or, if_true, and_self]⟩
/-- Weeks below j have the new rain. -/
structure MidO (n : Nat) (A : List (List Int)) (X : List Int) (j : Nat) (M : List Int) : Prop where
  len : M.length = 20
  new_ : ∀ i, i < j → i < 10 → Lo M i = oLo n (A ++ [X]) i ∧ Hi M i = oHi n (A ++ [X]) i
  old_ : ∀ i, j ≤ i → i < 10 → Lo M i = oLo n A i ∧ Hi M i = oHi n A i
theorem IsO.mid {n : Nat} {A : List (List Int)} {M : List Int} (h : IsO n A M) (X : List Int) : MidO n A X 0 M := ⟨h.len, fun _i hi => absurd hi (Nat.not_lt_zero _), fun i _ hi => h.at_ i hi⟩
theorem MidO.done {n : Nat} {A : List (List Int)} {X M : List Int} (h : MidO n A X n M) : IsO n (A ++ [X]) M := ⟨h.len, fun i hi => by
  by_cases e : i < n
  · exact h.new_ i e hi
  · have a := h.old_ i (by omega) hi
    have b := o_rest (A := A) (show n ≤ i by omega); have c := o_rest (A := A ++ [X]) (show n ≤ i by omega)
    omega⟩
theorem MidO.next {n : Nat} {A : List (List Int)} {X M M3 : List Int} {j : Nat} (h : MidO n A X j M) (hj : j < n) (hn : n ≤ 10) (h3 : M3 = if A = [] then set2 M j (G X j, G X (10 + j)) else M) :
    MidO n A X (j + 1) (set2 M3 j (min (Lo M3 j) (G X j), max (Hi M3 j) (G X (10 + j)))) := by
  have hl : M3.length = 20 := by rw [h3]; split <;> simp [h.len]
  have hs := o_snoc (A := A) X hj
  have hold := h.old_ j (Nat.le_refl _) (by omega)
  have e3 : Lo M3 j = (if A = [] then G X j else oLo n A j) ∧ Hi M3 j = (if A = [] then G X (10 + j) else oHi n A j) := by
    rw [h3]
    by_cases hA : A = []
    · rw [if_pos hA, if_pos hA, if_pos hA]
      obtain ⟨a, b⟩ := set2_at h.len (i := j) (j := j) (by omega) (by omega) (G X j, G X (10 + j))
      rw [a, b, if_pos rfl, if_pos rfl]; exact ⟨rfl, rfl⟩
    · rw [if_neg hA, if_neg hA, if_neg hA]; exact hold
  have e4 : ∀ i, i < 10 → i ≠ j → Lo M3 i = Lo M i ∧ Hi M3 i = Hi M i := fun i hi hne => by
    rw [h3]
    by_cases hA : A = []
    · rw [if_pos hA]
      obtain ⟨a, b⟩ := set2_at h.len (i := j) (j := i) (by omega) hi (G X j, G X (10 + j))
      rw [a, b, if_neg (Ne.symm hne), if_neg (Ne.symm hne)]; exact ⟨rfl, rfl⟩
    · rw [if_neg hA]; exact ⟨rfl, rfl⟩
  refine ⟨by simp [hl], fun i hi h10 => ?_, fun i hi h10 => ?_⟩
  · obtain ⟨a, b⟩ := set2_at hl (i := j) (j := i) (by omega) h10 (min (Lo M3 j) (G X j), max (Hi M3 j) (G X (10 + j)))
    rw [a, b]
    by_cases e : j = i
    · subst e
      rw [if_pos rfl, if_pos rfl, hs.1, hs.2, e3.1, e3.2]
      by_cases hA : A = []
      · simp only [if_pos hA]; omega
      · simp only [if_neg hA]; exact ⟨trivial, trivial⟩
    · rw [if_neg e, if_neg e, (e4 i h10 (Ne.symm e)).1, (e4 i h10 (Ne.symm e)).2]
      exact h.new_ i (by omega) h10
  · obtain ⟨a, b⟩ := set2_at hl (i := j) (j := i) (by omega) h10 (min (Lo M3 j) (G X j), max (Hi M3 j) (G X (10 + j)))
    rw [a, b, if_neg (by omega), if_neg (by omega), (e4 i h10 (by omega)).1, (e4 i h10 (by omega)).2]
    exact h.old_ i (by omega) h10
end Go.S

/- Weeks in which it fails, what gives least and most, buckets, what tells most: the plain words. Nothing of Go stands here. -/
namespace Go.S
open Go.X (G idxF)
/-! ### the first that is least -/
def amin (f : Nat → Int) : Nat → Nat
  | 0 => 0
  | k + 1 => if f (k + 1) < f (amin f k) then k + 1 else amin f k
theorem amin_le (f : Nat → Int) : ∀ k, amin f k ≤ k
  | 0 => Nat.le_refl _
  | k + 1 => by
    have := amin_le f k
    simp only [amin]
    split <;> omega
theorem amin_min (f : Nat → Int) : ∀ k i, i ≤ k → f (amin f k) ≤ f i
  | 0, i, h => by
    obtain rfl : i = 0 := by omega
    exact Int.le_refl _
  | k + 1, i, h => by
    have ih := amin_min f k
    simp only [amin]
    split
    · rename_i hlt
      by_cases e : i = k + 1
      · subst e; exact Int.le_refl _
      · have := ih i (by omega); omega
    · rename_i hlt
      by_cases e : i = k + 1
      · subst e; omega
      · exact ih i (by omega)
theorem amin_first (f : Nat → Int) : ∀ k i, i < amin f k → f (amin f k) < f i
  | 0, i, h => by simp [amin] at h
  | k + 1, i, h => by
    have ih := amin_first f k
    have im := amin_min f k
    simp only [amin] at h ⊢
    split
    · rename_i hlt
      rw [if_pos hlt] at h
      have := im i (by omega); omega
    · rename_i hlt
      rw [if_neg hlt] at h
      exact ih i h
theorem amin_congr {f g : Nat → Int} : ∀ k, (∀ i, i ≤ k → f i = g i) → amin f k = amin g k
  | 0, _ => rfl
  | k + 1, h => by
    have ih := amin_congr (f := f) (g := g) k fun i hi => h i (by omega)
    simp only [amin, ih]
    rw [h (k + 1) (Nat.le_refl _), h (amin g k) (by have := amin_le g k; omega)]
/-! ### sums -/
def sumTo (l : List Int) : Nat → Int
  | 0 => 0
  | k + 1 => sumTo l k + l.getD k 0
def sumL (l : List Int) : Int := sumTo l l.length
/-- The lower ends (off = 0) or the upper ones (off = 10) of so many weeks. -/
def endL (X : List Int) (off n : Nat) : List Int := (X.drop off).take n
theorem endL_len {X : List Int} (hX : X.length = 20) {off n : Nat} (ho : off ≤ 10) (hn : n ≤ 10) : (endL X off n).length = n := by
  simp only [endL, List.length_take, List.length_drop]; omega
theorem endL_at {X : List Int} {off n w : Nat} (hw : w < n) : (endL X off n).getD w 0 = G X (off + w) := by
  simp [endL, G, hw]
theorem sumTo_bd {l : List Int} (h : ∀ i, i < l.length → -1000 ≤ l.getD i 0 ∧ l.getD i 0 ≤ 1000) : ∀ k, k ≤ l.length → -(1000 * (k : Int)) ≤ sumTo l k ∧ sumTo l k ≤ 1000 * (k : Int)
  | 0, _ => by simp [sumTo]
  | k + 1, hk => by
    have ih := sumTo_bd h k (by omega)
    have := h k (by omega)
    simp only [sumTo]
    omega
/-! ### weeks -/
/-- The value of the first week that is so, and the error. -/
def wkE (s : Sp) (i : Int) : Int := if toldE s 0 ≠ 0 then toldE s 0 else if 0 ≤ i then 0 else 6
def wkV (s : Sp) (i : Int) : Int := if toldE s 0 ≠ 0 then 0 else if 0 ≤ i then i else 0
def loI (s : Sp) (need : Int) : Int := idxF (fun w => hLo (toldA s 0) w < need) s.weeks.toNat
def hiI (s : Sp) (need : Int) : Int := idxF (fun w => hHi (toldA s 0) w < need) s.weeks.toNat
/-! ### the truths that give least and most -/
def endsL (s : Sp) (off i : Nat) : List Int := endL ((toldA s 0).getD i []) off s.weeks.toNat
def poorI (s : Sp) : Nat := amin (fun i => sumL (endsL s 0 i)) ((toldL s 0).length - 1)
def richI (s : Sp) : Nat := amin (fun i => -sumL (endsL s 10 i)) ((toldL s 0).length - 1)
def bestR (s : Sp) (i : Nat) : Int := if toldE s 0 = 0 then (toldL s 0).getD i 0 else 0
def bestL (s : Sp) (off i : Nat) : List Int := if toldE s 0 = 0 then endsL s off i else []
/-! ### buckets -/
def fillE (s : Sp) (week bucket : Int) : Int := if ¬SpP s then 10 else if ¬Wi week 0 (s.weeks - 1) then 11 else if ¬Wi bucket 1 40 then 14 else if toldE s week ≠ 0 then toldE s week else if givesLo s week = 0 then 6 else 0
def fillLo (s : Sp) (week bucket : Int) : Int := if fillE s week bucket = 0 then (3600 * bucket) / givesHi s week else 0
def fillHi (s : Sp) (week bucket : Int) : Int := if fillE s week bucket = 0 then (3600 * bucket + givesLo s week - 1) / givesLo s week else 0
/-! ### what tells most -/
def widTo (A : List (List Int)) : Nat → Int
  | 0 => 0
  | k + 1 => widTo A k + (hHi A k - hLo A k)
def wideP (s : Sp) (L : List Int) : Int := if rnsL s L = [] then -1 else widTo (lvsL s L (rnsL s L)) s.weeks.toNat
/-- One week is known. -/
def oneW (L : List Int) (w : Nat) (n : Int) : List Int := (L.set w n).set (10 + w) n
def leftTo (s : Sp) (w : Nat) : Nat → Int
  | 0 => 0
  | k + 1 => max (leftTo s w k) (wideP s (oneW (baseL s) w (G (baseL s) w + k)))
def leftN (s : Sp) (w : Nat) : Nat := (G (baseL s) (10 + w) + 1 - G (baseL s) w).toNat
def leftP (s : Sp) (w : Nat) : Int := leftTo s w (leftN s w)
def lookI (s : Sp) : Nat := amin (leftP s) (s.weeks.toNat - 1)
def lookW (s : Sp) : Int := if toldE s 0 = 0 then lookI s else 0
def lookV (s : Sp) : Int := if toldE s 0 = 0 then leftP s (lookI s) else 0
end Go.S

/- What rains leave: bounds; rows laid one behind the other. Nothing of Go stands here. -/
namespace Go.S
open Go Go.X
theorem amin_at (f : Nat → Int) {k : Nat} (h : 1 ≤ k) : amin f k = if f k < f (amin f (k - 1)) then k else amin f (k - 1) := by
  obtain ⟨j, rfl⟩ : ∃ j, k = j + 1 := ⟨k - 1, by omega⟩
  rfl
/-- The first least so far, and what it comes to: c where there is none. -/
def bI (f : Nat → Int) (k : Nat) : Nat := amin f (k - 1)
def bV (c : Int) (f : Nat → Int) (k : Nat) : Int := if k = 0 then c else f (amin f (k - 1))
theorem toldA_bd {s : Sp} {week : Int} (he : toldE s week = 0) : ∀ x ∈ toldA s week, Bd x := by
  obtain ⟨hv, _, _⟩ := toldE_valid he
  intro x hx
  obtain ⟨r, _, rfl⟩ := List.mem_map.1 hx
  exact (baseL_Bd hv).lv hv r
theorem getD_mem {A : List (List Int)} {i : Nat} (hi : i < A.length) : A.getD i [] ∈ A := by
  rw [List.getD_eq_getElem?_getD, List.getElem?_eq_getElem hi]
  exact List.getElem_mem hi
theorem told_lens {s : Sp} {week : Int} : (toldA s week).length = (toldL s week).length := by simp [toldA, lvsL]
theorem toldL_pos {s : Sp} {week : Int} (he : toldE s week = 0) : 0 < (toldL s week).length := by
  rw [toldL_ok he]
  exact List.length_pos_iff.2 (toldE_valid he).2.2
theorem toldL_max {s : Sp} {week : Int} (he : toldE s week = 0) : (toldL s week).length ≤ 21 := by
  rw [toldL_ok he]
  exact rnsL_max (toldE_valid he).1 _
/-- What is told may be given: no number is below nought. -/
theorem toldA_nonneg {s : Sp} {week : Int} (he : toldE s week = 0) {i w : Nat} (hi : i < (toldA s week).length) (hw : w < s.weeks.toNat) : 0 ≤ G ((toldA s week).getD i []) w ∧ G ((toldA s week).getD i []) w ≤ G ((toldA s week).getD i []) (10 + w) ∧ G ((toldA s week).getD i []) (10 + w) ≤ s.most := by
  obtain ⟨hv, _, _⟩ := toldE_valid he
  have hm := getD_mem hi
  obtain ⟨r, hr, e⟩ := List.mem_map.1 hm
  rw [← e]
  rw [toldL_ok he] at hr
  have hb := (mem_rnsL.1 hr).2
  obtain ⟨h1, h2⟩ := lv_ends hv (base_len hv) hb
  have a := (base_mem hv hw _).1 (h1 w hw).1
  have b := (base_mem hv hw _).1 (h2 w hw).1
  exact ⟨a.1.1, hb w hw, b.1.2⟩
theorem h_bd {A : List (List Int)} (hA : ∀ x ∈ A, Bd x) (hne : 0 < A.length) {w : Nat} (hw : w < 10) : ∀ k, k ≤ A.length → (-1000 ≤ hLoTo A w k ∧ hLoTo A w k ≤ 1000) ∧ (-1000 ≤ hHiTo A w k ∧ hHiTo A w k ≤ 1000)
  | 0, _ => by
    have := (hA _ (getD_mem (A := A) (i := 0) hne)).2
    exact ⟨this w (by omega), this (10 + w) (by omega)⟩
  | k + 1, hk => by
    have ih := h_bd hA hne hw k (by omega)
    have := (hA _ (getD_mem (A := A) (i := k) (by omega))).2
    have h1 := this w (by omega); have h2 := this (10 + w) (by omega)
    simp only [hLoTo, hHiTo]
    omega
theorem widTo_bd {A : List (List Int)} (hA : ∀ x ∈ A, Bd x) (hne : 0 < A.length) : ∀ k : Nat, k ≤ 10 → -(2000 * (k : Int)) ≤ widTo A k ∧ widTo A k ≤ 2000 * (k : Int)
  | 0, _ => by simp [widTo]
  | k + 1, hk => by
    have ih := widTo_bd hA hne k (by omega)
    have := h_bd hA hne (w := k) (by omega) A.length (Nat.le_refl _)
    simp only [widTo, hLo, hHi]
    omega
theorem Bd.one {L : List Int} (h : Bd L) {w : Nat} {n : Int} (hn : -1000 ≤ n ∧ n ≤ 1000) : Bd (oneW L w n) := (h.set hn).set hn
theorem wide_bd {s : Sp} {L : List Int} (hv : SpP s) (hL : Bd L) : -20000 ≤ wideP s L ∧ wideP s L ≤ 20000 := by
  unfold wideP
  split
  · omega
  · rename_i hne
    have h := hv.1; unfold HeadP at h
    have := widTo_bd (A := lvsL s L (rnsL s L)) (fun x hx => by
      obtain ⟨r, _, rfl⟩ := List.mem_map.1 hx
      exact hL.lv hv r) (by simp only [lvsL, List.length_map]; exact List.length_pos_iff.2 hne) s.weeks.toNat (by omega)
    omega
theorem leftTo_bd {s : Sp} (hv : SpP s) {w : Nat} (hw : w < s.weeks.toNat) : ∀ k, k ≤ leftN s w → 0 ≤ leftTo s w k ∧ leftTo s w k ≤ 20000
  | 0, _ => by simp [leftTo]
  | k + 1, hk => by
    have ih := leftTo_bd hv hw k (by omega)
    have h := hv.1; unfold HeadP at h
    have hb := baseL_Bd hv
    have h1 := hb.2 w (by omega); have h2 := hb.2 (10 + w) (by omega)
    unfold leftN at hk
    have := wide_bd hv (hb.one (w := w) (n := G (baseL s) w + k) (by omega))
    simp only [leftTo]
    omega
/-! ### rows, one behind the other -/
theorem takeAt_of {l : List Value} : ∀ {k off : Nat} {vs : List Value}, vs.length = k → (∀ j, j < k → l[off + j]? = vs[j]?) → takeAt l off k = some vs
  | 0, _, vs, hl, _ => by
    have : vs = [] := List.eq_nil_of_length_eq_zero hl
    subst this; rfl
  | k + 1, off, v :: vs, hl, h => by
    have h0 := h 0 (by omega)
    have ih := takeAt_of (l := l) (k := k) (off := off + 1) (vs := vs) (by simpa using hl) (fun j hj => by
      have := h (j + 1) (by omega)
      simpa [Nat.add_assoc, Nat.add_comm 1 j] using this)
    simp only [takeAt]
    rw [show l[off]? = some v from by simpa using h0, ih]
end Go.S

/- The calculus' rules: a field of a value. Nothing of the program stands here. -/
namespace Go.X
open Go Go.RowKit
/-- A field of one cell: where it lies. -/
def fieldV (P : Program) (t : TypeId) (i : Nat) : Option Nat := match P.underlying t with
  | some (.struct fs) => (match fs[i]? with
    | some f => (match shapeT P f.type with | some none => some f.offset | _ => none)
    | none => none)
  | _ => none
section
variable {C : Cx} {Q : Post} {env : Env} {own : Own} {D : List Deferred} {ops : Array Oper} {rest : List Oper}
variable {d : Nat} {ty : TypeId} {pos : String} {aft : Array Edge} {g : Option (Nat × Bool)} {x y : Operand} {T T' : TypeId}
end
end Go.X

/- The calculus' rules: elements of slices of the call's own. Nothing of the program stands here. -/
namespace Go.X
open Go Go.RowKit
section
variable {C : Cx} {Q : Post} {env : Env} {own : Own} {D : List Deferred} {ops : Array Oper} {rest : List Oper}
variable {d : Nat} {ty : TypeId} {pos : String} {aft : Array Edge} {g : Option (Nat × Bool)} {x y : Operand} {T T' : TypeId}
theorem SXL.indexSl (j : Nat) {r : Sl} {n s : Nat} {k : IntKind} {i : Int} {E : TypeId} {cells : List Value} (he : elemP C.P T = some (none, s)) (hx : ev env x = some (r.val n)) (hy : ev env y = some (.int k i)) (hb : 0 ≤ i ∧ i < n)
    (_hi : own[j]? = some (r.ent E cells)) (hok : r.Ok n s cells)
    (h : ∀ b, r.blk = some b → SXL C ops rest Q ⟨(d, .pointer (some ⟨b, 0 + i.toNat * s, none⟩)) :: env, own, D⟩) (hd : Nat.blt d C.n = true := by rfl) (hw : Wanted ops g env = some true := by rfl) :
    SXL C ops ({ dst := some d, op := .indexAddr T x y, type := ty, pos, after := aft, guard := g } :: rest) Q ⟨env, own, D⟩ := by
  obtain ⟨b, hbl⟩ := hok.some (show 0 < n by omega)
  refine SXL.indexR he hx hy (ao := r.addr) (b := b) (off := 0) (by simp [Sl.addr, hbl]) hb (h b hbl) hd hw
theorem SXL.loadSl (j : Nat) {r : Sl} {n s k off b : Nat} {E : TypeId} {cells vs : List Value} (hT : shapeT C.P T = some (some k)) (hx : ev env x = some (.pointer (some ⟨b, off, none⟩))) (hbl : r.blk = some b)
    (hi : own[j]? = some (r.ent E cells)) (_hok : r.Ok n s cells) (hv : takeAt cells off k = some vs)
    (h : SXL C ops rest Q ⟨(d, .agg ⟨vs⟩) :: env, own, D⟩) (hd : Nat.blt d C.n = true := by rfl) (hw : Wanted ops g env = some true := by rfl) :
    SXL C ops ({ dst := some d, op := .load T x, type := ty, pos, after := aft, guard := g } :: rest) Q ⟨env, own, D⟩ := by
  have hm : Mem C.w0 own b off vs := by
    have hent : r.ent E cells = (b, .cells ⟨cells ++ r.sp⟩ E (0, 0)) := by simp [Sl.ent, hbl]
    rw [hent] at hi
    exact Mem.own (k := k) hi (takeAt_append hv)
  exact SXL.loadN hT hx hm (takeAt_spec hv).1 h hd hw
theorem SXL.loadSl1 (j : Nat) {r : Sl} {n s off b : Nat} {E : TypeId} {cells : List Value} {v : Value} (hT : shapeT C.P T = some none) (hx : ev env x = some (.pointer (some ⟨b, off, none⟩))) (hbl : r.blk = some b)
    (hi : own[j]? = some (r.ent E cells)) (_hok : r.Ok n s cells) (hv : cells[off]? = some v)
    (h : SXL C ops rest Q ⟨(d, v) :: env, own, D⟩) (hd : Nat.blt d C.n = true := by rfl) (hw : Wanted ops g env = some true := by rfl) :
    SXL C ops ({ dst := some d, op := .load T x, type := ty, pos, after := aft, guard := g } :: rest) Q ⟨env, own, D⟩ := by
  have hm : Mem C.w0 own b off [v] := by
    have hent : r.ent E cells = (b, .cells ⟨cells ++ r.sp⟩ E (0, 0)) := by simp [Sl.ent, hbl]
    rw [hent] at hi
    exact Mem.own (k := 1) hi (takeAt_append (takeAt_one hv))
  exact SXL.load1 hT hx hm h hd hw
end
end Go.X

/- The walks of functions. -/
namespace Go.Proofs.YtknflipongbngaaDoor
open Go.X Go.S Go.RowKit
/-- A rain, a list, an error. -/
structure IsR3 (r : Int) (l : List Int) (e : Int) (v : Value) (own : X.Own) : Prop where
  ex : ∃ q : Sl, q.Ok l.length 1 (ints l) ∧ v = .tuple ⟨[.int .i64 r, q.val l.length, .int .i64 e]⟩ ∧ own = [q.ent 3 (ints l)]
theorem gives_bd {s : Sp} {week : Int} (he : toldE s week = 0) : (0 ≤ givesLo s week ∧ givesLo s week ≤ givesHi s week) ∧ givesHi s week ≤ 100 := by
  obtain ⟨hv, hw, hne⟩ := toldE_valid he
  have hH := hv.1
  unfold HeadP at hH
  rw [givesLo, givesHi, if_pos he, if_pos he]
  have hA0 : 0 < (toldA s week).length := by rw [told_lens]; exact toldL_pos he
  have key : ∀ k, k ≤ (toldA s week).length → (0 ≤ hLoTo (toldA s week) week.toNat k ∧ hLoTo (toldA s week) week.toNat k ≤ hHiTo (toldA s week) week.toNat k) ∧ hHiTo (toldA s week) week.toNat k ≤ s.most := by
    intro k
    induction k with
    | zero =>
      intro _
      have := toldA_nonneg he (i := 0) (w := week.toNat) hA0 (by omega)
      simp only [hLoTo, hHiTo]
      omega
    | succ k ih =>
      intro hk
      have ih := ih (by omega)
      have := toldA_nonneg he (i := k) (w := week.toNat) (by omega) (by omega)
      simp only [hLoTo, hHiTo]
      omega
  have := key _ (Nat.le_refl _)
  unfold hLo hHi
  omega
end Go.Proofs.YtknflipongbngaaDoor
