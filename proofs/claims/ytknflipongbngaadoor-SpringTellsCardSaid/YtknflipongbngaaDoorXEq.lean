/- '==' on structs and arrays of whole numbers. Nothing of the program stands here. -/
import Derived.Test.YtknflipongbngaaDoorXSl
import Derived.Laws.StructEq
namespace Go.X
open Go Go.RowKit

def eqFs (eq : TypeId → Option Nat) : List Field → Nat → Option Nat
  | [], off => some off
  | f :: fs, off => bif f.name == "_" then none else bif Nat.beq f.offset off then (match eq f.type with | some k => eqFs eq fs (off + k) | none => none) else none
/-- How many whole numbers a value of a type is made of. -/
def eqP (P : Program) : Nat → TypeId → Option Nat
  | 0, _ => none
  | n + 1, t => match P.underlying t with
    | some (.int .i64) => some 1
    | some (.struct fs) => bif P.stoodInHeld t then none else (match eqFs (eqP P n) fs.toList 0 with
      | some k => (match shapeT P t with | some (some k') => bif Nat.beq k k' then some k else none | _ => none)
      | none => none)
    | some (.array len e) => (match eqP P n e with
      | some k => (match shapeT P t, sizeP P e with | some (some k'), some k'' => bif Nat.beq (len * k) k' && Nat.beq k k'' then some (len * k) else none | _, _ => none)
      | none => none)
    | _ => none
def tv (P : Program) (t : TypeId) (xs : List Int) : Value := match P.underlying t with
  | some (.int _) => .int .i64 (G xs 0)
  | _ => .agg ⟨ints xs⟩
theorem ints_take_drop (xs : List Int) (a k : Nat) : List.take k (List.drop a (ints xs)) = ints (List.take k (List.drop a xs)) := by simp [ints, List.map_drop, List.map_take]
theorem ints_extract (xs : List Int) (a b : Nat) : (⟨ints xs⟩ : Array Value).extract a b = ⟨ints ((xs.drop a).take (b - a))⟩ := by
  apply Array.ext'
  simp [ints, List.extract, List.map_drop, List.map_take]
section
variable {P : Program}
theorem run_part_tv {n : Nat} {t : TypeId} {k : Nat} (h : eqP P n t = some k) {xs : List Int} {off : Nat} (hk : off + k ≤ xs.length) (w : World) :
    (part t ⟨ints xs⟩ off).run P w = .ok (tv P t ((xs.drop off).take k)) w := by
  cases n with
  | zero => cases h
  | succ n =>
    unfold eqP at h
    split at h
    · rename_i hu
      simp at h; subst h
      have hs : shapeT P t = some none := by simp [shapeT, hu]
      have hlt : off < xs.length := by omega
      simp [part, run_isAgg hs, ints, hlt, tv, hu, Result.andThen, G]
    · rename_i fs hu
      cases hst : P.stoodInHeld t <;> rw [hst] at h <;> simp only [cond_true, cond_false] at h
      · split at h
        · rename_i k1 h1
          split at h
          · rename_i k' hs
            cases hb : Nat.beq k1 k' <;> rw [hb] at h <;> simp only [cond_true, cond_false] at h
            · cases h
            · have := Nat.eq_of_beq_eq_true hb
              subst this
              simp at h; subst h
              simp [part, run_isAgg hs, run_sizeOf (shape_size hs), tv, hu, Result.andThen, ints_take_drop]
          · cases h
        · cases h
      · cases h
    · rename_i len e hu
      split at h
      · rename_i k1 h1
        split at h
        · rename_i k' k'' hs hz
          cases hb : (Nat.beq (len * k1) k' && Nat.beq k1 k'') <;> rw [hb] at h <;> simp only [cond_true, cond_false] at h
          · cases h
          · simp only [Bool.and_eq_true] at hb
            have := Nat.eq_of_beq_eq_true hb.1
            subst this
            simp at h; subst h
            simp [part, run_isAgg hs, run_sizeOf (shape_size hs), tv, hu, Result.andThen, ints_take_drop]
        · cases h
      · cases h
    · cases h
theorem drop_split {xs ys : List Int} (off k : Nat) (h : xs.length = ys.length) : (xs.drop off = ys.drop off) ↔ ((xs.drop off).take k = (ys.drop off).take k ∧ xs.drop (off + k) = ys.drop (off + k)) := by
  constructor
  · intro e
    refine ⟨by rw [e], ?_⟩
    rw [← List.drop_drop, ← List.drop_drop, e]
  · rintro ⟨e1, e2⟩
    rw [← List.take_append_drop k (xs.drop off), ← List.take_append_drop k (ys.drop off), e1, List.drop_drop, List.drop_drop, e2]
theorem run_eqFields {eq : TypeId → Option Nat} {d : Nat} (heq : ∀ t k, eq t = some k → (∀ (zs : List Int) off, off + k ≤ zs.length → ∀ w, (part t ⟨ints zs⟩ off).run P w = .ok (tv P t ((zs.drop off).take k)) w) ∧
      ∀ xs ys : List Int, xs.length = k → ys.length = k → ∀ w, (Op.equalIn d t (tv P t xs) (tv P t ys)).run P w = .ok (decide (xs = ys)) w) :
    ∀ (fs : List Field) (off K : Nat), eqFs eq fs off = some K → off ≤ K ∧ ∀ xs ys : List Int, xs.length = K → ys.length = K → ∀ w, (Op.eqFields d ⟨ints xs⟩ ⟨ints ys⟩ fs).run P w = .ok (decide (xs.drop off = ys.drop off)) w
  | [], off, K, h => by
    simp [eqFs] at h; subst h
    refine ⟨Nat.le_refl _, fun xs ys hx hy w => ?_⟩
    simp [Op.eqFields, List.drop_of_length_le (Nat.le_of_eq hx), List.drop_of_length_le (Nat.le_of_eq hy)]
  | f :: fs, off, K, h => by
    simp only [eqFs] at h
    cases hn : f.name == "_" <;> rw [hn] at h <;> simp only [cond_true, cond_false] at h
    · cases ho : Nat.beq f.offset off <;> rw [ho] at h <;> simp only [cond_true, cond_false] at h
      · cases h
      · have ho := Nat.eq_of_beq_eq_true ho
        split at h
        · rename_i k hk
          obtain ⟨h1, h2⟩ := heq f.type k hk
          obtain ⟨h3, h4⟩ := run_eqFields heq fs (off + k) K h
          refine ⟨by omega, fun xs ys hx hy w => ?_⟩
          have hne : f.name ≠ "_" := by simpa using hn
          have e1 := h1 xs off (by omega) w
          have e2 := h1 ys off (by omega) w
          have e3 := h2 ((xs.drop off).take k) ((ys.drop off).take k) (by simp; omega) (by simp; omega) w
          have e4 := h4 xs ys hx hy w
          subst ho
          simp only [Op.eqFields, if_pos hne, Sem.run_bind, e1, e2, e3, Result.andThen_ok]
          have hs := drop_split f.offset k (hx.trans hy.symm)
          by_cases hc : (xs.drop f.offset).take k = (ys.drop f.offset).take k
          · simp only [hc, decide_true, Bool.not_true, Bool.false_eq_true, if_false, e4]
            congr 1
            exact decide_eq_decide.2 ⟨fun e => hs.2 ⟨hc, e⟩, fun e => (hs.1 e).2⟩
          · simp only [hc, decide_false, Bool.not_false, if_true, Sem.run_pure]
            congr 1
            exact (decide_eq_false fun e => hc (hs.1 e).1).symm
        · cases h
    · cases h
theorem run_eqArr {d : Nat} {e : TypeId} {k : Nat} (h1 : ∀ (zs : List Int) (off : Nat), off + k ≤ zs.length → ∀ w, (part e ⟨ints zs⟩ off).run P w = .ok (tv P e ((zs.drop off).take k)) w)
      (h2 : ∀ xs ys : List Int, xs.length = k → ys.length = k → ∀ w, (Op.equalIn d e (tv P e xs) (tv P e ys)).run P w = .ok (decide (xs = ys)) w) {xs ys : List Int} {len : Nat} (hx : xs.length = len * k) (hy : ys.length = len * k) :
    ∀ (m i : Nat), i + m = len → ∀ w, ((do
      let r ← forIn (List.range' i m) ((none, ()) : Option Bool × Unit) fun i _ => do
        if (!(← Op.equalIn d e (← part e ⟨ints xs⟩ (i * k)) (← part e ⟨ints ys⟩ (i * k)))) = true then pure (ForInStep.done (some false, ())) else pure (ForInStep.yield (none, ()))
      match r.1 with
      | some a => pure a
      | none => pure true : Sem Bool)).run P w = .ok (decide (xs.drop (i * k) = ys.drop (i * k))) w
  | 0, i, hi, w => by
    have : i = len := by omega
    subst this
    simp [List.drop_of_length_le (Nat.le_of_eq hx), List.drop_of_length_le (Nat.le_of_eq hy)]
  | m + 1, i, hi, w => by
    have hb : i * k + k ≤ len * k := by rw [← Nat.succ_mul]; exact Nat.mul_le_mul_right _ (by omega)
    have e1 := h1 xs (i * k) (by omega) w
    have e2 := h1 ys (i * k) (by omega) w
    have e3 := h2 ((xs.drop (i * k)).take k) ((ys.drop (i * k)).take k) (by simp; omega) (by simp; omega) w
    have e4 := run_eqArr h1 h2 hx hy m (i + 1) (by omega) w
    have hs := drop_split (i * k) k (hx.trans hy.symm)
    rw [List.range'_succ]
    simp only [List.forIn_cons, Sem.run_bind, e1, e2, e3, Result.andThen_ok] at e4 ⊢
    by_cases hc : (xs.drop (i * k)).take k = (ys.drop (i * k)).take k
    · simp only [hc, decide_true, Bool.not_true, Bool.false_eq_true, if_false, Sem.run_pure, Result.andThen_ok]
      rw [e4]
      congr 1
      rw [Nat.add_mul, Nat.one_mul]
      exact decide_eq_decide.2 ⟨fun e => hs.2 ⟨hc, e⟩, fun e => (hs.1 e).2⟩
    · simp only [hc, decide_false, Bool.not_false, if_true, Sem.run_pure, Result.andThen_ok]
      congr 1
      exact (decide_eq_false fun e => hc (hs.1 e).1).symm
theorem run_equalIn_tv : ∀ (n : Nat) (t : TypeId) (k : Nat), eqP P n t = some k → ∀ d, ∀ xs ys : List Int, xs.length = k → ys.length = k → ∀ w,
    (Op.equalIn (n + d) t (tv P t xs) (tv P t ys)).run P w = .ok (decide (xs = ys)) w
  | 0, t, k, h, _, _, _, _, _, _ => by cases h
  | n + 1, t, k, h, d, xs, ys, hx, hy, w => by
    have heq : ∀ t k, eqP P n t = some k → (∀ (zs : List Int) off, off + k ≤ zs.length → ∀ w, (part t ⟨ints zs⟩ off).run P w = .ok (tv P t ((zs.drop off).take k)) w) ∧
      ∀ xs ys : List Int, xs.length = k → ys.length = k → ∀ w, (Op.equalIn (n + d) t (tv P t xs) (tv P t ys)).run P w = .ok (decide (xs = ys)) w :=
      fun t k h => ⟨fun zs off ho w => run_part_tv h ho w, fun xs ys hx hy w => run_equalIn_tv n t k h d xs ys hx hy w⟩
    rw [show n + 1 + d = (n + d) + 1 by omega]
    unfold eqP at h
    split at h
    · rename_i hu
      simp at h; subst h
      match xs, ys, hx, hy with
      | [a], [b], _, _ =>
        simp [tv, hu, run_equalIn_int w (n + d) t .i64 .i64 a b hu, G, int_beq]
    · rename_i fs hu
      cases hst : P.stoodInHeld t <;> rw [hst] at h <;> simp only [cond_true, cond_false] at h
      · split at h
        · rename_i k1 h1
          split at h
          · rename_i k' hs
            cases hb : Nat.beq k1 k' <;> rw [hb] at h <;> simp only [cond_true, cond_false] at h
            · cases h
            · simp at h; subst h
              have hf : P.fieldsOf t = fs := by simp [Program.fieldsOf, hu]
              have := run_equalIn_struct (P := P) w (n + d) t ⟨ints xs⟩ ⟨ints ys⟩ (by rw [hf]; exact hu) hst
              rw [hf] at this
              simp only [tv, hu]
              rw [this, (run_eqFields heq fs.toList 0 k1 h1).2 xs ys hx hy w]
              simp
          · cases h
        · cases h
      · cases h
    · rename_i len e hu
      split at h
      · rename_i k1 h1
        split at h
        · rename_i k' k'' hs hz
          cases hb : (Nat.beq (len * k1) k' && Nat.beq k1 k'') <;> rw [hb] at h <;> simp only [cond_true, cond_false] at h
          · cases h
          · simp only [Bool.and_eq_true] at hb
            have hk := Nat.eq_of_beq_eq_true hb.2
            subst hk
            simp at h; subst h
            obtain ⟨q1, q2⟩ := heq e k1 h1
            have := run_eqArr q1 q2 hx hy len 0 (by omega) w
            simp only [tv, hu, Op.equalIn, Sem.run_bind, run_underlying hu, Result.andThen_ok, run_sizeOf hz]
            simp only [Std.Legacy.Range.forIn_eq_forIn_range', Std.Legacy.Range.size]
            simp at this ⊢
            refine Eq.trans ?_ this
            congr 1
            funext a w'
            obtain ⟨_ | _, _⟩ := a <;> rfl
        · cases h
      · cases h
    · cases h
/-- What the walk asks. -/
theorem run_eql_ints {T : TypeId} {k : Nat} {x y : Operand} {xs ys : List Int} (h : eqP P 5 T = some k) (hg : P.eqGuardType P.depth T = false) (hs : shapeT P T = some (some k)) (hx : xs.length = k) (hy : ys.length = k) :
    ∀ w, (do eqGuard .eql T x y (.agg ⟨ints xs⟩) (.agg ⟨ints ys⟩); binOp .eql T (.agg ⟨ints xs⟩) (.agg ⟨ints ys⟩) : Sem Value).run P w = .ok (.bool (decide (xs = ys))) w := by
  intro w
  have e : tv P T xs = .agg ⟨ints xs⟩ ∧ tv P T ys = .agg ⟨ints ys⟩ := by
    unfold tv
    unfold shapeT at hs
    split at hs <;> simp_all
  have := run_equalIn_tv 5 T k h 9995 xs ys hx hy w
  rw [e.1, e.2] at this
  simp [Sem.run_bind, run_eqGuard_agg w .eql T x y ⟨ints xs⟩ ⟨ints ys⟩ hg, Result.andThen, run_eql_struct, this]
theorem run_neq_ints {T : TypeId} {k : Nat} {x y : Operand} {xs ys : List Int} (h : eqP P 5 T = some k) (hg : P.eqGuardType P.depth T = false) (hs : shapeT P T = some (some k)) (hx : xs.length = k) (hy : ys.length = k) :
    ∀ w, (do eqGuard .neq T x y (.agg ⟨ints xs⟩) (.agg ⟨ints ys⟩); binOp .neq T (.agg ⟨ints xs⟩) (.agg ⟨ints ys⟩) : Sem Value).run P w = .ok (.bool (decide (xs ≠ ys))) w := by
  intro w
  have e : tv P T xs = .agg ⟨ints xs⟩ ∧ tv P T ys = .agg ⟨ints ys⟩ := by
    unfold tv
    unfold shapeT at hs
    split at hs <;> simp_all
  have := run_equalIn_tv 5 T k h 9995 xs ys hx hy w
  rw [e.1, e.2] at this
  simp [Sem.run_bind, run_eqGuard_agg w .neq T x y ⟨ints xs⟩ ⟨ints ys⟩ hg, Result.andThen, run_neq_struct, this]
end
end Go.X
