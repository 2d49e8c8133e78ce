/- The calculus' rules: parts of values; segments that make blocks; what a call finds. Nothing of the program stands here. -/
import Derived.Test.YtknflipongbngaaDoorXEq
namespace Go.X
open Go Go.RowKit
def arrE (P : Program) (t : TypeId) : Option (TypeId × Nat × Nat) := match P.underlying t with
  | some (.array n e) => (sizeP P e).map fun s => (e, n, s)
  | _ => none
theorem takeAt_drop : ∀ {k off : Nat} {l vs : List Value}, takeAt l off k = some vs → (l.drop off).take k = vs
  | 0, off, l, vs, h => by simp [takeAt] at h; simp [h]
  | k + 1, off, l, vs, h => by
    simp only [takeAt] at h
    split at h
    · rename_i v r hv hr
      simp at h; subst h
      have ih := takeAt_drop hr
      obtain ⟨hlt, he⟩ := List.getElem?_eq_some_iff.1 hv
      rw [List.drop_eq_getElem_cons hlt, List.take_succ_cons, ih, he]
    · cases h
section
variable {C : Cx} {Q : Post} {env : Env} {own : Own} {D : List Deferred} {ops : Array Oper} {rest : List Oper}
variable {d : Nat} {ty : TypeId} {pos : String} {aft : Array Edge} {g : Option (Nat × Bool)} {x y : Operand} {T T' : TypeId}
theorem SXL.indexV {cs vs : List Value} {n s : Nat} {e : TypeId} {k : IntKind} {i : Int} (he : arrE C.P T = some (e, n, s)) (hs : shapeT C.P e = some (some s)) (hx : ev env x = some (.agg ⟨cs⟩)) (hy : ev env y = some (.int k i)) (hb : 0 ≤ i ∧ i < n)
    (ht : takeAt cs (i.toNat * s) s = some vs)
    (h : SXL C ops rest Q ⟨(d, .agg ⟨vs⟩) :: env, own, D⟩) (hd : Nat.blt d C.n = true := by rfl) (hw : Wanted ops g env = some true := by rfl) :
    SXL C ops ({ dst := some d, op := .index T x y, type := ty, pos, after := aft, guard := g } :: rest) Q ⟨env, own, D⟩ :=
  SXL.val rfl hd hw (fun _ e => by cases e) (fun a w ha hI => by
    unfold arrE at he
    split at he
    · rename_i n' e' hu
      cases hz : sizeP C.P e' with
      | none => simp [hz] at he
      | some s' =>
        simp [hz] at he
        obtain ⟨rfl, rfl, rfl⟩ := he
        simp only [execOp, ha.eval hx, ha.eval hy]
        refine run_val ?_
        simp [Instr.index, asIntOf, run_underlying hu, run_sizeOf hz, hb, part, run_isAgg hs, Result.andThen, takeAt_drop ht]
    · cases he) h
/-- An array of parts. -/
theorem SXL.buildA {e : TypeId} {n sz : Nat} {parts : List (Nat × Operand)} {zs l : List Value} {ps : List (Nat × Value)} (hT : arrE C.P T = some (e, n, sz)) (hz : zeroP C.P T = some zs)
    (hx : evp env parts = some ps) (hb : bld (fun i => some (i * sz, sz)) zs ps = some l)
    (h : SXL C ops rest Q ⟨(d, .agg ⟨l⟩) :: env, own, D⟩) (hd : Nat.blt d C.n = true := by rfl) (hw : Wanted ops g env = some true := by rfl) :
    SXL C ops ({ dst := some d, op := .build T ⟨parts⟩, type := ty, pos, after := aft, guard := g } :: rest) Q ⟨env, own, D⟩ :=
  SXL.val rfl hd hw (fun _ e => by cases e) (fun a w ha hI => by
    have hm := evp_map ha hx
    unfold arrE at hT
    split at hT
    · rename_i n' e' hu
      cases hs : sizeP C.P e' with
      | none => simp [hs] at hT
      | some s =>
        simp [hs] at hT
        obtain ⟨rfl, rfl, rfl⟩ := hT
        unfold zeroP at hz
        cases hi : C.P.info? T with
        | none => simp [hi] at hz
        | some inf =>
          simp only [hi, Option.bind_some] at hz
          cases hzz : inf.zero with
          | none => simp [hzz] at hz
          | some zv =>
            simp only [hzz, Option.bind_some] at hz
            simp only [execOp]
            refine run_val ?_
            have hf := fill_bld hb
            rw [← hm] at hf
            have e : (Array.mk parts).map (fun (i, x) => (i, a.eval x)) = ⟨parts.map fun (i, x) => (i, a.eval x)⟩ := by simp
            rw [e]
            simp [Instr.build, zeroValue, typeInfo, hi, hzz, cellsO_cells hz, run_underlying hu, run_sizeOf hs, Result.andThen]
            have hf' : Instr.fill (fun x => some (x * s, s)) { toList := zs } (List.map (fun x => (x.fst, a.eval x.snd)) parts) = some ⟨l⟩ := hf
            rw [hf']
            simp
    · cases hT) h
/-- A slice of an array. -/
theorem SXL.sliceAH {b off n s : Nat} {k' : IntKind} {B : Int} (he : elemP C.P T = some (some n, s)) (hx : ev env x = some (.pointer (some ⟨b, off, none⟩))) (hz : ev env y = some (.int k' B)) (hb : 0 ≤ B ∧ B ≤ n)
    (h : SXL C ops rest Q ⟨(d, .slice (some ⟨b, off, none⟩) B.toNat n) :: env, own, D⟩) (hd : Nat.blt d C.n = true := by rfl) (hw : Wanted ops g env = some true := by rfl) :
    SXL C ops ({ dst := some d, op := .slice T x none (some y) none, type := ty, pos, after := aft, guard := g } :: rest) Q ⟨env, own, D⟩ :=
  SXL.val rfl hd hw (fun _ e => by cases e) (fun a w ha hI => by
    unfold elemP at he
    split at he
    · rename_i e hu
      cases hs : sizeP C.P e <;> simp [hs] at he
    · rename_i n' e hu
      cases hs : sizeP C.P e <;> simp [hs] at he
      obtain ⟨rfl, rfl⟩ := he
      simp only [execOp, ha.eval hx, ha.eval hz, Option.map_some, Option.map_none]
      exact run_val (by simp [Instr.sliceAt, Instr.sureAddr, Instr.sliceBounds, Instr.sliceBound, asIntOf, run_underlying hu, run_sizeOf hs, hb.1, hb.2, Result.andThen, addr_add])
    · cases he) h
/-- The new blocks of a segment are forgotten at its end. -/
theorem SXL.ownPre {l : List Oper} {own' t : Own} (h : SXL C ops l Q ⟨env, own', D⟩) (e : own' ++ t = own) : SXL C ops l Q ⟨env, own, D⟩ :=
  SXL.le (s' := ⟨env, own', D⟩) ⟨EnvSub.refl _, by rw [← e]; exact Sel.pre _ _, rfl⟩ h
/-- A call of whose blocks nothing is wanted. -/
theorem SXL.callP {f : FuncId} {xs : List Operand} {ats : Array TypeId} {args : List Value} (R : Value → Prop) (hf : fnOk C.P f = true) (hx : evl env xs = some args)
    (hc : ∀ w, Inv C.w0 own w → CallsR C.P f args w fun v _ => R v)
    (h : ∀ v, R v → SXL C ops rest Q ⟨(d, v) :: env, own, D⟩) (hd : Nat.blt d C.n = true := by rfl) (hw : Wanted ops g env = some true := by rfl) (hdr : C.dr = false := by rfl) :
    SXL C ops ({ dst := some d, op := .call { callee := .value (.func f), args := ⟨xs⟩, argTypes := ats }, type := ty, pos, after := aft, guard := g } :: rest) Q ⟨env, own, D⟩ :=
  SXL.callF (fun v _ => R v) hf hx hc (fun v own' hv => SXL.le (s' := ⟨(d, v) :: env, own, D⟩) ⟨EnvSub.refl _, Sel.pre _ _, rfl⟩ (h v hv)) hd hw hdr
/-- Calls that hand back one value say it in other words. -/
theorem CallsR.eqv {P : Program} {f : FuncId} {args : List Value} {w : World} {v v' : Value} (h : CallsR P f args w fun u _ => u = v) (e : v = v') : CallsR P f args w fun u _ => u = v' := e ▸ h
theorem CallsR.iff {P : Program} {f : FuncId} {args : List Value} {w : World} {p q : Prop} {ip : Decidable p} {iq : Decidable q} (h : CallsR P f args w fun u _ => u = .bool (decide p)) (e : p ↔ q) : CallsR P f args w fun u _ => u = .bool (decide q) :=
  h.eqv (congrArg Value.bool (decide_eq_decide.2 e))
/-- The first that is so, or -1. -/
def idxF (p : Nat → Prop) [DecidablePred p] (n : Nat) : Int := match (List.range n).find? (fun k => decide (p k)) with
  | some k => k
  | none => -1
theorem idxF_some {p : Nat → Prop} [DecidablePred p] {n k : Nat} (hk : k < n) (hp : p k) (hn : ∀ i, i < k → ¬p i) : idxF p n = k := by
  have : (List.range n).find? (fun k => decide (p k)) = some k := by
    rw [List.find?_range_eq_some]
    exact ⟨by simpa using hp, by simpa using hk, fun i hi => by simpa using hn i hi⟩
  simp [idxF, this]
theorem idxF_none {p : Nat → Prop} [DecidablePred p] {n : Nat} (hn : ∀ i, i < n → ¬p i) : idxF p n = -1 := by
  have : (List.range n).find? (fun k => decide (p k)) = none := by
    rw [List.find?_range_eq_none]
    exact fun i hi => by simpa using hn i hi
  simp [idxF, this]
theorem idxF_nonneg {p : Nat → Prop} [DecidablePred p] {n : Nat} : 0 ≤ idxF p n ↔ ∃ k, k < n ∧ p k := by
  constructor
  · intro h
    refine Decidable.byContradiction fun hne => ?_
    rw [idxF_none fun i hi hp => hne ⟨i, hi, hp⟩] at h
    omega
  · rintro ⟨k, hk, hp⟩
    unfold idxF
    split
    · omega
    · rename_i hf
      rw [List.find?_range_eq_none] at hf
      have := hf k hk
      simp [hp] at this
end
end Go.X
