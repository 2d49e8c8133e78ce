/- The calculus' rules: memory. Nothing of the program stands here. -/
import Derived.Test.YtknflipongbngaaDoorXOps
namespace Go.X
open Go Go.RowKit

/-! ### small functions that reckon by themselves -/
def takeAt : List Value → Nat → Nat → Option (List Value)
  | _, _, 0 => some []
  | l, off, k + 1 => match l[off]?, takeAt l (off + 1) k with
    | some v, some r => some (v :: r)
    | _, _ => none
def putAt : List Value → Nat → List Value → Option (List Value)
  | l, 0, [] => some l
  | _ :: l, 0, v :: vs => match putAt l 0 vs with
    | some r => some (v :: r)
    | none => none
  | x :: l, off + 1, vs => match putAt l off vs with
    | some r => some (x :: r)
    | none => none
  | _, _, _ => none
def cellsO : Value → Option (List Value)
  | .agg ⟨l⟩ => some l
  | .tuple _ => none
  | v => some [v]
def tupAt : Value → Nat → Option Value
  | .tuple ⟨l⟩, i => l[i]?
  | _, _ => none
def evl (env : Env) : List Operand → Option (List Value)
  | [] => some []
  | x :: r => match ev env x, evl env r with
    | some v, some vs => some (v :: vs)
    | _, _ => none

theorem takeAt_spec {l : List Value} : ∀ {k off : Nat} {vs : List Value}, takeAt l off k = some vs → vs.length = k ∧ ∀ i, i < k → l[off + i]? = vs[i]?
  | 0, off, vs, h => by
    simp [takeAt] at h
    subst h
    exact ⟨rfl, fun i hi => by omega⟩
  | k + 1, off, vs, h => by
    simp only [takeAt] at h
    split at h
    · rename_i v r hv hr
      simp at h
      subst h
      obtain ⟨h1, h2⟩ := takeAt_spec hr
      refine ⟨by simp [h1], fun i hi => ?_⟩
      cases i with
      | zero => simpa using hv
      | succ i =>
        have := h2 i (by omega)
        simpa [Nat.add_assoc, Nat.add_comm 1 i] using this
    · cases h
theorem putAt_spec : ∀ {l : List Value} {off : Nat} {vs l' : List Value}, putAt l off vs = some l' →
    l'.length = l.length ∧ off + vs.length ≤ l.length ∧ (∀ i, i < vs.length → l'[off + i]? = vs[i]?) ∧ (∀ j, (j < off ∨ off + vs.length ≤ j) → l'[j]? = l[j]?)
  | [], 0, [], l', h => by simp [putAt] at h; subst h; simp
  | [], 0, v :: vs, l', h => by simp [putAt] at h
  | [], off + 1, vs, l', h => by cases vs <;> simp [putAt] at h
  | x :: l, 0, [], l', h => by simp [putAt] at h; subst h; simp
  | x :: l, 0, v :: vs, l', h => by
    simp only [putAt] at h
    split at h
    · rename_i r hr
      simp at h; subst h
      obtain ⟨h1, h2, h3, h4⟩ := putAt_spec hr
      refine ⟨by simp [h1], by simp at h2 ⊢; omega, fun i hi => ?_, fun j hj => ?_⟩
      · cases i with
        | zero => simp
        | succ i => have := h3 i (by simp at hi; omega); simpa using this
      · cases j with
        | zero => simp at hj
        | succ j => have := h4 j (by simp at hj ⊢; omega); simpa using this
    · cases h
  | x :: l, off + 1, vs, l', h => by
    have h' : (match putAt l off vs with | some r => some (x :: r) | none => none) = some l' := by
      cases vs <;> simpa [putAt] using h
    split at h'
    · rename_i r hr
      simp at h'; subst h'
      obtain ⟨h1, h2, h3, h4⟩ := putAt_spec hr
      refine ⟨by simp [h1], by simp; omega, fun i hi => ?_, fun j hj => ?_⟩
      · have := h3 i hi
        rw [show off + 1 + i = (off + i) + 1 by omega]
        simpa using this
      · cases j with
        | zero => simp
        | succ j => have := h4 j (by omega); simpa using this
    · cases h'
/-- One cell, at a number that is reckoned. -/
theorem putAt_one : ∀ {l : List Value} {off : Nat} (v : Value), off < l.length → putAt l off [v] = some (l.set off v)
  | x :: l, 0, v, _ => by simp [putAt]
  | x :: l, off + 1, v, h => by simp [putAt, putAt_one (l := l) (off := off) v (by simpa using h)]
theorem putAt_two : ∀ {l : List Value} {off : Nat} (v u : Value), off + 1 < l.length → putAt l off [v, u] = some ((l.set off v).set (off + 1) u)
  | x :: y :: l, 0, v, u, _ => by simp [putAt]
  | x :: l, off + 1, v, u, h => by simp [putAt, putAt_two (l := l) (off := off) v u (by simpa using h)]
theorem takeAt_one {l : List Value} {off : Nat} {v : Value} (h : l[off]? = some v) : takeAt l off 1 = some [v] := by simp [takeAt, h]
theorem takeAt_two {l : List Value} {off : Nat} {v u : Value} (h : l[off]? = some v) (h' : l[off + 1]? = some u) : takeAt l off 2 = some [v, u] := by simp [takeAt, h, h']
theorem evl_map {n : Nat} {env : Env} {a : Act} (h : Agree n env a) : ∀ {xs : List Operand} {vs : List Value}, evl env xs = some vs → xs.map a.eval = vs
  | [], vs, hx => by simp [evl] at hx; simp [hx]
  | x :: r, vs, hx => by
    simp only [evl] at hx
    split at hx
    · rename_i v us hv hus
      simp at hx
      subst hx
      simp [h.eval hv, evl_map h hus]
    · cases hx

/-! ### facts on types -/
/-- none: one cell; some k: a struct or an array of k cells. -/
def shapeT (P : Program) (t : TypeId) : Option (Option Nat) :=
  match P.underlying t with
  | some (.struct _) | some (.array _ _) => (P.info? t).map fun i => some i.size
  | some _ => some none
  | none => none
def sizeP (P : Program) (t : TypeId) : Option Nat := (P.info? t).map (·.size)
def zeroP (P : Program) (t : TypeId) : Option (List Value) := ((P.info? t).bind (·.zero)).bind cellsO
def fieldP (P : Program) (t : TypeId) (i : Nat) : Option Nat :=
  match P.underlying t with
  | some (.struct fs) => match fs[i]? with
    | some f => match P.info? f.type with
      | some inf => if inf.size = 0 then none else some f.offset
      | none => none
    | none => none
  | _ => none

section
variable {P : Program} {T : TypeId} {w : World}
theorem run_isAgg {k : Option Nat} (h : shapeT P T = some k) : (isAgg T).run P w = .ok k.isSome w := by
  unfold shapeT at h
  unfold isAgg
  split at h
  · rename_i hu; cases hi : P.info? T <;> simp [hi] at h; subst h; simp [run_underlying hu]
  · rename_i hu; cases hi : P.info? T <;> simp [hi] at h; subst h; simp [run_underlying hu]
  · rename_i u hu1 hu2 hu3
    simp at h
    subst h
    cases u <;> first | (exact (hu1 _ rfl).elim) | (exact (hu2 _ _ rfl).elim) | simp [run_underlying hu3]
  · cases h
theorem run_sizeOf {k : Nat} (h : sizeP P T = some k) : (sizeOf T).run P w = .ok k w := by
  unfold sizeP at h
  cases hi : P.info? T <;> simp [hi] at h
  simp [sizeOf, typeInfo, hi, h]
theorem shape_size {k : Nat} (h : shapeT P T = some (some k)) : sizeP P T = some k := by
  unfold shapeT at h
  unfold sizeP
  split at h <;> simp_all
theorem run_loadCellsFrom {a : Addr} : ∀ (k i : Nat) (acc : Array Value) (vs : List Value), vs.length = k → (∀ j v, vs[j]? = some v → w.cell? (a.add (i + j)) = some v) →
    (loadCellsFrom a i k acc).run P w = .ok (acc ++ vs.toArray) w
  | 0, i, acc, vs, hl, _ => by
    have : vs = [] := List.eq_nil_of_length_eq_zero hl
    subst this
    simp [loadCellsFrom]
  | k + 1, i, acc, vs, hl, h => by
    match vs, hl with
    | v :: vs, hl =>
      have h0 := h 0 v rfl
      have ih := run_loadCellsFrom k (i + 1) (acc.push v) vs (by simpa using hl) (fun j u hj => by
        have := h (j + 1) u (by simpa using hj)
        rwa [show i + 1 + j = i + (j + 1) by omega])
      simp only [loadCellsFrom]
      rw [Nat.add_zero] at h0
      simp [h0, Result.andThen, ih]

/-- The cells from an address on, in every world of which as much is known. -/
def Mem (w0 : World) (own : Own) (b off : Nat) (vs : List Value) : Prop := ∀ w, Inv w0 own w → ∀ j v, vs[j]? = some v → w.cell? ⟨b, off + j, none⟩ = some v
theorem Mem.own {w0 : World} {own : Own} {i b off k : Nat} {l vs : List Value} {E : TypeId} {fz : Nat × Nat} (hi : own[i]? = some (b, .cells ⟨l⟩ E fz)) (hl : takeAt l off k = some vs) : Mem w0 own b off vs := by
  intro w hI j v hj
  obtain ⟨h1, h2⟩ := takeAt_spec hl
  have hjk : j < k := by
    have := (List.getElem?_eq_some_iff.1 hj).1
    omega
  have := h2 j hjk
  have hb := (hI.get hi (live_of_get (this.trans hj))).2
  simp only [World.cell?, hb]
  simp [this, hj]
theorem Mem.out {w0 : World} {own : Own} {b off : Nat} {vs : List Value} (h : ∀ j v, vs[j]? = some v → w0.cell? ⟨b, off + j, none⟩ = some v) : Mem w0 own b off vs := by
  intro w hI j v hj
  have hc := h j v hj
  have hb : b < w0.heap.size := by
    unfold World.cell? at hc
    split at hc
    · rename_i hx; exact (Array.getElem?_eq_some_iff.1 hx).1
    · cases hc
  rw [hI.below.cell (p := ⟨b, off + j, none⟩) hb]
  exact hc
theorem Mem.out1 {w0 : World} {own : Own} {b off : Nat} {v : Value} (h : w0.cell? ⟨b, off, none⟩ = some v) : Mem w0 own b off [v] :=
  Mem.out fun j u hj => by
    cases j with
    | zero => simp at hj; subst hj; exact h
    | succ j => simp at hj
theorem addr_add (b off n : Nat) : (⟨b, off, none⟩ : Addr).add n = ⟨b, off + n, none⟩ := by
  unfold Addr.add
  split
  · subst_vars; rfl
  · rfl
theorem run_loadAt1 {b off : Nat} {v : Value} (hT : shapeT P T = some none) (h : w.cell? ⟨b, off, none⟩ = some v) : (Instr.loadAt T (.pointer (some ⟨b, off, none⟩))).run P w = .ok v w := by
  simp [Instr.loadAt, Instr.sureAddr, loadVar, run_isAgg hT, h, Result.andThen]
theorem run_loadAtN {b off k : Nat} {vs : List Value} (hT : shapeT P T = some (some k)) (hk : vs.length = k) (h : ∀ j v, vs[j]? = some v → w.cell? ⟨b, off + j, none⟩ = some v) :
    (Instr.loadAt T (.pointer (some ⟨b, off, none⟩))).run P w = .ok (.agg ⟨vs⟩) w := by
  have := run_loadCellsFrom (P := P) (w := w) (a := ⟨b, off, none⟩) k 0 #[] vs hk (fun j v hj => by rw [Nat.zero_add, addr_add]; exact h j v hj)
  simp [Instr.loadAt, Instr.sureAddr, loadVar, run_isAgg hT, run_sizeOf (shape_size hT), loadCells, this, Result.andThen]
end

section
variable {C : Cx} {Q : Post} {env : Env} {own : Own} {D : List Deferred} {ops : Array Oper} {rest : List Oper}
variable {d : Nat} {ty : TypeId} {pos : String} {aft : Array Edge} {g : Option (Nat × Bool)} {x y : Operand} {v : Value} {T T' : TypeId}

/-- A load of one cell. -/
theorem SXL.load1 {b off : Nat} (hT : shapeT C.P T = some none) (hx : ev env x = some (.pointer (some ⟨b, off, none⟩))) (hm : Mem C.w0 own b off [v])
    (h : SXL C ops rest Q ⟨(d, v) :: env, own, D⟩) (hd : Nat.blt d C.n = true := by rfl) (hw : Wanted ops g env = some true := by rfl) :
    SXL C ops ({ dst := some d, op := .load T x, type := ty, pos, after := aft, guard := g } :: rest) Q ⟨env, own, D⟩ :=
  SXL.val rfl hd hw (fun _ e => by cases e) (fun a w ha hI => by
    simp only [execOp, ha.eval hx]
    exact run_val (run_loadAt1 hT (hm w hI 0 v rfl))) h
/-- A load of a struct or an array. -/
theorem SXL.loadN {b off k : Nat} {vs : List Value} (hT : shapeT C.P T = some (some k)) (hx : ev env x = some (.pointer (some ⟨b, off, none⟩))) (hm : Mem C.w0 own b off vs) (hk : vs.length = k)
    (h : SXL C ops rest Q ⟨(d, .agg ⟨vs⟩) :: env, own, D⟩) (hd : Nat.blt d C.n = true := by rfl) (hw : Wanted ops g env = some true := by rfl) :
    SXL C ops ({ dst := some d, op := .load T x, type := ty, pos, after := aft, guard := g } :: rest) Q ⟨env, own, D⟩ :=
  SXL.val rfl hd hw (fun _ e => by cases e) (fun a w ha hI => by
    simp only [execOp, ha.eval hx]
    exact run_val (run_loadAtN hT hk (hm w hI))) h
/-- .. from a block of the call's own. -/
theorem SXL.load1o {b off : Nat} (i : Nat) {l : List Value} {E : TypeId} {fz : Nat × Nat} (hT : shapeT C.P T = some none) (hx : ev env x = some (.pointer (some ⟨b, off, none⟩)))
    (hi : own[i]? = some (b, .cells ⟨l⟩ E fz)) (hl : l[off]? = some v)
    (h : SXL C ops rest Q ⟨(d, v) :: env, own, D⟩) (hd : Nat.blt d C.n = true := by rfl) (hw : Wanted ops g env = some true := by rfl) :
    SXL C ops ({ dst := some d, op := .load T x, type := ty, pos, after := aft, guard := g } :: rest) Q ⟨env, own, D⟩ :=
  SXL.load1 hT hx (Mem.own hi (takeAt_one hl)) h hd hw
theorem SXL.loadNo {b off k : Nat} {vs : List Value} (i : Nat) {l : List Value} {E : TypeId} {fz : Nat × Nat} (hT : shapeT C.P T = some (some k)) (hx : ev env x = some (.pointer (some ⟨b, off, none⟩)))
    (hi : own[i]? = some (b, .cells ⟨l⟩ E fz)) (hl : takeAt l off k = some vs)
    (h : SXL C ops rest Q ⟨(d, .agg ⟨vs⟩) :: env, own, D⟩) (hd : Nat.blt d C.n = true := by rfl) (hw : Wanted ops g env = some true := by rfl) :
    SXL C ops ({ dst := some d, op := .load T x, type := ty, pos, after := aft, guard := g } :: rest) Q ⟨env, own, D⟩ :=
  SXL.loadN hT hx (Mem.own hi hl) (takeAt_spec hl).1 h hd hw

/-! ### addresses -/
theorem run_fieldAt {P : Program} {w : World} {T : TypeId} {b off i o : Nat} (hf : fieldP P T i = some o) : (Instr.fieldAt T (.pointer (some ⟨b, off, none⟩)) i).run P w = .ok (.pointer (some ⟨b, off + o, none⟩)) w := by
  unfold fieldP at hf
  split at hf
  · rename_i fs hu
    split at hf
    · rename_i f hfi
      split at hf
      · rename_i inf hinf
        split at hf
        · cases hf
        · rename_i hne
          simp at hf
          subst hf
          have hsz : (sizeOf f.type).run P w = .ok inf.size w := run_sizeOf (by simp [sizeP, hinf])
          simp [Instr.fieldAt, run_underlying hu, hfi, Instr.sureAddr, fieldPlace, hsz, hne, Result.andThen, addr_add]
      · cases hf
    · cases hf
  · cases hf
theorem SXL.fieldAddr {b off i o : Nat} (hf : fieldP C.P T i = some o) (hx : ev env x = some (.pointer (some ⟨b, off, none⟩)))
    (h : SXL C ops rest Q ⟨(d, .pointer (some ⟨b, off + o, none⟩)) :: env, own, D⟩) (hd : Nat.blt d C.n = true := by rfl) (hw : Wanted ops g env = some true := by rfl) :
    SXL C ops ({ dst := some d, op := .fieldAddr T x i, type := ty, pos, after := aft, guard := g } :: rest) Q ⟨env, own, D⟩ :=
  SXL.val rfl hd hw (fun _ e => by cases e) (fun a w ha hI => by
    simp only [execOp, ha.eval hx]
    exact run_val (run_fieldAt hf)) h
def elemP (P : Program) (t : TypeId) : Option (Option Nat × Nat) :=
  match P.underlying t with
  | some (.slice e) => (sizeP P e).map fun s => (none, s)
  | some (.array n e) => (sizeP P e).map fun s => (some n, s)
  | _ => none
theorem run_indexAtS {P : Program} {w : World} {T : TypeId} {b off n c s : Nat} {k : IntKind} {i : Int} (he : elemP P T = some (none, s)) (hb : 0 ≤ i ∧ i < n) :
    (Instr.indexAt T (.slice (some ⟨b, off, none⟩) n c) (.int k i)).run P w = .ok (.pointer (some ⟨b, off + i.toNat * s, none⟩)) w := by
  unfold elemP at he
  split at he
  · rename_i e hu
    cases hs : sizeP P e <;> simp [hs] at he
    subst he
    simp [Instr.indexAt, asIntOf, run_underlying hu, run_sizeOf hs, hb, addr_add, Result.andThen]
  · rename_i n' e hu
    cases hs : sizeP P e <;> simp [hs] at he
  · cases he
theorem run_indexAtA {P : Program} {w : World} {T : TypeId} {b off n s : Nat} {k : IntKind} {i : Int} (he : elemP P T = some (some n, s)) (hb : 0 ≤ i ∧ i < n) :
    (Instr.indexAt T (.pointer (some ⟨b, off, none⟩)) (.int k i)).run P w = .ok (.pointer (some ⟨b, off + i.toNat * s, none⟩)) w := by
  unfold elemP at he
  split at he
  · rename_i e hu
    cases hs : sizeP P e <;> simp [hs] at he
  · rename_i n' e hu
    cases hs : sizeP P e <;> simp [hs] at he
    obtain ⟨rfl, rfl⟩ := he
    simp [Instr.indexAt, Instr.sureAddr, asIntOf, run_underlying hu, run_sizeOf hs, hb, addr_add, Result.andThen]
  · cases he
theorem SXL.indexS {b off n c s : Nat} {k : IntKind} {i : Int} (he : elemP C.P T = some (none, s)) (hx : ev env x = some (.slice (some ⟨b, off, none⟩) n c)) (hy : ev env y = some (.int k i)) (hb : 0 ≤ i ∧ i < n)
    (h : SXL C ops rest Q ⟨(d, .pointer (some ⟨b, off + i.toNat * s, none⟩)) :: env, own, D⟩) (hd : Nat.blt d C.n = true := by rfl) (hw : Wanted ops g env = some true := by rfl) :
    SXL C ops ({ dst := some d, op := .indexAddr T x y, type := ty, pos, after := aft, guard := g } :: rest) Q ⟨env, own, D⟩ :=
  SXL.val rfl hd hw (fun _ e => by cases e) (fun a w ha hI => by
    simp only [execOp, ha.eval hx, ha.eval hy]
    exact run_val (run_indexAtS he hb)) h
theorem SXL.indexA {b off n s : Nat} {k : IntKind} {i : Int} (he : elemP C.P T = some (some n, s)) (hx : ev env x = some (.pointer (some ⟨b, off, none⟩))) (hy : ev env y = some (.int k i)) (hb : 0 ≤ i ∧ i < n)
    (h : SXL C ops rest Q ⟨(d, .pointer (some ⟨b, off + i.toNat * s, none⟩)) :: env, own, D⟩) (hd : Nat.blt d C.n = true := by rfl) (hw : Wanted ops g env = some true := by rfl) :
    SXL C ops ({ dst := some d, op := .indexAddr T x y, type := ty, pos, after := aft, guard := g } :: rest) Q ⟨env, own, D⟩ :=
  SXL.val rfl hd hw (fun _ e => by cases e) (fun a w ha hI => by
    simp only [execOp, ha.eval hx, ha.eval hy]
    exact run_val (run_indexAtA he hb)) h
theorem SXL.nilCheck {p : Addr} (hx : ev env x = some (.pointer (some p)))
    (h : SXL C ops rest Q ⟨(d, .pointer (some p)) :: env, own, D⟩) (hd : Nat.blt d C.n = true := by rfl) (hw : Wanted ops g env = some true := by rfl) :
    SXL C ops ({ dst := some d, op := .nilCheck x, type := ty, pos, after := aft, guard := g } :: rest) Q ⟨env, own, D⟩ :=
  SXL.val rfl hd hw (fun _ e => by cases e) (fun a w ha hI => by simp only [execOp, ha.eval hx]; rfl) h

/-! ### tuples, lengths, least and greatest -/
theorem SXL.extract {i : Nat} {t : Value} (hx : ev env x = some t) (ht : tupAt t i = some v)
    (h : SXL C ops rest Q ⟨(d, v) :: env, own, D⟩) (hd : Nat.blt d C.n = true := by rfl) (hw : Wanted ops g env = some true := by rfl) :
    SXL C ops ({ dst := some d, op := .extract x i, type := ty, pos, after := aft, guard := g } :: rest) Q ⟨env, own, D⟩ :=
  SXL.val rfl hd hw (fun _ e => by cases e) (fun a w ha hI => by
    simp only [execOp, ha.eval hx]
    cases t <;> simp only [tupAt] at ht <;> first | cases ht | skip
    rename_i vs
    obtain ⟨l⟩ := vs
    simp only at ht
    exact run_val (by simp [Instr.extract, ht])) h
def isSliceP (P : Program) (t : TypeId) : Bool := match P.underlying t with | some (.slice _) => true | _ => false
theorem run_builtin {P : Program} {w : World} {ρ : Operand → Value} {dst : Option Tmp} {b : Builtin} {xs : Array Operand} {ats : Array TypeId} {ty : TypeId} {pos : String} {aft : Array Edge} {g : Option (Nat × Bool)} :
    (execOp ρ { dst, op := .call { callee := .builtin b, args := xs, argTypes := ats }, type := ty, pos, after := aft, guard := g }).run P w =
      (builtin b ats ty (xs.map fun | .const _ => true | _ => false) (xs.map ρ)).run P w := rfl
theorem SXL.len {ao : Option Addr} {n c : Nat} (hT : isSliceP C.P T = true) (hx : ev env x = some (.slice ao n c))
    (h : SXL C ops rest Q ⟨(d, .int .i64 (n : Int)) :: env, own, D⟩) (hd : Nat.blt d C.n = true := by rfl) (hw : Wanted ops g env = some true := by rfl) :
    SXL C ops ({ dst := some d, op := .call { callee := .builtin .len, args := #[x], argTypes := #[T] }, type := ty, pos, after := aft, guard := g } :: rest) Q ⟨env, own, D⟩ :=
  SXL.val rfl hd hw (fun _ e => by cases e) (fun a w ha hI => by
    rw [run_builtin]
    simp only [List.map_toArray, List.map_cons, List.map_nil, ha.eval hx, BigFrame.builtin_len]
    unfold isSliceP at hT
    split at hT
    · rename_i e hu
      exact run_val (by simp [Builtin.len_, run_underlying hu, goInt])
    · cases hT) h
theorem SXL.cap {ao : Option Addr} {n c : Nat} (hT : isSliceP C.P T = true) (hx : ev env x = some (.slice ao n c))
    (h : SXL C ops rest Q ⟨(d, .int .i64 (c : Int)) :: env, own, D⟩) (hd : Nat.blt d C.n = true := by rfl) (hw : Wanted ops g env = some true := by rfl) :
    SXL C ops ({ dst := some d, op := .call { callee := .builtin .cap, args := #[x], argTypes := #[T] }, type := ty, pos, after := aft, guard := g } :: rest) Q ⟨env, own, D⟩ :=
  SXL.val rfl hd hw (fun _ e => by cases e) (fun a w ha hI => by
    rw [run_builtin]
    simp only [List.map_toArray, List.map_cons, List.map_nil, ha.eval hx, BigFrame.builtin_cap]
    unfold isSliceP at hT
    split at hT
    · rename_i e hu
      exact run_val (by simp [Builtin.cap_, run_underlying hu, goInt])
    · cases hT) h
theorem SXL.min {A B : Int} {ats : Array TypeId} (hx : ev env x = some (.int .i64 A)) (hy : ev env y = some (.int .i64 B))
    (h : SXL C ops rest Q ⟨(d, .int .i64 (Min.min A B)) :: env, own, D⟩) (hd : Nat.blt d C.n = true := by rfl) (hw : Wanted ops g env = some true := by rfl) :
    SXL C ops ({ dst := some d, op := .call { callee := .builtin .min, args := #[x, y], argTypes := ats }, type := ty, pos, after := aft, guard := g } :: rest) Q ⟨env, own, D⟩ :=
  SXL.val rfl hd hw (fun _ e => by cases e) (fun a w ha hI => by
    rw [run_builtin]
    simp only [List.map_toArray, List.map_cons, List.map_nil, ha.eval hx, ha.eval hy, BigFrame.builtin_min]
    exact run_val (by simp [Builtin.min_, Builtin.min2]; omega)) h
theorem SXL.max {A B : Int} {ats : Array TypeId} (hx : ev env x = some (.int .i64 A)) (hy : ev env y = some (.int .i64 B))
    (h : SXL C ops rest Q ⟨(d, .int .i64 (Max.max A B)) :: env, own, D⟩) (hd : Nat.blt d C.n = true := by rfl) (hw : Wanted ops g env = some true := by rfl) :
    SXL C ops ({ dst := some d, op := .call { callee := .builtin .max, args := #[x, y], argTypes := ats }, type := ty, pos, after := aft, guard := g } :: rest) Q ⟨env, own, D⟩ :=
  SXL.val rfl hd hw (fun _ e => by cases e) (fun a w ha hI => by
    rw [run_builtin]
    simp only [List.map_toArray, List.map_cons, List.map_nil, ha.eval hx, ha.eval hy, BigFrame.builtin_max]
    exact run_val (by simp [Builtin.max_, Builtin.max2]; omega)) h
end
end Go.X
