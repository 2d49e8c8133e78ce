/- The calculus' rules: stores, new blocks, slices, calls, a function's entry and its end. Nothing of the program stands here. -/
import Derived.Test.YtknflipongbngaaDoorXMem
import Derived.RangeFuncRecord
namespace Go.X
open Go Go.RowKit

def isOne : Value → Bool
  | .agg _ | .tuple _ => false
  | _ => true
theorem run_store {P : Program} {w : World} {a : Addr} {v u : Value} (h1 : isOne v = true) (hc : w.cell? a = some u) (hf : w.frozen? a = false) :
    (store a v : Sem Unit).run P w = .ok () (w.setCell a v) := by
  cases v <;> first | (exact absurd h1 Bool.false_ne_true) | (simp [store, Sem.run, hc, hf])

theorem setCell_heap {w : World} {b off : Nat} {l : List Value} {E : TypeId} {fz : Nat × Nat} {v : Value} (h : w.heap[b]? = some (.cells ⟨l⟩ E fz)) :
    (w.setCell ⟨b, off, none⟩ v).heap[b]? = some (.cells ⟨l.set off v⟩ E fz) := by
  simp only [World.setCell, Array.getElem?_modify, h]
  simp
theorem setCell_other {w : World} {b off k : Nat} {v : Value} (h : k ≠ b) : (w.setCell ⟨b, off, none⟩ v).heap[k]? = w.heap[k]? := Below.heap_setCell _ _ _ _ h

theorem putAt_cons {v : Value} {vs : List Value} : ∀ {j : Nat} {l l' : List Value}, putAt l j (v :: vs) = some l' → putAt (l.set j v) (j + 1) vs = some l'
  | 0, [], l', hp => by simp [putAt] at hp
  | 0, x :: l, l', hp => by
    simp only [putAt] at hp
    split at hp
    · rename_i r hr
      simp at hp; subst hp
      simp [putAt, hr]
    · cases hp
  | j + 1, [], l', hp => by simp [putAt] at hp
  | j + 1, x :: l, l', hp => by
    simp only [putAt] at hp
    split at hp
    · rename_i r hr
      simp at hp; subst hp
      have := putAt_cons hr
      simp [putAt, this]
    · cases hp
/-- What a run of stores into one block leaves. -/
theorem run_storeCells {P : Program} {b off : Nat} {E : TypeId} : ∀ (vs : List Value) (i : Nat) (w : World) (l l' : List Value), vs.all isOne = true → w.heap[b]? = some (.cells ⟨l⟩ E (0, 0)) →
    putAt l (off + i) vs = some l' → ∃ w', (storeCells ⟨b, off, none⟩ vs i).run P w = .ok () w' ∧ w'.heap[b]? = some (.cells ⟨l'⟩ E (0, 0)) ∧ (∀ k, k ≠ b → w'.heap[k]? = w.heap[k]?) ∧
      w'.heap.size = w.heap.size ∧ w'.os = w.os ∧ w'.tape = w.tape ∧ w'.output = w.output
  | [], i, w, l, l', _, hb, hp => by
    have e : l' = l := by
      obtain ⟨h1, _, _, h4⟩ := putAt_spec hp
      exact List.ext_getElem? fun j => h4 j (by simp; omega)
    subst e
    exact ⟨w, by simp [storeCells], hb, fun _ _ => rfl, rfl, rfl, rfl, rfl⟩
  | v :: vs, i, w, l, l', h1, hb, hp => by
    simp only [List.all_cons, Bool.and_eq_true] at h1
    obtain ⟨p1, p2, p3, p4⟩ := putAt_spec hp
    have hlt : off + i < l.length := by simp at p2; omega
    have hc : w.cell? ⟨b, off + i, none⟩ = some (l[off + i]) := by simp [World.cell?, hb, hlt]
    have hf : w.frozen? ⟨b, off + i, none⟩ = false := by simp [World.frozen?, hb]
    have hp' : putAt (l.set (off + i) v) (off + (i + 1)) vs = some l' := by rw [← Nat.add_assoc]; exact putAt_cons hp
    obtain ⟨w', hr, q1, q2, q3, q4, q5, q6⟩ := run_storeCells (P := P) vs (i + 1) (w.setCell ⟨b, off + i, none⟩ v) (l.set (off + i) v) l' h1.2 (setCell_heap hb) hp'
    refine ⟨w', ?_, q1, fun k hk => by rw [q2 k hk, setCell_other hk], by rw [q3]; simp, by rw [q4]; rfl, by rw [q5]; rfl, by rw [q6]; rfl⟩
    simp only [storeCells, addr_add]
    simp [run_store h1.1 hc hf, hr, Result.andThen]
theorem cellsO_cells {v : Value} {vs : List Value} (h : cellsO v = some vs) : v.cells = ⟨vs⟩ := by
  cases v with
  | agg cs => obtain ⟨l⟩ := cs; simp [cellsO] at h; subst h; rfl
  | tuple _ => simp [cellsO] at h
  | _ => simp [cellsO] at h; subst h; rfl
/-- How many cells a variable of a type has. -/
theorem run_storeAt {P : Program} {w : World} {T E : TypeId} {b off k : Nat} {v : Value} {vs l l' : List Value} (hT : sizeP P T = some k) (hv : cellsO v = some vs) (hk : vs.length = k) (h1 : vs.all isOne = true)
    (hb : w.heap[b]? = some (.cells ⟨l⟩ E (0, 0))) (hp : putAt l off vs = some l') :
    ∃ w', (Instr.storeAt T (.pointer (some ⟨b, off, none⟩)) v).run P w = .ok () w' ∧ w'.heap[b]? = some (.cells ⟨l'⟩ E (0, 0)) ∧ (∀ k, k ≠ b → w'.heap[k]? = w.heap[k]?) ∧
      w'.heap.size = w.heap.size ∧ w'.os = w.os ∧ w'.tape = w.tape ∧ w'.output = w.output := by
  obtain ⟨w', hr, rest⟩ := run_storeCells (P := P) (b := b) (off := off) (E := E) vs 0 w l l' h1 hb (by simpa using hp)
  refine ⟨w', ?_, rest⟩
  simp [Instr.storeAt, Instr.sureAddr, storeVar, cellsO_cells hv, run_sizeOf hT, hk, hr, Result.andThen]

section
variable {C : Cx} {Q : Post} {env : Env} {own : Own} {D : List Deferred} {ops : Array Oper} {rest : List Oper}
variable {d : Nat} {ty : TypeId} {pos : String} {aft : Array Edge} {g : Option (Nat × Bool)} {x y z : Operand} {v : Value} {T T' : TypeId}

/-- A store into a block of the call's own. -/
theorem SXL.store {b off k : Nat} (i : Nat) {E : TypeId} {vs l l' : List Value} (hT : sizeP C.P T = some k) (hx : ev env x = some (.pointer (some ⟨b, off, none⟩))) (hy : ev env y = some v)
    (hi : own[i]? = some (b, .cells ⟨l⟩ E (0, 0))) (hv : cellsO v = some vs) (hk : vs.length = k) (hp : putAt l off vs = some l')
    (h : SXL C ops rest Q ⟨env, own.set i (b, .cells ⟨l'⟩ E (0, 0)), D⟩) (h1 : vs.all isOne = true := by rfl) (hk0 : Nat.blt 0 k = true := by rfl) (hw : Wanted ops g env = some true := by rfl) (hdr : C.dr = false := by rfl) :
    SXL C ops ({ dst := none, op := .store T x y, type := ty, pos, after := aft, guard := g } :: rest) Q ⟨env, own, D⟩ :=
  SXL.op hw (fun _ e => by cases e) (hdr := hdr) fun a w hc => by
    have hlive : live (b, .cells ⟨l⟩ E (0, 0)) = true := live_of_len (by have := (putAt_spec hp).2.1; rw [Nat.blt_eq] at hk0; omega)
    obtain ⟨w', hr, q1, q2, q3, q4, q5, q6⟩ := run_storeAt (P := C.P) (w := w) hT hv hk h1 (hc.2.2.get hi hlive).2 hp
    refine ⟨undef, w', .inr ⟨?_, rfl⟩, ⟨env, own.set i (b, .cells ⟨l'⟩ E (0, 0)), D⟩, fun a' ha' hD' => ⟨ha', hD', hc.2.2.set hi hlive q2 q1 q3 q4 q5 q6⟩, h⟩
    simp only [execOp, hc.1.eval hx, hc.1.eval hy]
    simp [hr, Result.andThen]

/-! ### new blocks -/
theorem run_newObj {P : Program} {w : World} {o : Obj} : (newObj o).run P w = .ok w.heap.size (w.alloc o) := rfl
theorem SXL.new {o : Oper} {ob : Obj} {f : Nat → Value} (ho : o.dst = some d) (hd : Nat.blt d C.n = true) (hw : Wanted ops o.guard env = some true) (hnd : ∀ c, o.op ≠ .defer c)
    (hv : ∀ a w, Agree C.n env a → Inv C.w0 own w → (execOp a.eval o).run C.P w = .ok (.value (f w.heap.size)) (w.alloc ob))
    (h : ∀ b, SXL C ops rest Q ⟨(d, f b) :: env, own ++ [(b, ob)], D⟩) (hdr : C.dr = false := by rfl) : SXL C ops (o :: rest) Q ⟨env, own, D⟩ :=
  SXL.op hw hnd (hdr := hdr) fun a w hc => ⟨_, _, .inl (hv a w hc.1 hc.2.2), ⟨(d, f w.heap.size) :: env, own ++ [(w.heap.size, ob)], D⟩,
    fun a' ha' hD' => by rw [ho]; exact ⟨ha'.put hd _, by rw [put_defers]; exact hD', hc.2.2.append (Inv.alloc1 w ob)⟩, h _⟩
theorem SXL.alloc {l : List Value} (hT : zeroP C.P T = some l) (h : ∀ b, SXL C ops rest Q ⟨(d, .pointer (some ⟨b, 0, none⟩)) :: env, own ++ [(b, .cells ⟨l⟩ T (0, 0))], D⟩)
    (hd : Nat.blt d C.n = true := by rfl) (hw : Wanted ops g env = some true := by rfl) (hdr : C.dr = false := by rfl) :
    SXL C ops ({ dst := some d, op := .alloc T, type := ty, pos, after := aft, guard := g } :: rest) Q ⟨env, own, D⟩ :=
  SXL.new (f := fun b => .pointer (some ⟨b, 0, none⟩)) rfl hd hw (fun _ e => by cases e) (fun a w ha hI => by
    unfold zeroP at hT
    cases hi : C.P.info? T with
    | none => simp [hi] at hT
    | some inf =>
      simp only [hi, Option.bind_some] at hT
      cases hz : inf.zero with
      | none => simp [hz] at hT
      | some zv =>
        simp only [hz, Option.bind_some] at hT
        simp [execOp, Instr.alloc, zeroValue, typeInfo, hi, hz, newVar, newRow, cellsO_cells hT, Result.andThen]) h hdr
theorem SXL.box {l : List Value} (hx : ev env x = some v) (hl : cellsO v = some l) (h : ∀ b, SXL C ops rest Q ⟨(d, .pointer (some ⟨b, 0, none⟩)) :: env, own ++ [(b, .cells ⟨l⟩ T (0, 0))], D⟩)
    (hd : Nat.blt d C.n = true := by rfl) (hw : Wanted ops g env = some true := by rfl) (hdr : C.dr = false := by rfl) :
    SXL C ops ({ dst := some d, op := .box T x, type := ty, pos, after := aft, guard := g } :: rest) Q ⟨env, own, D⟩ :=
  SXL.new (f := fun b => .pointer (some ⟨b, 0, none⟩)) rfl hd hw (fun _ e => by cases e) (fun a w ha hI => by
    simp [execOp, ha.eval hx, Instr.box, newVar, newRow, cellsO_cells hl, Result.andThen]) h hdr

/-! ### building a struct, an array, a row -/
/-- The parts laid into the zero cells. -/
def bld (place : Nat → Option (Nat × Nat)) : List Value → List (Nat × Value) → Option (List Value)
  | cs, [] => some cs
  | cs, (i, v) :: r => match place i, cellsO v with
    | some (off, size), some vs => match Nat.beq vs.length size, putAt cs off vs with
      | true, some cs' => bld place cs' r
      | _, _ => none
    | _, _ => none
def evp (env : Env) : List (Nat × Operand) → Option (List (Nat × Value))
  | [] => some []
  | (i, x) :: r => match ev env x, evp env r with
    | some v, some vs => some ((i, v) :: vs)
    | _, _ => none
theorem evp_map {n : Nat} {env : Env} {a : Act} (h : Agree n env a) : ∀ {xs : List (Nat × Operand)} {vs : List (Nat × Value)}, evp env xs = some vs → xs.map (fun (i, x) => (i, a.eval x)) = vs
  | [], vs, hx => by simp [evp] at hx; simp [hx]
  | (i, x) :: r, vs, hx => by
    simp only [evp] at hx
    split at hx
    · rename_i v us hv hus
      simp at hx
      subst hx
      have := evp_map h hus
      simp only [List.map_cons, h.eval hv]
      rw [this]
    · cases hx
theorem fold_putAt {off : Nat} : ∀ (vs : List Value) (k : Nat) (l l' : List Value), putAt l (off + k) vs = some l' →
    (vs.zipIdx k).foldl (fun (cs : Array Value) (p : Value × Nat) => cs.setIfInBounds (off + p.2) p.1) ⟨l⟩ = ⟨l'⟩
  | [], k, l, l', hp => by
    obtain ⟨_, _, _, h4⟩ := putAt_spec hp
    have : l' = l := List.ext_getElem? fun j => h4 j (by simp; omega)
    simp [this]
  | v :: vs, k, l, l', hp => by
    have hp' : putAt (l.set (off + k) v) (off + (k + 1)) vs = some l' := by rw [← Nat.add_assoc]; exact putAt_cons hp
    simp only [List.zipIdx_cons, List.foldl_cons]
    rw [show (⟨l⟩ : Array Value).setIfInBounds (off + k) v = ⟨l.set (off + k) v⟩ from by simp]
    exact fold_putAt vs (k + 1) _ _ hp'
theorem fill_bld {place : Nat → Option (Nat × Nat)} : ∀ {r : List (Nat × Value)} {cs l : List Value}, bld place cs r = some l → Instr.fill place ⟨cs⟩ r = some ⟨l⟩
  | [], cs, l, h => by simp [bld] at h; simp [Instr.fill, h]
  | (i, v) :: r, cs, l, h => by
    simp only [bld] at h
    split at h
    · rename_i off size vs hpl hv
      split at h
      · rename_i cs' hl hput
        simp only [Instr.fill, hpl, cellsO_cells hv]
        have hl' : vs.length = size := Nat.eq_of_beq_eq_true hl
        obtain ⟨_, p2, _, _⟩ := putAt_spec hput
        rw [if_neg (by simp [hl']; omega)]
        have := fold_putAt (off := off) vs 0 cs cs' (by simpa using hput)
        rw [← Array.foldl_toList, Array.toList_zipIdx]
        rw [this]
        exact fill_bld h
      · cases h
    · cases h
theorem run_val' {P : Program} {m : Sem Value} {r : Value} {w w' : World} (h : m.run P w = .ok r w') : (do pure (Next.value (← m)) : Sem Next).run P w = .ok (.value r) w' := by
  simp [h, Result.andThen]
/-- The zero cells over and over. -/
def rowOf (zs : List Value) (n : Nat) : List Value := (List.range n).map fun i => zs[i % zs.length]!
def elemT (P : Program) (t : TypeId) : Option (TypeId × Nat) :=
  match P.underlying t with
  | some (.slice e) => (sizeP P e).map fun s => (e, s)
  | _ => none
/-- Where the fields of a struct, the elements of an array lie. -/
def placesP (P : Program) (t : TypeId) : Option (List (Nat × Nat)) :=
  match P.underlying t with
  | some (.struct fs) => fs.toList.mapM fun f => (sizeP P f.type).map fun s => (f.offset, s)
  | _ => none
theorem run_mapM_places {P : Program} {w : World} : ∀ (l : List Field) (r : List (Nat × Nat)), l.mapM (fun f => (sizeP P f.type).map fun s => (f.offset, s)) = some r →
    (l.mapM (fun f => (Prod.mk f.offset <$> sizeOf f.type : Sem (Nat × Nat)))).run P w = .ok r w
  | [], r, h => by simp at h; subst h; simp
  | f :: l, r, h => by
    simp only [List.mapM_cons, Option.bind_eq_bind, Option.bind_eq_some_iff] at h
    obtain ⟨p, hp, r', hr', h⟩ := h
    simp at h; subst h
    cases hs : sizeP P f.type with
    | none => simp [hs] at hp
    | some s =>
      simp [hs] at hp; subst hp
      have ih := run_mapM_places (w := w) l r' hr'
      simp [List.mapM_cons, run_sizeOf hs, ih, Result.andThen]
theorem SXL.buildS {parts : List (Nat × Operand)} {pl : List (Nat × Nat)} {zs l : List Value} {ps : List (Nat × Value)} (hT : placesP C.P T = some pl) (hz : zeroP C.P T = some zs)
    (hx : evp env parts = some ps) (hb : bld (pl[·]?) zs ps = some l)
    (h : SXL C ops rest Q ⟨(d, .agg ⟨l⟩) :: env, own, D⟩) (hd : Nat.blt d C.n = true := by rfl) (hw : Wanted ops g env = some true := by rfl) :
    SXL C ops ({ dst := some d, op := .build T ⟨parts⟩, type := ty, pos, after := aft, guard := g } :: rest) Q ⟨env, own, D⟩ :=
  SXL.val rfl hd hw (fun _ e => by cases e) (fun a w ha hI => by
    have hm := evp_map ha hx
    unfold placesP at hT
    split at hT
    · rename_i fs hu
      have hrun := run_mapM_places (P := C.P) (w := w) _ _ hT
      unfold zeroP at hz
      cases hi : C.P.info? T with
      | none => simp [hi] at hz
      | some inf =>
        simp only [hi, Option.bind_some] at hz
        cases hzz : inf.zero with
        | none => simp [hzz] at hz
        | some zv =>
          simp only [hzz, Option.bind_some] at hz
          simp only [execOp]
          refine run_val ?_
          have hf := fill_bld hb
          rw [← hm] at hf
          have e : (Array.mk parts).map (fun (i, x) => (i, a.eval x)) = ⟨parts.map fun (i, x) => (i, a.eval x)⟩ := by simp
          rw [e]
          have hfs : (fs.mapM (fun f => (Prod.mk f.offset <$> sizeOf f.type : Sem (Nat × Nat)))).run C.P w = .ok ⟨pl⟩ w := by
            rw [Array.mapM_eq_mapM_toList]
            simp [hrun, Result.andThen]
          simp [Instr.build, zeroValue, typeInfo, hi, hzz, cellsO_cells hz, run_underlying hu, hfs, Result.andThen]
          have hf' : Instr.fill (fun x => pl[x]?) { toList := zs } (List.map (fun x => (x.fst, a.eval x.snd)) parts) = some ⟨l⟩ := hf
          rw [hf']
          rfl
    · cases hT) h
/-- A slice of parts in a new row. -/
theorem SXL.buildSlice {e : TypeId} {n sz : Nat} {parts : List (Nat × Operand)} {zs l : List Value} {ps : List (Nat × Value)} (hT : elemT C.P T = some (e, sz)) (hz : zeroP C.P e = some zs)
    (hn : Nat.blt (n * sz) 16777217 = true) (hpos : Nat.blt 0 (n * sz) = true) (hx : evp env parts = some ps) (hb : bld (fun i => some (i * sz, sz)) (rowOf zs (n * sz)) ps = some l)
    (h : ∀ b, SXL C ops rest Q ⟨(d, .slice (some ⟨b, 0, none⟩) n n) :: env, own ++ [(b, .cells ⟨l⟩ e (0, 0))], D⟩) (hd : Nat.blt d C.n = true := by rfl) (hw : Wanted ops g env = some true := by rfl) (hdr : C.dr = false := by rfl) :
    SXL C ops ({ dst := some d, op := .buildSlice T n ⟨parts⟩, type := ty, pos, after := aft, guard := g } :: rest) Q ⟨env, own, D⟩ :=
  SXL.new (f := fun b => .slice (some ⟨b, 0, none⟩) n n) rfl hd hw (fun _ e => by cases e) (fun a w ha hI => by
    have hm := evp_map ha hx
    unfold elemT at hT
    split at hT
    · rename_i e' hu
      cases hs : sizeP C.P e' with
      | none => simp [hs] at hT
      | some s =>
        simp [hs] at hT
        obtain ⟨rfl, rfl⟩ := hT
        unfold zeroP at hz
        cases hi : C.P.info? e' with
        | none => simp [hi] at hz
        | some inf =>
          simp only [hi, Option.bind_some] at hz
          cases hzz : inf.zero with
          | none => simp [hzz] at hz
          | some zv =>
            simp only [hzz, Option.bind_some] at hz
            have hn' : ¬ (16777216 < n * s) := by rw [Nat.blt_eq] at hn; omega
            have hp' : ¬ (n * s = 0) := by rw [Nat.blt_eq] at hpos; omega
            have hf := fill_bld hb
            rw [← hm] at hf
            have hf' : Instr.fill (fun x => some (x * s, s)) { toList := rowOf zs (n * s) } (List.map (fun x => (x.fst, a.eval x.snd)) parts) = some ⟨l⟩ := hf
            have e2 : (Array.range (n * s)).map (fun i => (zv.cells)[i % (zv.cells).size]!) = ⟨rowOf zs (n * s)⟩ := by
              rw [cellsO_cells hz]
              apply Array.ext'
              simp [rowOf]
            simp only [execOp]
            refine run_val' ?_
            simp [Instr.buildSlice, run_underlying hu, run_sizeOf hs, hn', hp', zeroValue, typeInfo, hi, hzz, Result.andThen, e2, hf', newRow]
    · cases hT) h hdr
theorem SXL.buildSlice0 {e : TypeId} {sz : Nat} (hT : elemT C.P T = some (e, sz))
    (h : ∀ b, SXL C ops rest Q ⟨(d, .slice (some ⟨b, 0, none⟩) 0 0) :: env, own ++ [(b, .cells ⟨[]⟩ e (0, 0))], D⟩) (hd : Nat.blt d C.n = true := by rfl) (hw : Wanted ops g env = some true := by rfl) (hdr : C.dr = false := by rfl) :
    SXL C ops ({ dst := some d, op := .buildSlice T 0 ⟨[]⟩, type := ty, pos, after := aft, guard := g } :: rest) Q ⟨env, own, D⟩ :=
  SXL.new (f := fun b => .slice (some ⟨b, 0, none⟩) 0 0) rfl hd hw (fun _ e => by cases e) (fun a w ha hI => by
    unfold elemT at hT
    split at hT
    · rename_i e' hu
      cases hs : sizeP C.P e' with
      | none => simp [hs] at hT
      | some s =>
        simp [hs] at hT
        obtain ⟨rfl, rfl⟩ := hT
        simp only [execOp]
        refine run_val' ?_
        simp [Instr.buildSlice, run_underlying hu, run_sizeOf hs, Result.andThen, newRow, Instr.fill]
        have e0 : (Array.map (fun (_ : Nat) => (default : Value)) (Array.range 0)) = ⟨[]⟩ := by apply Array.ext'; simp
        rw [e0]
    · cases hT) h hdr

/-! ### function values; slices of slices -/
theorem SXL.makeFunc {f : Fn} {xs ys : List Operand} {us vs : List Value} (hx : evl env xs = some us) (hy : evl env ys = some vs)
    (h : SXL C ops rest Q ⟨(d, .func f ⟨us⟩ ⟨vs⟩) :: env, own, D⟩) (hd : Nat.blt d C.n = true := by rfl) (hw : Wanted ops g env = some true := by rfl) :
    SXL C ops ({ dst := some d, op := .makeFunc f ⟨xs⟩ ⟨ys⟩, type := ty, pos, after := aft, guard := g } :: rest) Q ⟨env, own, D⟩ :=
  SXL.val rfl hd hw (fun _ e => by cases e) (fun a w ha hI => by
    have h1 := evl_map ha hx
    have h2 := evl_map ha hy
    simp only [execOp, List.map_toArray, h1, h2]
    exact run_val (by simp [Instr.makeFunc])) h
/-- A part of a slice: 'x[lo:hi]', not to its very end at the capacity. -/
def cutAddr (ao : Option Addr) (l c s : Nat) : Option Addr := if c = l then ao else ao.map (·.add (l * s))
theorem SXL.sliceLH {ao : Option Addr} {n c s : Nat} {k k' : IntKind} {A B : Int} (he : elemP C.P T = some (none, s)) (hx : ev env x = some (.slice ao n c)) (hy : ev env y = some (.int k A)) (hz : ev env z = some (.int k' B))
    (hb : 0 ≤ A ∧ A ≤ B ∧ B ≤ c)
    (h : SXL C ops rest Q ⟨(d, .slice (cutAddr ao A.toNat c s) (B.toNat - A.toNat) (c - A.toNat)) :: env, own, D⟩) (hd : Nat.blt d C.n = true := by rfl) (hw : Wanted ops g env = some true := by rfl) :
    SXL C ops ({ dst := some d, op := .slice T x (some y) (some z) none, type := ty, pos, after := aft, guard := g } :: rest) Q ⟨env, own, D⟩ :=
  SXL.val rfl hd hw (fun _ e => by cases e) (fun a w ha hI => by
    unfold elemP at he
    split at he
    · rename_i e hu
      cases hs : sizeP C.P e <;> simp [hs] at he
      subst he
      simp only [execOp, ha.eval hx, ha.eval hy, ha.eval hz, Option.map_some, Option.map_none]
      have h1 : 0 ≤ B := by omega
      have h2 : A ≤ Max.max B 0 := by omega
      exact run_val (by simp [Instr.sliceAt, Instr.slice, Instr.sliceBounds, Instr.sliceBound, asIntOf, run_underlying hu, run_sizeOf hs, hb.1, hb.2.2, h1, h2, cutAddr, Result.andThen])
    · rename_i n' e hu
      cases hs : sizeP C.P e <;> simp [hs] at he
    · cases he) h
theorem SXL.sliceL {ao : Option Addr} {n c s : Nat} {k : IntKind} {A : Int} (he : elemP C.P T = some (none, s)) (hx : ev env x = some (.slice ao n c)) (hy : ev env y = some (.int k A))
    (hb : 0 ≤ A ∧ A ≤ n)
    (h : SXL C ops rest Q ⟨(d, .slice (cutAddr ao A.toNat c s) (n - A.toNat) (c - A.toNat)) :: env, own, D⟩) (hd : Nat.blt d C.n = true := by rfl) (hw : Wanted ops g env = some true := by rfl) :
    SXL C ops ({ dst := some d, op := .slice T x (some y) none none, type := ty, pos, after := aft, guard := g } :: rest) Q ⟨env, own, D⟩ :=
  SXL.val rfl hd hw (fun _ e => by cases e) (fun a w ha hI => by
    unfold elemP at he
    split at he
    · rename_i e hu
      cases hs : sizeP C.P e <;> simp [hs] at he
      subst he
      simp only [execOp, ha.eval hx, ha.eval hy, Option.map_some, Option.map_none]
      exact run_val (by simp [Instr.sliceAt, Instr.slice, Instr.sliceBounds, Instr.sliceBound, asIntOf, run_underlying hu, run_sizeOf hs, hb.1, hb.2, cutAddr, Result.andThen])
    · rename_i n' e hu
      cases hs : sizeP C.P e <;> simp [hs] at he
    · cases he) h
theorem SXL.sliceH {ao : Option Addr} {n c s : Nat} {k' : IntKind} {B : Int} (he : elemP C.P T = some (none, s)) (hx : ev env x = some (.slice ao n c)) (hz : ev env z = some (.int k' B))
    (hb : 0 ≤ B ∧ B ≤ c)
    (h : SXL C ops rest Q ⟨(d, .slice (cutAddr ao 0 c s) B.toNat c) :: env, own, D⟩) (hd : Nat.blt d C.n = true := by rfl) (hw : Wanted ops g env = some true := by rfl) :
    SXL C ops ({ dst := some d, op := .slice T x none (some z) none, type := ty, pos, after := aft, guard := g } :: rest) Q ⟨env, own, D⟩ :=
  SXL.val rfl hd hw (fun _ e => by cases e) (fun a w ha hI => by
    unfold elemP at he
    split at he
    · rename_i e hu
      cases hs : sizeP C.P e <;> simp [hs] at he
      subst he
      simp only [execOp, ha.eval hx, ha.eval hz, Option.map_some, Option.map_none]
      exact run_val (by simp [Instr.sliceAt, Instr.slice, Instr.sliceBounds, Instr.sliceBound, asIntOf, run_underlying hu, run_sizeOf hs, hb.1, hb.2, cutAddr, Result.andThen])
    · rename_i n' e hu
      cases hs : sizeP C.P e <;> simp [hs] at he
    · cases he) h

/-! ### calls -/
def fnOk (P : Program) (f : FuncId) : Bool := match P.funcs[f]? with
  | some fn => !(fn.name == "runtime.NumGoroutine") && fn.body.isSome
  | none => false
theorem run_callFunc {P : Program} {w : World} {f : FuncId} {args : Array Value} (h : fnOk P f = true) : (callFunc f args).run P w = .ok (.enter f args) w := by
  unfold fnOk at h
  split at h
  · rename_i fn hf
    simp only [Bool.and_eq_true, Bool.not_eq_true'] at h
    have hb : ¬ fn.body = none := by cases hb : fn.body <;> simp [hb] at h ⊢
    have hn : ¬ fn.name = "runtime.NumGoroutine" := by simpa using h.1
    simp [callFunc, hf, hn, hb]
  · cases h
/-- A call hands back a value of which R holds, with blocks of its own; all that there was is kept. -/
def CallsR (P : Program) (f : FuncId) (args : List Value) (w : World) (R : Value → Own → Prop) : Prop :=
  Calls P f ⟨args⟩ w fun e w' => ∃ v own, e = .returned v ∧ Inv w own w' ∧ R v own
theorem CallsR.mono {P : Program} {f : FuncId} {args : List Value} {w : World} {R R' : Value → Own → Prop} (h : CallsR P f args w R) (hr : ∀ v own, R v own → R' v own) : CallsR P f args w R' :=
  Calls.mono h fun _ _ ⟨v, own, h1, h2, h3⟩ => ⟨v, own, h1, h2, hr _ _ h3⟩
theorem callsIn_FW {rd : Option Nat} {n : Nat} {P : Program} {f : FuncId} {args : Array Value} {w : World} {R : Ending → World → Prop} (h : Calls P f args w R) : CallsIn (FW rd) n P f args w R :=
  (callsIn_wide (n := n)).2 h
theorem SXL.callOf {o : Oper} {f : FuncId} {args : List Value} {R : Value → Own → Prop} (ho : o.dst = some d) (hd : Nat.blt d C.n = true) (hw : Wanted ops o.guard env = some true) (hnd : ∀ c, o.op ≠ .defer c)
    (hv : ∀ a w, Agree C.n env a → Inv C.w0 own w → (execOp a.eval o).run C.P w = .ok (.enter f ⟨args⟩) w)
    (hc : ∀ w, Inv C.w0 own w → CallsR C.P f args w R)
    (h : ∀ v own', R v own' → SXL C ops rest Q ⟨(d, v) :: env, own ++ own', D⟩) (hdr : C.dr = false := by rfl) : SXL C ops (o :: rest) Q ⟨env, own, D⟩ := by
  refine SXL.ofn hdr ?_
  intro a w hcn
  have hw' := hcn.1.wanted hw
  simp only [wpListIn, hw', if_true]
  refine ⟨about_true rfl, ?_⟩
  rw [Oper.semAt_eq _ _ _ hnd, hv a w hcn.1 hcn.2.2]
  refine ⟨fun hx => (by cases hx), callsIn_FW (Calls.mono (hc w hcn.2.2) ?_)⟩
  rintro e w' ⟨v, own', rfl, hI', hR⟩
  exact (h v own' hR).ton hdr _ _ (by rw [ho]; exact ⟨hcn.1.put hd v, by rw [put_defers]; exact hcn.2.1, hcn.2.2.append hI'⟩)
/-- .. that hands back one value, and of whose blocks nothing is wanted. -/
theorem SXL.callOf1 {o : Oper} {f : FuncId} {args : List Value} {v : Value} (ho : o.dst = some d) (hd : Nat.blt d C.n = true) (hw : Wanted ops o.guard env = some true) (hnd : ∀ c, o.op ≠ .defer c)
    (hv : ∀ a w, Agree C.n env a → Inv C.w0 own w → (execOp a.eval o).run C.P w = .ok (.enter f ⟨args⟩) w)
    (hc : ∀ w, Inv C.w0 own w → CallsR C.P f args w fun u _ => u = v)
    (h : SXL C ops rest Q ⟨(d, v) :: env, own, D⟩) : SXL C ops (o :: rest) Q ⟨env, own, D⟩ := by
  refine SXL.ofb (fun hdr => SXL.ton (SXL.callOf ho hd hw hnd hv hc (fun u own' hu => by subst hu; exact SXL.le (s' := ⟨(d, u) :: env, own, D⟩) ⟨EnvSub.refl _, Sel.pre _ _, rfl⟩ h) hdr) hdr) fun hdr a ha hD => ?_
  refine ⟨v, fun w hS K hK => ?_, by rw [ho]; exact h.toq hdr _ (ha.put hd v) (by rw [put_defers]; exact hD)⟩
  rw [if_pos (ha.wanted hw)]
  refine ⟨about_true rfl, ?_⟩
  rw [Oper.semAt_eq _ _ _ hnd, hv a w ha hS]
  refine ⟨fun hx => (by cases hx), callsIn_FW (Calls.mono (hc w hS) ?_)⟩
  rintro e w' ⟨u, own', rfl, hI', rfl⟩
  exact hK w' hI'.below
/-- A call of a function that the text names. -/
theorem SXL.callF {f : FuncId} {xs : List Operand} {ats : Array TypeId} {args : List Value} (R : Value → Own → Prop) (hf : fnOk C.P f = true) (hx : evl env xs = some args)
    (hc : ∀ w, Inv C.w0 own w → CallsR C.P f args w R)
    (h : ∀ v own', R v own' → SXL C ops rest Q ⟨(d, v) :: env, own ++ own', D⟩) (hd : Nat.blt d C.n = true := by rfl) (hw : Wanted ops g env = some true := by rfl) (hdr : C.dr = false := by rfl) :
    SXL C ops ({ dst := some d, op := .call { callee := .value (.func f), args := ⟨xs⟩, argTypes := ats }, type := ty, pos, after := aft, guard := g } :: rest) Q ⟨env, own, D⟩ :=
  SXL.callOf rfl hd hw (fun _ e => by cases e) (fun a w ha hI => by
    rw [execOp_call_go]
    have := evl_map ha hx
    simp only [List.map_toArray, this]
    simpa using run_callFunc hf) hc h hdr
/-- A call through a function value. -/
theorem SXL.callV {f : FuncId} {xs : List Operand} {ats : Array TypeId} {args first captured : List Value} (R : Value → Own → Prop) (hf : fnOk C.P f = true)
    (hy : ev env y = some (.func (.func f) ⟨first⟩ ⟨captured⟩)) (hx : evl env xs = some args)
    (hc : ∀ w, Inv C.w0 own w → CallsR C.P f (first ++ args ++ captured) w R)
    (h : ∀ v own', R v own' → SXL C ops rest Q ⟨(d, v) :: env, own ++ own', D⟩) (hd : Nat.blt d C.n = true := by rfl) (hw : Wanted ops g env = some true := by rfl) (hdr : C.dr = false := by rfl) :
    SXL C ops ({ dst := some d, op := .call { callee := .value y, args := ⟨xs⟩, argTypes := ats }, type := ty, pos, after := aft, guard := g } :: rest) Q ⟨env, own, D⟩ :=
  SXL.callOf rfl hd hw (fun _ e => by cases e) (fun a w ha hI => by
    have h1 := evl_map ha hx
    simp [execOp, resolve, Deferred.ofValue, ha.eval hy, h1, invoke, run_callFunc hf]) hc h hdr
/-- A call that hands back one value, and of whose blocks nothing is wanted. -/
theorem SXL.call1 {f : FuncId} {xs : List Operand} {ats : Array TypeId} {args : List Value} (v : Value) (hf : fnOk C.P f = true) (hx : evl env xs = some args)
    (hc : ∀ w, Inv C.w0 own w → CallsR C.P f args w fun u _ => u = v)
    (h : SXL C ops rest Q ⟨(d, v) :: env, own, D⟩) (hd : Nat.blt d C.n = true := by rfl) (hw : Wanted ops g env = some true := by rfl) :
    SXL C ops ({ dst := some d, op := .call { callee := .value (.func f), args := ⟨xs⟩, argTypes := ats }, type := ty, pos, after := aft, guard := g } :: rest) Q ⟨env, own, D⟩ :=
  SXL.callOf1 rfl hd hw (fun _ e => by cases e) (fun a w ha hI => by
    rw [execOp_call_go]
    have := evl_map ha hx
    simp only [List.map_toArray, this]
    simpa using run_callFunc hf) hc h
theorem SXL.call1V {f : FuncId} {xs : List Operand} {ats : Array TypeId} {args first captured : List Value} (v : Value) (hf : fnOk C.P f = true)
    (hy : ev env y = some (.func (.func f) ⟨first⟩ ⟨captured⟩)) (hx : evl env xs = some args)
    (hc : ∀ w, Inv C.w0 own w → CallsR C.P f (first ++ args ++ captured) w fun u _ => u = v)
    (h : SXL C ops rest Q ⟨(d, v) :: env, own, D⟩) (hd : Nat.blt d C.n = true := by rfl) (hw : Wanted ops g env = some true := by rfl) :
    SXL C ops ({ dst := some d, op := .call { callee := .value y, args := ⟨xs⟩, argTypes := ats }, type := ty, pos, after := aft, guard := g } :: rest) Q ⟨env, own, D⟩ :=
  SXL.callOf1 rfl hd hw (fun _ e => by cases e) (fun a w ha hI => by
    have h1 := evl_map ha hx
    simp [execOp, resolve, Deferred.ofValue, ha.eval hy, h1, invoke, run_callFunc hf]) hc h
end

/-! ### a function's entry and its end -/
/-- The arguments as the first slots. -/
def envOf : List Value → Nat → Env
  | [], _ => []
  | v :: r, i => (i, v) :: envOf r (i + 1)
theorem get_envOf : ∀ {args : List Value} {i t : Nat} {v : Value}, get (envOf args i) t = some v → i ≤ t ∧ args[t - i]? = some v
  | [], _, _, _, h => by simp [envOf, get] at h
  | u :: r, i, t, v, h => by
    simp only [envOf, get] at h
    cases hit : Nat.beq i t <;> rw [hit] at h
    · have := get_envOf (args := r) (by simpa using h)
      obtain ⟨h1, h2⟩ := this
      refine ⟨by omega, ?_⟩
      rw [show t - i = (t - (i + 1)) + 1 by omega]
      simpa using h2
    · have := Nat.eq_of_beq_eq_true hit
      subst this
      simpa using h
def resSem (tmps : Array Value) : ResultVar → Sem Value
  | .tmp t => pure (tmps.getD t undef)
  | .cell a t => do loadVar t (← asAddr (tmps.getD a undef))
/-- What a result is. -/
def ResAt (C : Cx) (s : St) (r : ResultVar) (v : Value) : Prop := ∀ a w, Conc C.n C.w0 s a w → (resSem a.tmps r).run C.P w = .ok v w
theorem ResAt.tmp {C : Cx} {s : St} {t : Tmp} {v : Value} (h : get s.env t = some v) : ResAt C s (.tmp t) v := fun a w hc => by
  have := hc.1.2 t v h
  simp [resSem, this]
theorem ResAt.cell1 {C : Cx} {s : St} {t : Tmp} {T : TypeId} {v : Value} {b off : Nat} (hT : shapeT C.P T = some none) (h : get s.env t = some (.pointer (some ⟨b, off, none⟩))) (hm : Mem C.w0 s.own b off [v]) : ResAt C s (.cell t T) v := fun a w hc => by
  have h1 := hc.1.2 t _ h
  have h2 := run_loadAt1 hT (hm w hc.2.2 0 v rfl)
  simp [Instr.loadAt, Instr.sureAddr] at h2
  simp [resSem, h1, asAddr, h2]
theorem ResAt.cellN {C : Cx} {s : St} {t : Tmp} {T : TypeId} {vs : List Value} {b off k : Nat} (hT : shapeT C.P T = some (some k)) (h : get s.env t = some (.pointer (some ⟨b, off, none⟩))) (hm : Mem C.w0 s.own b off vs) (hk : vs.length = k) :
    ResAt C s (.cell t T) (.agg ⟨vs⟩) := fun a w hc => by
  have h1 := hc.1.2 t _ h
  have h2 := run_loadAtN hT hk (hm w hc.2.2)
  simp [Instr.loadAt, Instr.sureAddr] at h2
  simp [resSem, h1, asAddr, h2]
/-- .. out of a block of the call's own. -/
theorem ResAt.cellNo {C : Cx} {env : Env} {own : Own} {D : List Deferred} {t : Tmp} {T : TypeId} {vs l : List Value} {b off k : Nat} {E : TypeId} {fz : Nat × Nat} (i : Nat) (hT : shapeT C.P T = some (some k)) (h : get env t = some (.pointer (some ⟨b, off, none⟩)))
    (hi : own[i]? = some (b, .cells ⟨l⟩ E fz)) (hl : takeAt l off k = some vs) : ResAt C ⟨env, own, D⟩ (.cell t T) (.agg ⟨vs⟩) :=
  ResAt.cellN hT h (Mem.own hi hl) (takeAt_spec hl).1
theorem ResAt.cell1o {C : Cx} {env : Env} {own : Own} {D : List Deferred} {t : Tmp} {T : TypeId} {v : Value} {l : List Value} {b off : Nat} {E : TypeId} {fz : Nat × Nat} (i : Nat) (hT : shapeT C.P T = some none) (h : get env t = some (.pointer (some ⟨b, off, none⟩)))
    (hi : own[i]? = some (b, .cells ⟨l⟩ E fz)) (hl : l[off]? = some v) : ResAt C ⟨env, own, D⟩ (.cell t T) v :=
  ResAt.cell1 hT h (Mem.own hi (takeAt_one hl))
def ResAll (C : Cx) (s : St) : List ResultVar → List Value → Prop
  | [], [] => True
  | r :: rs, v :: vs => ResAt C s r v ∧ ResAll C s rs vs
  | _, _ => False
def valOf : List Value → Value
  | [v] => v
  | vs => .tuple ⟨vs⟩
theorem run_results {C : Cx} {s : St} {a : Act} {w : World} (hc : Conc C.n C.w0 s a w) : ∀ {rs : List ResultVar} {vs : List Value}, ResAll C s rs vs → (rs.mapM (resSem a.tmps)).run C.P w = .ok vs w
  | [], [], _ => by simp
  | r :: rs, v :: vs, h => by
    have h1 := h.1 a w hc
    have h2 := run_results hc h.2
    simp [List.mapM_cons, h1, h2, Result.andThen]
  | [], _ :: _, h => h.elim
  | _ :: _, [], h => h.elim
/-- The marks that ranges over functions leave among the deferred calls: at the end each closes its block. -/
inductive Unmark : List Deferred → Own → Own → Prop
  | nil (own : Own) : Unmark [] own own
  | cons {r : Nat} {ds : List Deferred} {own own' : Own} (i : Nat) (hi : own[i]? = some (r, .deferred (some []))) (h : Unmark ds (own.set i (r, .deferred none)) own') : Unmark ({ target := .collected r, args := #[] } :: ds) own own'
theorem Inv.putObj {w0 w : World} {own : Own} (h : Inv w0 own w) {i b : Nat} {o o' : Obj} (hi : own[i]? = some (b, o)) (hl : live (b, o) = true) : Inv w0 (own.set i (b, o')) (w.putObj b o') :=
  have hlt : b < w.heap.size := h.lt (List.mem_of_getElem? hi) hl
  h.set hi hl (fun _ hk => World.putObj_heap_other hk) (World.putObj_heap_same hlt) World.putObj_size rfl rfl rfl
theorem leaves_unmark {P : Program} {F : Fence} {n : Nat} {fn : Func} {tmps : Array Value} {R : Ending → World → Prop} {w0 : World} {ds : List Deferred} {own own' : Own} (h : Unmark ds own own') :
    ∀ {w : World}, Inv w0 own w → (∀ w', Inv w0 own' w' → ∃ v, (results fn tmps).run P w' = .ok v w' ∧ R (.returned v) w') → LeavesInM F n P fn tmps R ds .returning w := by
  induction h with
  | nil own => exact fun hI hR => hR _ hI
  | cons i hi _ ih =>
    intro w hI hR
    have hb := (hI.get hi rfl).2
    exact ⟨by simp, .inl ⟨_, _, rfl, run_takeDeferred hb, ih (hI.putObj hi rfl) hR⟩⟩
/-- What is asked at a function's end. -/
def retQ (C : Cx) (rs : List ResultVar) (R : Value → Own → Prop) : Post
  | .ret, s | .normal, s => ∃ own0, Unmark s.D s.own own0 ∧ ∃ vs, ResAll C ⟨s.env, own0, []⟩ rs vs ∧ ∃ own', Sel own' own0 ∧ R (valOf vs) own'
  | _, _ => False
def keepL : List Bool → Own → Own
  | true :: m, x :: l => x :: keepL m l
  | false :: m, _ :: l => keepL m l
  | _, _ => []
theorem keepL_sub : ∀ (m : List Bool) (l : Own), (keepL m l).Sublist l
  | true :: m, x :: l => by simp only [keepL]; exact (keepL_sub m l).cons_cons x
  | false :: m, x :: l => by simp only [keepL]; exact (keepL_sub m l).cons x
  | [], l => by simp [keepL]
  | _ :: _, [] => by simp [keepL]
theorem Calls.of_SX {P : Program} {f n : Nat} {fn : Func} {c : Code} {args : List Value} {w0 w : World} {own : Own} {rs : List ResultVar} {R : Value → Own → Prop} (hI : Inv w0 own w) (hf : P.funcs[f]? = some fn) (hb : fn.body = some c) (hn : fn.ntmps = n)
    (hr : fn.results.toList = rs) (hl : Nat.ble args.length n = true) (h : SX ⟨P, none, n, w0, false⟩ c (retQ ⟨P, none, n, w0, false⟩ rs R) ⟨envOf args 0, own, []⟩) : Calls P f ⟨args⟩ w fun e w' => ∃ v own', e = .returned v ∧ Inv w0 own' w' ∧ R v own' := by
  refine (callsIn_wide (n := 0)).1 (callsIn_of_wp_marks hf hb trivial (wpIn_mono (h _ w ⟨⟨?_, ?_⟩, rfl, hI⟩) ?_))
  · have : args.length ≤ n := Nat.ble_eq ▸ hl
    simp [hn]; omega
  · intro t v ht
    obtain ⟨_, h2⟩ := get_envOf ht
    simp only [Nat.sub_zero] at h2
    have hlt := (List.getElem?_eq_some_iff.1 h2).1
    rw [Array.getElem?_append_left (by simpa using hlt)]
    simpa using h2
  · rintro e a w' ⟨s, hc, hq⟩
    have key : (∃ own0, Unmark s.D s.own own0 ∧ ∃ vs, ResAll ⟨P, none, n, w0, false⟩ ⟨s.env, own0, []⟩ rs vs ∧ ∃ own', Sel own' own0 ∧ R (valOf vs) own') → LeavesInM (FW none) 0 P fn a.tmps (fun e w' => ∃ v own', e = .returned v ∧ Inv w0 own' w' ∧ R v own') a.defers .returning w' := by
      rintro ⟨own0, hum, vs, hrs, own', hsel, hR⟩
      rw [hc.2.1]
      refine leaves_unmark hum hc.2.2 fun w2 hI2 => ⟨valOf vs, ?_, valOf vs, own', rfl, hsel _ _ hI2, hR⟩
      have h1 := run_results (C := ⟨P, none, n, w0, false⟩) (s := ⟨s.env, own0, []⟩) (a := { a with defers := [] }) (w := w2) ⟨hc.1, rfl, hI2⟩ hrs
      have e1 : results fn a.tmps = (do let vs ← fn.results.mapM (resSem a.tmps); pure (if h : vs.size = 1 then vs[0] else .tuple vs) : Sem Value) := by
        unfold results
        congr 1
      rw [e1, Array.mapM_eq_mapM_toList, hr]
      cases vs with
      | nil => simp [h1, valOf, Result.andThen]
      | cons v vs =>
        cases vs with
        | nil => simp [h1, valOf, Result.andThen]
        | cons u us => simp [h1, valOf, Result.andThen]
    cases e <;> first | exact key hq | exact hq.elim
theorem CallsR.of_SX {P : Program} {f n : Nat} {fn : Func} {c : Code} {args : List Value} {w : World} {rs : List ResultVar} {R : Value → Own → Prop} (hf : P.funcs[f]? = some fn) (hb : fn.body = some c) (hn : fn.ntmps = n)
    (hr : fn.results.toList = rs) (hl : Nat.ble args.length n = true) (h : SX ⟨P, none, n, w, false⟩ c (retQ ⟨P, none, n, w, false⟩ rs R) ⟨envOf args 0, [], []⟩) : CallsR P f args w R :=
  Calls.of_SX (Inv.start w) hf hb hn hr hl h
theorem retQ.one {C : Cx} {env : Env} {own : Own} {r : ResultVar} {v : Value} {R : Value → Own → Prop} (h : ResAt C ⟨env, own, []⟩ r v) (hR : R v own) : retQ C [r] R .ret ⟨env, own, []⟩ :=
  ⟨own, .nil _, [v], ⟨h, trivial⟩, own, fun _ _ h => h, hR⟩
theorem retQ.two {C : Cx} {env : Env} {own : Own} {r1 r2 : ResultVar} {v1 v2 : Value} {R : Value → Own → Prop} (h1 : ResAt C ⟨env, own, []⟩ r1 v1) (h2 : ResAt C ⟨env, own, []⟩ r2 v2) (hR : R (.tuple ⟨[v1, v2]⟩) own) : retQ C [r1, r2] R .ret ⟨env, own, []⟩ :=
  ⟨own, .nil _, [v1, v2], ⟨h1, h2, trivial⟩, own, fun _ _ h => h, hR⟩
theorem retQ.three {C : Cx} {env : Env} {own : Own} {r1 r2 r3 : ResultVar} {v1 v2 v3 : Value} {R : Value → Own → Prop} (h1 : ResAt C ⟨env, own, []⟩ r1 v1) (h2 : ResAt C ⟨env, own, []⟩ r2 v2) (h3 : ResAt C ⟨env, own, []⟩ r3 v3) (hR : R (.tuple ⟨[v1, v2, v3]⟩) own) : retQ C [r1, r2, r3] R .ret ⟨env, own, []⟩ :=
  ⟨own, .nil _, [v1, v2, v3], ⟨h1, h2, h3, trivial⟩, own, fun _ _ h => h, hR⟩
theorem retQ.zero {C : Cx} {env : Env} {own : Own} {R : Value → Own → Prop} (hR : R (.tuple ⟨[]⟩) own) : retQ C [] R .ret ⟨env, own, []⟩ := ⟨own, .nil _, [], trivial, own, fun _ _ h => h, hR⟩
/-- A mark among the deferred calls. -/
theorem retQ.unmark {C : Cx} {rs : List ResultVar} {R : Value → Own → Prop} {env : Env} {own : Own} {r : Nat} {ds : List Deferred} (i : Nat) (hi : own[i]? = some (r, .deferred (some []))) (h : retQ C rs R .ret ⟨env, own.set i (r, .deferred none), ds⟩) : retQ C rs R .ret ⟨env, own, { target := .collected r, args := #[] } :: ds⟩ := by
  obtain ⟨own0, h1, h2⟩ := h
  exact ⟨own0, .cons i hi h1, h2⟩
/-- Only some blocks are handed back. -/
theorem retQ.keep {C : Cx} {rs : List ResultVar} {R : Value → Own → Prop} {s : St} (m : List Bool) (h : retQ C rs (fun v o => R v (keepL m o)) .ret s) : retQ C rs R .ret s := by
  obtain ⟨own0, h1, vs, h2, own', h3, h4⟩ := h
  exact ⟨own0, h1, vs, h2, keepL m own', fun w0 w hI => (h3 w0 w hI).weaken (keepL_sub _ _), h4⟩
end Go.X
