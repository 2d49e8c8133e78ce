/- The calculus' rules: a range over a function, walked in place: the function's own frame, and a round's frame within it. Nothing of the program stands here. -/
import Derived.Test.YtknflipongbngaaDoorXV
import Derived.Scope
namespace Go.X
open Go Go.RowKit

/-- The loop's record. -/
abbrev LR (fn : FuncId) (T : Array Value) (ps : Array Tmp) (assign body : Code) (r : Nat) (st : LoopState) : Obj := .loop { state := st, pending := none, fn, tmps := T, params := ps, assign, body, defers := r }
/-- What the caller's frame held when the loop began. -/
def Held (n : Nat) (env : Env) (T : Array Value) : Prop := T.size = n ∧ ∀ t v, get env t = some v → T[t]? = some v
/-- What is asked when the function that is ranged over ends. -/
def rfQ (Q : Post) (env : Env) (D : List Deferred) (ob : LoopState → Obj) (r l : Nat) (own : Own) : Prop :=
  ∃ i, own[i]? = some (l, ob .ready) ∧ Q .normal ⟨env, own.set i (l, ob .exhausted), { target := .collected r, args := #[] } :: D⟩
/-- A scope of labels to which nothing jumps. -/
def scopeQ (Q : Post) : Post
  | .goto _, _ => False
  | e, s => Q e s
theorem scopeQ.normal {Q : Post} {s : St} (h : Q .normal s) : scopeQ Q .normal s := h
theorem scopeQ.ret {Q : Post} {s : St} (h : Q .ret s) : scopeQ Q .ret s := h
theorem scopeQ.exit {Q : Post} {s : St} {i : Nat} (h : Q (.exit i) s) : scopeQ Q (.exit i) s := h
theorem SX.scope {C : Cx} {Q : Post} {s : St} {c : Code} (h : SX C c (scopeQ Q) s) (hrd : C.rd = none := by rfl) : SX C (.scope c) Q s := by
  intro a w hc
  have h1 := h a w hc
  have e : FW C.rd = Fence.wide := by rw [hrd]; rfl
  rw [e] at h1 ⊢
  refine wpIn_wide.2 (wp_scope_straight (wp_mono (wpIn_wide.1 h1) ?_))
  rintro e a' w' ⟨s', hc', hq⟩
  cases e <;> first | exact hq.elim | exact ⟨s', hc', hq⟩
theorem SX.label {C : Cx} {Q : Post} {s : St} {l : Nat} (h : Q .normal s) : SX C (.label l) Q s := fun _ _ hc => wpIn_label ⟨s, hc, h⟩
section
variable {C : Cx} {Q : Post} {env : Env} {own : Own} {D : List Deferred} {ops : Array Oper} {rest : List Oper}
variable {d : Nat} {ty : TypeId} {pos : String} {aft : Array Edge} {gd : Option (Nat × Bool)} {y : Operand}
theorem SX.rangeFunc {g : Operand} {ps : Array Tmp} {assign body : Code} {f nf : Nat} {fnc : Func} {cf : Code} {first capt : List Value} {rs : List ResultVar}
    (hg : ev env g = some (.func (.func f) ⟨first⟩ ⟨capt⟩)) (hok : fnOk C.P f = true) (hf : C.P.funcs[f]? = some fnc) (hb : fnc.body = some cf) (hn : fnc.ntmps = nf) (hr : fnc.results.toList = rs) (hl : Nat.ble (first.length + 1 + capt.length) nf = true)
    (h : ∀ fn T r l (ob : LoopState → Obj), Held C.n env T → (∀ st, ob st = LR fn T ps assign body r st) → SX ⟨C.P, none, nf, C.w0, false⟩ cf (retQ ⟨C.P, none, nf, C.w0, false⟩ rs fun _ o => rfQ Q env D ob r l o)
      ⟨envOf (first ++ [.func (.yield l) ⟨[]⟩ ⟨[]⟩] ++ capt) 0, own ++ [(r, .deferred (some [])), (l, ob .ready)], []⟩) (hrd : C.rd = none := by rfl) : SX C (.rangeFunc g ps assign body) Q ⟨env, own, D⟩ := by
  intro a w hc
  refine wpIn_rangeFunc fun fn _ => ?_
  have hro : (FW C.rd).round = none := hrd
  rw [hro]
  obtain ⟨W1, hW1⟩ : ∃ W1, (w.alloc (.deferred (some []))).alloc (LR fn a.tmps ps assign body w.heap.size .ready) = W1 := ⟨_, rfl⟩
  have hI1 : Inv C.w0 (own ++ [(w.heap.size, .deferred (some [])), (w.heap.size + 1, LR fn a.tmps ps assign body w.heap.size .ready)]) W1 := by
    rw [← hW1]
    have h1 := hc.2.2.append (Inv.alloc1 w (.deferred (some [])))
    have h2 := h1.append (Inv.alloc1 (w.alloc (.deferred (some []))) (LR fn a.tmps ps assign body w.heap.size .ready))
    rw [List.append_assoc] at h2
    simpa using h2
  refine ⟨w.heap.size + 1, [{ target := .collected w.heap.size, args := #[] }], W1, { target := .fn (.func f) ⟨capt⟩, args := ⟨first⟩ ++ #[.func (.yield (w.heap.size + 1)) #[] #[]] }, W1, f, ⟨first ++ [.func (.yield (w.heap.size + 1)) ⟨[]⟩ ⟨[]⟩] ++ capt⟩, W1, ?_, ?_, fun _ _ => trivial, ?_, fun hx => (by cases hx), ?_⟩
  · rw [← hW1]; exact run_enterLoop_outer _ _ _ _ _
  · simp only [resolve, Deferred.ofValue, hc.1.eval hg]
    simp [Act.eval]
  · simp [invoke, run_callFunc hok]
  · refine callsIn_FW (Calls.mono (Calls.of_SX hI1 hf hb hn hr (by rw [Nat.ble_eq] at hl ⊢; simp only [List.length_append, List.length_singleton]; exact hl) (h fn a.tmps w.heap.size (w.heap.size + 1) (LR fn a.tmps ps assign body w.heap.size) hc.1 (fun _ => rfl))) ?_)
    rintro e w' ⟨v, own', rfl, hI', i, hi, hQ⟩
    have hb2 := (hI'.get hi rfl).2
    exact ⟨none, _, run_endLoop hb2 (by simp), ⟨env, own'.set i (w.heap.size + 1, LR fn a.tmps ps assign body w.heap.size .exhausted), { target := .collected w.heap.size, args := #[] } :: D⟩, ⟨hc.1, by simp [hc.2.1], hI'.putObj hi rfl⟩, hQ⟩

/-- What is asked at a round's end: it ends behind its last statement. -/
def roundQ (C : Cx) (ops : Array Oper) (rest : List Oper) (Q : Post) (env : Env) (D : List Deferred) (d : Nat) (ob : LoopState → Obj) (l i : Nat) : Post
  | .normal, s => s.own[i]? = some (l, ob .busy) ∧ SXL C ops rest Q ⟨(d, .bool (decide True)) :: env, s.own.set i (l, ob .ready), D⟩
  | _, _ => False
def assignQ (nx : St → Prop) (ob : LoopState → Obj) (l i : Nat) : Post
  | .normal, s => s.own[i]? = some (l, ob .ready) ∧ nx ⟨s.env, s.own.set i (l, ob .busy), s.D⟩
  | _, _ => False
/-- yield's arguments in the loop's parameters. -/
def zipE : List Nat → List Value → Env → Env
  | t :: ts, v :: vs, e => zipE ts vs ((t, v) :: e)
  | _, _, e => e
theorem agree_zip : ∀ {ts : List Nat} {vs : List Value} {n : Nat} {e : Env} {T : Array Value}, (ts.all fun t => Nat.blt t n) = true → Held n e T → Held n (zipE ts vs e) ((ts.zip vs).foldl (fun tmps (p : Nat × Value) => tmps.setIfInBounds p.1 p.2) T)
  | [], _, _, _, _, _, h => h
  | _ :: _, [], _, _, _, _, h => h
  | t :: ts, v :: vs, n, e, T, hb, h => by
    simp only [List.all_cons, Bool.and_eq_true] at hb
    simp only [zipE, List.zip_cons_cons, List.foldl_cons]
    refine agree_zip hb.2 ⟨by simp [h.1], fun t' u hu => ?_⟩
    have := (Agree.put (a := { tmps := T, defers := [] }) (n := n) (env := e) ⟨h.1, h.2⟩ hb.1 v).2 t' u hu
    simpa [Act.put] using this
/-- A call of yield: a round, in place. -/
theorem SXL.yield {xs : List Operand} {ats : Array TypeId} {vs : List Value} {l r m : Nat} {fn : FuncId} {T : Array Value} {ps : List Nat} {assign body : Code} {envT : Env}
    {ob : LoopState → Obj} (hT : Held m envT T) (hob : ∀ st, ob st = LR fn T ⟨ps⟩ assign body r st) (i : Nat) (hy : ev env y = some (.func (.yield l) ⟨[]⟩ ⟨[]⟩)) (hx : evl env xs = some vs) (hi : own[i]? = some (l, ob .ready)) (hlen : Nat.beq vs.length ps.length = true) (hps : (ps.all fun t => Nat.blt t m) = true)
    (h : SX ⟨C.P, some l, m, C.w0, false⟩ assign (assignQ (fun s => SX ⟨C.P, some l, m, C.w0, false⟩ body (roundQ C ops rest Q env D d ob l i) s) ob l i) ⟨zipE ps vs envT, own, []⟩)
    (hd : Nat.blt d C.n = true := by rfl) (hw : Wanted ops gd env = some true := by rfl) (hdr : C.dr = false := by rfl) :
    SXL C ops ({ dst := some d, op := .call { callee := .value y, args := ⟨xs⟩, argTypes := ats }, type := ty, pos, after := aft, guard := gd } :: rest) Q ⟨env, own, D⟩ := by
  refine SXL.ofn hdr ?_
  intro a w hc
  have hw' : Region.wanted ({ dst := some d, op := .call { callee := .value y, args := ⟨xs⟩, argTypes := ats }, type := ty, pos, after := aft, guard := gd } : Oper) (yielded ops a.tmps) = true := hc.1.wanted hw
  simp only [wpListIn, hw', if_true]
  refine ⟨about_true rfl, ?_⟩
  obtain rfl : ob = LR fn T ⟨ps⟩ assign body r := funext hob
  have hlr := (hc.2.2.get hi rfl).2
  have h1 := evl_map hc.1 hx
  have hyr := run_yield (P := C.P) (args := ⟨vs⟩) hlr (by simpa using Nat.eq_of_beq_eq_true hlen)
  have hrun : (execOp a.eval { dst := some d, op := .call { callee := .value y, args := ⟨xs⟩, argTypes := ats }, type := ty, pos, after := aft, guard := gd }).run C.P w = .ok (.round l fn ((ps.zip vs).foldl (fun tmps (p : Nat × Value) => tmps.setIfInBounds p.1 p.2) T) assign body) w := by
    simp only [execOp, resolve, Deferred.ofValue, hc.1.eval hy]
    simp only [List.map_toArray, h1, invoke]
    simp [hyr]
  rw [Oper.semAt_eq _ _ _ (fun _ e => by cases e), hrun]
  refine ⟨fun hx => (by cases hx), ?_⟩
  refine roundIn_of_wpIn trivial (wpIn_mono (h { tmps := _, defers := [] } w ⟨agree_zip hps hT, rfl, hc.2.2⟩) ?_)
  rintro e a1 w1 ⟨s1, hc1, hq1⟩
  cases e <;> first | exact hq1.elim | skip
  obtain ⟨hi1, hq1⟩ := hq1
  have hl1 := (hc1.2.2.get hi1 rfl).2
  refine ⟨_, run_beginRound hl1 rfl, wpIn_mono (hq1 a1 _ ⟨hc1.1, hc1.2.1, hc1.2.2.putObj hi1 rfl⟩) ?_⟩
  rintro e a2 w2 ⟨s2, hc2, hq2⟩
  cases e <;> first | exact hq2.elim | skip
  obtain ⟨hi2, hq2⟩ := hq2
  have hl2 := (hc2.2.2.get hi2 rfl).2
  refine ⟨_, _, run_endRound none hl2, ?_⟩
  exact hq2.ton hdr _ _ ⟨hc.1.put hd _, by rw [put_defers]; exact hc.2.1, hc2.2.2.putObj hi2 rfl⟩
end
theorem retQ.zeroN {C : Cx} {env : Env} {own : Own} {R : Value → Own → Prop} (hR : R (.tuple ⟨[]⟩) own) : retQ C [] R .normal ⟨env, own, []⟩ := ⟨own, .nil _, [], trivial, own, fun _ _ h => h, hR⟩
end Go.X
