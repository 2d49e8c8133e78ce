/- The calculus' rules: control, and the operations that touch no memory. Nothing of the program stands here. -/
import Derived.Test.YtknflipongbngaaDoorXCore
namespace Go.X
open Go Go.RowKit

/-! ### knowing less -/
def EnvSub (e e' : Env) : Prop := ∀ t v, get e t = some v → get e' t = some v
theorem EnvSub.refl (e : Env) : EnvSub e e := fun _ _ h => h
theorem EnvSub.trans {a b c : Env} (h : EnvSub a b) (k : EnvSub b c) : EnvSub a c := fun t v x => k t v (h t v x)
theorem EnvSub.skip {e e' : Env} {t : Nat} {v : Value} (h0 : get e t = none) (h : EnvSub e e') : EnvSub e ((t, v) :: e') := by
  intro t' u hu
  simp only [get]
  by_cases ht : t = t'
  · subst ht; rw [h0] at hu; cases hu
  · rw [show Nat.beq t t' = false from by rw [← Bool.not_eq_true]; intro hh; exact ht (Nat.eq_of_beq_eq_true hh)]
    exact h t' u hu
def EnvLe : Env → Env → Prop
  | [], _ => True
  | (t, v) :: r, e' => get e' t = some v ∧ EnvLe r e'
theorem EnvLe.sub {e e' : Env} (h : EnvLe e e') : EnvSub e e' := by
  induction e with
  | nil => intro t v hv; simp [get] at hv
  | cons p r ih =>
    obtain ⟨t, v⟩ := p
    intro t' u hu
    simp only [get] at hu
    by_cases ht : t = t'
    · subst ht
      simp at hu
      subst hu
      exact h.1
    · rw [show Nat.beq t t' = false from by rw [← Bool.not_eq_true]; intro hh; exact ht (Nat.eq_of_beq_eq_true hh)] at hu
      exact ih h.2 t' u hu
theorem Agree.sub {n : Nat} {e e' : Env} {a : Act} (h : Agree n e' a) (hs : EnvSub e e') : Agree n e a := ⟨h.1, fun t v ht => h.2 t v (hs t v ht)⟩

structure Le (s s' : St) : Prop where
  env : EnvSub s.env s'.env
  own : Sel s.own s'.own
  D : s.D = s'.D
theorem Le.refl (s : St) : Le s s := ⟨EnvSub.refl _, Sel.refl _, rfl⟩
theorem Conc.le {n : Nat} {w0 : World} {s s' : St} {a : Act} {w : World} (h : Conc n w0 s' a w) (hs : Le s s') : Conc n w0 s a w :=
  ⟨h.1.sub hs.env, by rw [h.2.1, hs.D], hs.own _ _ h.2.2⟩
theorem Le.mk' {e e' : Env} {o o' : Own} {D : List Deferred} (he : EnvLe e e') (ho : o.Sublist o') : Le ⟨e, o, D⟩ ⟨e', o', D⟩ := ⟨he.sub, .sub ho, rfl⟩

section
variable {C : Cx} {Q : Post} {s : St}

theorem SX.le {c : Code} {s' : St} (hs : Le s' s) (h : SX C c Q s') : SX C c Q s := fun a w hc => h a w (hc.le hs)
theorem SX.perm {c : Code} {env : Env} {own own' : Own} {D : List Deferred} (hp : own'.Perm own) (h : SX C c Q ⟨env, own', D⟩) : SX C c Q ⟨env, own, D⟩ :=
  fun a w hc => h a w ⟨hc.1, hc.2.1, hc.2.2.perm hp⟩
theorem SXL.le {ops : Array Oper} {l : List Oper} {s' : St} (hs : Le s' s) (h : SXL C ops l Q s') : SXL C ops l Q s :=
  SXL.ofb (fun hd a w hc => h.ton hd a w (hc.le hs)) fun hd a ha hD =>
    QList.mono (fun w hw => hs.own _ _ hw) (fun _ ⟨s1, h1, h2, h3, h4⟩ => ⟨s1, h1, h2, fun w hw => h3 w (hs.own _ _ hw), h4⟩) (h.toq hd a (ha.sub hs.env) (by rw [hD, hs.D]))
theorem SX.mono {c : Code} {Q' : Post} (h : SX C c Q s) (hq : ∀ e s, Q e s → Q' e s) : SX C c Q' s :=
  fun a w hc => wpIn_mono (h a w hc) fun _ _ _ ⟨s', hc', q⟩ => ⟨s', hc', hq _ _ q⟩

/-! ### control -/
def thenQ (next : St → Prop) (Q : Post) : Post
  | .normal, s => next s
  | e, s => Q e s
def blockQ (id : Nat) (Q : Post) : Post
  | .exit id', s => if id' = id then Q .normal s else Q (.exit id') s
  | e, s => Q e s
theorem thenQ.normal {next : St → Prop} (h : next s) : thenQ next Q .normal s := h
theorem thenQ.ret {next : St → Prop} (h : Q .ret s) : thenQ next Q .ret s := h
theorem thenQ.exit {next : St → Prop} {id : Nat} (h : Q (.exit id) s) : thenQ next Q (.exit id) s := h
theorem blockQ.normal {id : Nat} (h : Q .normal s) : blockQ id Q .normal s := h
theorem blockQ.ret {id : Nat} (h : Q .ret s) : blockQ id Q .ret s := h
theorem blockQ.exit {id : Nat} (h : Q .normal s) : blockQ id Q (.exit id) s := by show if _ then _ else _; rw [if_pos rfl]; exact h
theorem blockQ.pass {id id' : Nat} (hne : Nat.beq id' id = false) (h : Q (.exit id') s) : blockQ id Q (.exit id') s := by
  show if _ then _ else _
  rw [if_neg (by intro e; subst e; simp at hne)]; exact h

theorem SX.seq {x y : Code} (h : SX C x (thenQ (SX C y Q) Q) s) : SX C (.seq x y) Q s := by
  intro a w hc
  refine wpIn_seq (wpIn_mono (h a w hc) ?_)
  rintro e a' w' ⟨s', hc', hq⟩
  cases e <;> first | exact hq a' w' hc' | exact ⟨s', hc', hq⟩
/-- The ways through 'x' meet again at a state that is named. -/
theorem SX.cut {x y : Code} {α : Type} (S : α → St) (F : α → Prop) (h : SX C x (thenQ (fun s' => ∃ z, Le (S z) s' ∧ F z) Q) s)
    (h' : ∀ z, F z → SX C y Q (S z)) : SX C (.seq x y) Q s :=
  SX.seq (h.mono fun e s' hq => by
    cases e
    case normal => obtain ⟨z, hle, hF⟩ := hq; exact SX.le hle (h' z hF)
    all_goals exact hq)
theorem SX.skip (h : Q .normal s) : SX C .skip Q s := fun _ _ hc => wpIn_skip ⟨s, hc, h⟩
theorem SX.ret (h : Q .ret s) : SX C .ret Q s := fun _ _ hc => wpIn_ret ⟨s, hc, h⟩
theorem SX.exit {id : Nat} (h : Q (.exit id) s) : SX C (.exit id) Q s := fun _ _ hc => wpIn_exit ⟨s, hc, h⟩
theorem SX.block {id : Nat} {c : Code} (h : SX C c (blockQ id Q) s) : SX C (.block id c) Q s := by
  intro a w hc
  refine wpIn_block (wpIn_mono (h a w hc) ?_)
  rintro e a' w' ⟨s', hc', hq⟩
  cases e with
  | exit id' =>
    simp only [Exit.inBlock]
    simp only [blockQ] at hq
    split <;> rename_i hid
    · rw [if_pos hid] at hq; exact ⟨s', hc', hq⟩
    · rw [if_neg hid] at hq; exact ⟨s', hc', hq⟩
  | _ => exact ⟨s', hc', hq⟩
theorem SX.cond {c : Operand} {x y : Code} {b : Bool} (hb : ev s.env c = some (.bool b)) (ht : b = true → SX C x Q s) (hf : b = false → SX C y Q s) :
    SX C (.cond c x y) Q s := by
  intro a w hc
  refine wpIn_cond (hc.1.eval hb) ?_
  cases b
  · exact hf rfl a w hc
  · exact ht rfl a w hc
theorem SX.condP {c : Operand} {x y : Code} {p : Prop} [Decidable p] (hb : ev s.env c = some (.bool (decide p))) (ht : p → SX C x Q s) (hf : ¬p → SX C y Q s) :
    SX C (.cond c x y) Q s :=
  SX.cond hb (fun h => ht (of_decide_eq_true h)) (fun h => hf (of_decide_eq_false h))
theorem SX.loop {c : Code} {α : Type} (S : α → St) (F : α → Prop) (μ : α → Nat) (x0 : α) (hF0 : F x0) (hle : Le (S x0) s)
    (round : ∀ x, F x → SX C c (thenQ (fun s' => ∃ x', Le (S x') s' ∧ F x' ∧ μ x' < μ x) Q) (S x)) : SX C (.loop c) Q s := by
  intro a w hc b k cs hro hb hr
  have key : ∀ j x a w, μ x = j → F x → Conc C.n C.w0 (S x) a w →
      ∃ e a' w', lift C Q e a' w' ∧ ArrivesIn (Machine.fenced C.P (FW C.rd)) C.P (lone (b.atR a (.code c :: .inLoop c :: k)) cs w) b k cs e a' w' := by
    intro j
    induction j using Nat.strongRecOn with
    | _ j ih =>
      intro x a w hn hF hc
      obtain ⟨e, a₁, w₁, ⟨s₁, hc₁, hq⟩, harr⟩ := round x hF a w hc b (.inLoop c :: k) cs hro hb hr
      cases e with
      | normal =>
        obtain ⟨x', hle', hF', hlt⟩ := hq
        obtain ⟨e₂, a₂, w₂, hq₂, harr₂⟩ := ih (μ x') (hn ▸ hlt) x' a₁ w₁ rfl hF' (hc₁.le hle')
        exact ⟨e₂, a₂, w₂, hq₂, .of_steps (StepsIn.trans harr (.one (fenced_calm hb hr rfl) stepR_inLoop)) harr₂⟩
      | exit id => exact ⟨_, a₁, w₁, ⟨s₁, hc₁, hq⟩, .pass (x := .inLoop c) rfl (fun _ _ => .inl (by simp)) harr⟩
      | goto l => exact ⟨_, a₁, w₁, ⟨s₁, hc₁, hq⟩, .pass (x := .inLoop c) rfl (fun _ _ => .inl (by simp)) harr⟩
      | ret => exact ⟨_, a₁, w₁, ⟨s₁, hc₁, hq⟩, .pass (x := .inLoop c) rfl (fun _ _ => .inl (by simp)) harr⟩
      | panic ch => exact ⟨_, a₁, w₁, ⟨s₁, hc₁, hq⟩, .pass (x := .inLoop c) rfl (fun _ _ => .inl (by simp)) harr⟩
      | outgrown => exact ⟨_, a₁, w₁, ⟨s₁, hc₁, hq⟩, .pass (x := .inLoop c) rfl (fun _ _ => .inl (by simp)) harr⟩
  obtain ⟨e, a', w', hq, harr⟩ := key _ x0 a w rfl hF0 (hc.le hle)
  exact ⟨e, a', w', hq, .of_steps (.one (fenced_calm hb hr rfl) stepR_loop) harr⟩

/-! ### regions -/
theorem SX.region {id : Nat} {l : List Oper} (h : SXL C l.toArray l Q s) (hd : C.dr = false := by rfl) : SX C (.region id l.toArray false) Q s := fun a w hc => wpIn_region_lit (h.ton hd a w hc)
theorem SXL.nil {ops : Array Oper} (h : Q .normal s) : SXL C ops [] Q s := SXL.ofb (fun _ _ _ hc => wpListIn_nil ⟨s, hc, h⟩) fun _ _ ha hD => ⟨s, ha, hD, fun _ h => h, h⟩
end

section
variable {C : Cx} {Q : Post} {env : Env} {own : Own} {D : List Deferred} {ops : Array Oper} {rest : List Oper}

theorem about_true {F : Fence} {rd : Option Nat} (hF : F = FW rd) {x : Option FuncId} : ∀ f, x = some f → F.fn f := by subst hF; exact fun _ _ => trivial

/-- An operation that hands back a value in some world of which enough is known. -/
theorem SXL.op {o : Oper} {s : St} (hw : Wanted ops o.guard s.env = some true) (hnd : ∀ c, o.op ≠ .defer c)
    (hv : ∀ a w, Conc C.n C.w0 s a w → ∃ v w', ((execOp a.eval o).run C.P w = .ok (.value v) w' ∨ ((execOp a.eval o).run C.P w = .ok .skip w' ∧ v = undef)) ∧
      ∃ s', (∀ a', Agree C.n s.env a' → a'.defers = s.D → Conc C.n C.w0 s' (a'.put o.dst v) w') ∧ SXL C ops rest Q s') (hdr : C.dr = false := by rfl) : SXL C ops (o :: rest) Q s := by
  refine SXL.ofn hdr ?_
  intro a w hc
  have hw' := hc.1.wanted hw
  simp only [wpListIn, hw', if_true]
  obtain ⟨v, w', hrun, s', hs', hr⟩ := hv a w hc
  refine ⟨about_true rfl, ?_⟩
  rw [Oper.semAt_eq _ _ _ hnd]
  rcases hrun with hrun | ⟨hrun, rfl⟩
  · rw [hrun]; exact hr.ton hdr _ _ (hs' a hc.1 hc.2.1)
  · rw [hrun]; exact hr.ton hdr _ _ (hs' a hc.1 hc.2.1)

/-- A value, in the world that it got. -/
theorem SXL.val {o : Oper} {d : Nat} {v : Value} (ho : o.dst = some d) (hd : Nat.blt d C.n = true) (hw : Wanted ops o.guard env = some true) (hnd : ∀ c, o.op ≠ .defer c)
    (hv : ∀ a w, Agree C.n env a → Inv C.w0 own w → (execOp a.eval o).run C.P w = .ok (.value v) w)
    (h : SXL C ops rest Q ⟨(d, v) :: env, own, D⟩) : SXL C ops (o :: rest) Q ⟨env, own, D⟩ :=
  SXL.ofb (fun hdr => SXL.ton (SXL.op hw hnd (fun a w hc => ⟨v, w, .inl (hv a w hc.1 hc.2.2), ⟨(d, v) :: env, own, D⟩,
    fun a' ha' hD' => by rw [ho]; exact ⟨ha'.put hd v, by rw [put_defers]; exact hD', hc.2.2⟩, h⟩) hdr) hdr) fun hdr a ha hD => by
    refine ⟨v, fun w hS K hK => ?_, by rw [ho]; exact h.toq hdr _ (ha.put hd v) (by rw [put_defers]; exact hD)⟩
    rw [if_pos (ha.wanted hw)]
    refine ⟨about_true rfl, ?_⟩
    rw [Oper.semAt_eq _ _ _ hnd, hv a w ha hS]
    exact hK w (Below.refl _ _)

/-- An operation that is passed over. -/
theorem SXL.passG {o : Oper} {s' : St} (hw : Wanted ops o.guard env = some false) (hs : ∀ a, Agree C.n env a → a.defers = D → Agree C.n s'.env (a.put o.dst undef) ∧ s'.D = D ∧ s'.own = own)
    (h : SXL C ops rest Q s') : SXL C ops (o :: rest) Q ⟨env, own, D⟩ := by
  refine SXL.ofb (fun hdr a w hc => ?_) fun hdr a ha hD => ?_
  · obtain ⟨h1, h2, h3⟩ := hs a hc.1 hc.2.1
    simp only [wpListIn, hc.1.wanted hw, if_false, Bool.false_eq_true]
    exact ⟨about_true rfl, h.ton hdr _ _ ⟨h1, by rw [put_defers, h2]; exact hc.2.1, by rw [h3]; exact hc.2.2⟩⟩
  · obtain ⟨h1, h2, h3⟩ := hs a ha hD
    refine ⟨undef, fun w hS K hK => ?_, ?_⟩
    · rw [if_neg (by rw [ha.wanted hw]; exact Bool.false_ne_true)]
      exact ⟨about_true rfl, hK w (Below.refl _ _)⟩
    · have := h.toq hdr _ h1 (by rw [put_defers, h2]; exact hD)
      rw [h3] at this
      exact this
theorem SXL.pass {o : Oper} {d : Nat} (ho : o.dst = some d) (hd : Nat.blt d C.n = true) (hw : Wanted ops o.guard env = some false)
    (h : SXL C ops rest Q ⟨(d, undef) :: env, own, D⟩) : SXL C ops (o :: rest) Q ⟨env, own, D⟩ :=
  SXL.passG hw (fun a ha _ => ⟨by rw [ho]; exact ha.put hd _, rfl, rfl⟩) h
theorem SXL.pass0 {o : Oper} (ho : o.dst = none) (hw : Wanted ops o.guard env = some false)
    (h : SXL C ops rest Q ⟨env, own, D⟩) : SXL C ops (o :: rest) Q ⟨env, own, D⟩ :=
  SXL.passG hw (fun a ha _ => ⟨by rw [ho]; exact ha, rfl, rfl⟩) h

/-! ### operations that touch no memory -/
variable {d : Nat} {ty : TypeId} {pos : String} {aft : Array Edge} {g : Option (Nat × Bool)} {x y : Operand} {v : Value} {T T' : TypeId}

theorem SXL.move (hx : ev env x = some v) (h : SXL C ops rest Q ⟨(d, v) :: env, own, D⟩)
    (hd : Nat.blt d C.n = true := by rfl) (hw : Wanted ops g env = some true := by rfl) :
    SXL C ops ({ dst := some d, op := .move x, type := ty, pos, after := aft, guard := g } :: rest) Q ⟨env, own, D⟩ :=
  SXL.val rfl hd hw (fun _ e => by cases e) (fun a w ha _ => by simp only [execOp, ha.eval hx]; rfl) h
theorem SXL.assign (hx : ev env x = some v) (h : SXL C ops rest Q ⟨(d, v) :: env, own, D⟩)
    (hd : Nat.blt d C.n = true := by rfl) (hw : Wanted ops g env = some true := by rfl) :
    SXL C ops ({ dst := some d, op := .assign x, type := ty, pos, after := aft, guard := g } :: rest) Q ⟨env, own, D⟩ :=
  SXL.val rfl hd hw (fun _ e => by cases e) (fun a w ha _ => by simp only [execOp, ha.eval hx]; rfl) h

theorem run_val {P : Program} {m : Sem Value} {r : Value} {w : World} (h : m.run P w = .ok r w) : (do pure (Next.value (← m)) : Sem Next).run P w = .ok (.value r) w := by
  simp [h, Result.andThen]
theorem SXL.bin {op : BinOp} {u v : Value} (hx : ev env x = some u) (hy : ev env y = some v) {r : Value}
    (hr : ∀ w, (do eqGuard op T x y u v; binOp op T u v : Sem Value).run C.P w = .ok r w)
    (hd : Nat.blt d C.n = true) (hw : Wanted ops g env = some true) (h : SXL C ops rest Q ⟨(d, r) :: env, own, D⟩) :
    SXL C ops ({ dst := some d, op := .binOp op T x y T', type := ty, pos, after := aft, guard := g } :: rest) Q ⟨env, own, D⟩ :=
  SXL.val rfl hd hw (fun _ e => by cases e) (fun a w ha _ => by
    simp only [execOp, ha.eval hx, ha.eval hy]
    exact run_val (hr w)) h

section ints
variable {A B : Int}
theorem SXL.add (hx : ev env x = some (.int .i64 A)) (hy : ev env y = some (.int .i64 B)) (hb : -9223372036854775808 ≤ A + B ∧ A + B ≤ 9223372036854775807)
    (h : SXL C ops rest Q ⟨(d, .int .i64 (A + B)) :: env, own, D⟩) (hd : Nat.blt d C.n = true := by rfl) (hw : Wanted ops g env = some true := by rfl) :
    SXL C ops ({ dst := some d, op := .binOp .add T x y T', type := ty, pos, after := aft, guard := g } :: rest) Q ⟨env, own, D⟩ :=
  SXL.bin hx hy (r := .int .i64 (A + B)) (fun w => by show Result.ok (Value.int .i64 (IntKind.i64.wrap (A + B))) w = _; rw [IntWalk.i64_in _ hb]) hd hw h
theorem SXL.sub (hx : ev env x = some (.int .i64 A)) (hy : ev env y = some (.int .i64 B)) (hb : -9223372036854775808 ≤ A - B ∧ A - B ≤ 9223372036854775807)
    (h : SXL C ops rest Q ⟨(d, .int .i64 (A - B)) :: env, own, D⟩) (hd : Nat.blt d C.n = true := by rfl) (hw : Wanted ops g env = some true := by rfl) :
    SXL C ops ({ dst := some d, op := .binOp .sub T x y T', type := ty, pos, after := aft, guard := g } :: rest) Q ⟨env, own, D⟩ :=
  SXL.bin hx hy (r := .int .i64 (A - B)) (fun w => by show Result.ok (Value.int .i64 (IntKind.i64.wrap (A - B))) w = _; rw [IntWalk.i64_in _ hb]) hd hw h
theorem SXL.mul (hx : ev env x = some (.int .i64 A)) (hy : ev env y = some (.int .i64 B)) (hb : -9223372036854775808 ≤ A * B ∧ A * B ≤ 9223372036854775807)
    (h : SXL C ops rest Q ⟨(d, .int .i64 (A * B)) :: env, own, D⟩) (hd : Nat.blt d C.n = true := by rfl) (hw : Wanted ops g env = some true := by rfl) :
    SXL C ops ({ dst := some d, op := .binOp .mul T x y T', type := ty, pos, after := aft, guard := g } :: rest) Q ⟨env, own, D⟩ :=
  SXL.bin hx hy (r := .int .i64 (A * B)) (fun w => by show Result.ok (Value.int .i64 (IntKind.i64.wrap (A * B))) w = _; rw [IntWalk.i64_in _ hb]) hd hw h
theorem SXL.quo (hx : ev env x = some (.int .i64 A)) (hy : ev env y = some (.int .i64 B)) (hb : 0 ≤ A ∧ A ≤ 9223372036854775807 ∧ 1 ≤ B)
    (h : SXL C ops rest Q ⟨(d, .int .i64 (A / B)) :: env, own, D⟩) (hd : Nat.blt d C.n = true := by rfl) (hw : Wanted ops g env = some true := by rfl) :
    SXL C ops ({ dst := some d, op := .binOp .quo T x y T', type := ty, pos, after := aft, guard := g } :: rest) Q ⟨env, own, D⟩ :=
  SXL.bin hx hy (r := .int .i64 (A / B)) (fun w => by
    show (Op.intDiv .quo .i64 A B).run C.P w = _
    unfold Op.intDiv
    rw [if_neg (by omega)]
    show Result.ok (Value.int .i64 (IntKind.i64.wrap (A.tdiv B))) w = _
    rw [IntWalk.i64_quo _ _ hb]) hd hw h
theorem SXL.rem (hx : ev env x = some (.int .i64 A)) (hy : ev env y = some (.int .i64 B)) (hb : 0 ≤ A ∧ 1 ≤ B)
    (h : SXL C ops rest Q ⟨(d, .int .i64 (A % B)) :: env, own, D⟩) (hd : Nat.blt d C.n = true := by rfl) (hw : Wanted ops g env = some true := by rfl) :
    SXL C ops ({ dst := some d, op := .binOp .rem T x y T', type := ty, pos, after := aft, guard := g } :: rest) Q ⟨env, own, D⟩ :=
  SXL.bin hx hy (r := .int .i64 (A % B)) (fun w => by
    show (Op.intDiv .rem .i64 A B).run C.P w = _
    unfold Op.intDiv
    rw [if_neg (by omega)]
    show Result.ok (Value.int .i64 (A.tmod B)) w = _
    rw [IntWalk.rem_in _ _ hb.1]) hd hw h
variable {k : IntKind}
theorem SXL.lss (hx : ev env x = some (.int k A)) (hy : ev env y = some (.int k B))
    (h : SXL C ops rest Q ⟨(d, .bool (decide (A < B))) :: env, own, D⟩) (hd : Nat.blt d C.n = true := by rfl) (hw : Wanted ops g env = some true := by rfl) :
    SXL C ops ({ dst := some d, op := .binOp .lss T x y T', type := ty, pos, after := aft, guard := g } :: rest) Q ⟨env, own, D⟩ :=
  SXL.bin hx hy (r := .bool (decide (A < B))) (fun w => by simp [eqGuard, binOp, Op.intCmp]) hd hw h
theorem SXL.leq (hx : ev env x = some (.int k A)) (hy : ev env y = some (.int k B))
    (h : SXL C ops rest Q ⟨(d, .bool (decide (A ≤ B))) :: env, own, D⟩) (hd : Nat.blt d C.n = true := by rfl) (hw : Wanted ops g env = some true := by rfl) :
    SXL C ops ({ dst := some d, op := .binOp .leq T x y T', type := ty, pos, after := aft, guard := g } :: rest) Q ⟨env, own, D⟩ :=
  SXL.bin hx hy (r := .bool (decide (A ≤ B))) (fun w => by simp [eqGuard, binOp, Op.intCmp]) hd hw h
theorem SXL.gtr (hx : ev env x = some (.int k A)) (hy : ev env y = some (.int k B))
    (h : SXL C ops rest Q ⟨(d, .bool (decide (B < A))) :: env, own, D⟩) (hd : Nat.blt d C.n = true := by rfl) (hw : Wanted ops g env = some true := by rfl) :
    SXL C ops ({ dst := some d, op := .binOp .gtr T x y T', type := ty, pos, after := aft, guard := g } :: rest) Q ⟨env, own, D⟩ :=
  SXL.bin hx hy (r := .bool (decide (B < A))) (fun w => by simp [eqGuard, binOp, Op.intCmp]) hd hw h
theorem SXL.geq (hx : ev env x = some (.int k A)) (hy : ev env y = some (.int k B))
    (h : SXL C ops rest Q ⟨(d, .bool (decide (B ≤ A))) :: env, own, D⟩) (hd : Nat.blt d C.n = true := by rfl) (hw : Wanted ops g env = some true := by rfl) :
    SXL C ops ({ dst := some d, op := .binOp .geq T x y T', type := ty, pos, after := aft, guard := g } :: rest) Q ⟨env, own, D⟩ :=
  SXL.bin hx hy (r := .bool (decide (B ≤ A))) (fun w => by simp [eqGuard, binOp, Op.intCmp]) hd hw h
theorem int_beq (A B : Int) : (A == B) = decide (A = B) := by by_cases h : A = B <;> simp [h]
theorem int_bne (A B : Int) : (A != B) = decide (A ≠ B) := by by_cases h : A = B <;> simp [h]
theorem SXL.eqlI (hx : ev env x = some (.int k A)) (hy : ev env y = some (.int k B))
    (h : SXL C ops rest Q ⟨(d, .bool (decide (A = B))) :: env, own, D⟩) (hd : Nat.blt d C.n = true := by rfl) (hw : Wanted ops g env = some true := by rfl) :
    SXL C ops ({ dst := some d, op := .binOp .eql T x y T', type := ty, pos, after := aft, guard := g } :: rest) Q ⟨env, own, D⟩ :=
  SXL.bin hx hy (r := .bool (decide (A = B))) (fun w => by simp [eqGuard, binOp, Op.intCmp, int_beq]) hd hw h
theorem SXL.neqI (hx : ev env x = some (.int k A)) (hy : ev env y = some (.int k B))
    (h : SXL C ops rest Q ⟨(d, .bool (decide (A ≠ B))) :: env, own, D⟩) (hd : Nat.blt d C.n = true := by rfl) (hw : Wanted ops g env = some true := by rfl) :
    SXL C ops ({ dst := some d, op := .binOp .neq T x y T', type := ty, pos, after := aft, guard := g } :: rest) Q ⟨env, own, D⟩ :=
  SXL.bin hx hy (r := .bool (decide (A ≠ B))) (fun w => by simp [eqGuard, binOp, Op.intCmp, int_bne]) hd hw h
/-- '==' on values of any other type, by what its run is. -/
theorem SXL.eqlV {u v : Value} {p : Prop} [Decidable p] (hx : ev env x = some u) (hy : ev env y = some v) (hr : ∀ w, (do eqGuard .eql T x y u v; binOp .eql T u v : Sem Value).run C.P w = .ok (.bool (decide p)) w)
    (h : SXL C ops rest Q ⟨(d, .bool (decide p)) :: env, own, D⟩) (hd : Nat.blt d C.n = true := by rfl) (hw : Wanted ops g env = some true := by rfl) :
    SXL C ops ({ dst := some d, op := .binOp .eql T x y T', type := ty, pos, after := aft, guard := g } :: rest) Q ⟨env, own, D⟩ :=
  SXL.bin hx hy hr hd hw h
theorem SXL.neqV {u v : Value} {p : Prop} [Decidable p] (hx : ev env x = some u) (hy : ev env y = some v) (hr : ∀ w, (do eqGuard .neq T x y u v; binOp .neq T u v : Sem Value).run C.P w = .ok (.bool (decide p)) w)
    (h : SXL C ops rest Q ⟨(d, .bool (decide p)) :: env, own, D⟩) (hd : Nat.blt d C.n = true := by rfl) (hw : Wanted ops g env = some true := by rfl) :
    SXL C ops ({ dst := some d, op := .binOp .neq T x y T', type := ty, pos, after := aft, guard := g } :: rest) Q ⟨env, own, D⟩ :=
  SXL.bin hx hy hr hd hw h
end ints

theorem SXL.not {p : Prop} [Decidable p] (hx : ev env x = some (.bool (decide p)))
    (h : SXL C ops rest Q ⟨(d, .bool (decide (¬p))) :: env, own, D⟩) (hd : Nat.blt d C.n = true := by rfl) (hw : Wanted ops g env = some true := by rfl) :
    SXL C ops ({ dst := some d, op := .unOp .not T x, type := ty, pos, after := aft, guard := g } :: rest) Q ⟨env, own, D⟩ :=
  SXL.val rfl hd hw (fun _ e => by cases e) (fun a w ha _ => by simp only [execOp, ha.eval hx]; exact run_val (by simp [Op.unary])) h
theorem SXL.neg {A : Int} (hx : ev env x = some (.int .i64 A)) (hb : -9223372036854775807 ≤ A ∧ A ≤ 9223372036854775807)
    (h : SXL C ops rest Q ⟨(d, .int .i64 (-A)) :: env, own, D⟩) (hd : Nat.blt d C.n = true := by rfl) (hw : Wanted ops g env = some true := by rfl) :
    SXL C ops ({ dst := some d, op := .unOp .neg T x, type := ty, pos, after := aft, guard := g } :: rest) Q ⟨env, own, D⟩ :=
  SXL.val rfl hd hw (fun _ e => by cases e) (fun a w ha _ => by
    simp only [execOp, ha.eval hx]
    exact run_val (r := .int .i64 (-A)) (by show Result.ok (Value.int .i64 (IntKind.i64.wrap (0 - A))) w = _; rw [IntWalk.i64_in _ (by omega), Int.zero_sub])) h

/-! ### '&&' and '||' : the guarded operations, and the pick behind them -/
theorem wpListIn_append {F : Fence} {n : Nat} {P : Program} {ops : Array Oper} {Q : Exit → Act → World → Prop} : ∀ (l l' : List Oper) (a : Act) (w : World),
    wpListIn F n P ops (Exit.then (fun a w => wpListIn F n P ops Q l' a w) Q) l a w → wpListIn F n P ops Q (l ++ l') a w
  | [], l', a, w, h => h
  | o :: l, l', a, w, h => by
    simp only [wpListIn, List.cons_append] at h ⊢
    split
    · rename_i hw
      rw [if_pos hw] at h
      refine ⟨h.1, ?_⟩
      have h2 := h.2
      generalize (o.semAt F.round a.eval).run P w = r at *
      cases r with
      | ok x w' =>
        cases x <;> simp only [Oper.uponIn] at h2 ⊢
        case value u => exact wpListIn_append l l' _ _ h2
        case skip => exact wpListIn_append l l' _ _ h2
        case defer d => exact wpListIn_append l l' _ _ h2
        case enter f args =>
          refine ⟨h2.1, CallsIn.mono h2.2 fun e w'' he => ?_⟩
          cases e with
          | returned u => exact wpListIn_append l l' _ _ he
          | panicked c => exact he
          | outgrown => obtain ⟨a0, w0, hq⟩ := he; exact ⟨a0, w0, hq⟩
        case row row args => exact ⟨h2.1, RowsIn.mono h2.2 fun u w'' he => wpListIn_append l l' _ _ he⟩
        case round k f tmps assign body =>
          refine ⟨h2.1, RoundIn.mono h2.2 fun e w'' he => ?_⟩
          cases e with
          | returned u => exact wpListIn_append l l' _ _ he
          | panicked c => exact he
          | outgrown => obtain ⟨a0, w0, hq⟩ := he; exact ⟨a0, w0, hq⟩
      | halt x w' =>
        cases x <;> simp only [Oper.uponIn] at h2 ⊢
        case panic u => exact h2
    · rename_i hw
      rw [if_neg hw] at h
      exact ⟨h.1, wpListIn_append l l' _ _ h.2⟩

/-- What is asked behind the guarded operations. -/
def segQ (env : Env) (own : Own) (D : List Deferred) (what : Env → Prop) : Post
  | .normal, s => EnvSub env s.env ∧ s.own = own ∧ s.D = D ∧ what s.env
  | _, _ => False

theorem SXL.seg {l : List Oper} {s : St} (k : Nat) {Q' : Post} (h : SXL C ops (l.take k) Q' s) (hq : ∀ e s', Q' e s' → match e with | .normal => SXL C ops (l.drop k) Q s' | e => Q e s') : SXL C ops l Q s := by
  refine SXL.ofb (fun hdr a w hc => ?_) fun hdr a ha hD => ?_
  case refine_2 =>
    rw [← List.take_append_drop k l]
    refine QList.append (QList.mono (fun _ h => h) ?_ (h.toq hdr a ha hD))
    rintro a' ⟨s', h1, h2, h3, h4⟩
    exact QList.mono h3 (fun a2 ⟨s2, g1, g2, g3, g4⟩ => ⟨s2, g1, g2, fun w hw => g3 w (h3 w hw), g4⟩) ((hq .normal s' h4).toq hdr a' h1 h2)
  rw [← List.take_append_drop k l]
  refine wpListIn_append _ _ _ _ ?_
  have h1 := h.ton hdr a w hc
  have mono : ∀ (l : List Oper) (Q1 Q2 : Exit → Act → World → Prop), (∀ e a w, Q1 e a w → Q2 e a w) → ∀ a w, wpListIn (FW C.rd) 0 C.P ops Q1 l a w → wpListIn (FW C.rd) 0 C.P ops Q2 l a w := by
    intro l Q1 Q2 hQ
    induction l with
    | nil => exact fun a w h => hQ _ _ _ h
    | cons o l ih =>
      intro a w h
      simp only [wpListIn] at h ⊢
      split
      · rename_i hw
        rw [if_pos hw] at h
        refine ⟨h.1, ?_⟩
        have h2 := h.2
        generalize (o.semAt (FW C.rd).round a.eval).run C.P w = r at *
        cases r with
        | ok x w' =>
          cases x <;> simp only [Oper.uponIn] at h2 ⊢
          case value u => exact ih _ _ h2
          case skip => exact ih _ _ h2
          case defer d => exact ih _ _ h2
          case enter f args =>
            refine ⟨h2.1, CallsIn.mono h2.2 fun e w'' he => ?_⟩
            cases e with
            | returned u => exact ih _ _ he
            | panicked c => exact hQ _ _ _ he
            | outgrown => obtain ⟨a0, w0, hq⟩ := he; exact ⟨a0, w0, hQ _ _ _ hq⟩
          case row row args => exact ⟨h2.1, RowsIn.mono h2.2 fun u w'' he => ih _ _ he⟩
          case round k f tmps assign body =>
            refine ⟨h2.1, RoundIn.mono h2.2 fun e w'' he => ?_⟩
            cases e with
            | returned u => exact ih _ _ he
            | panicked c => exact hQ _ _ _ he
            | outgrown => obtain ⟨a0, w0, hq⟩ := he; exact ⟨a0, w0, hQ _ _ _ hq⟩
        | halt x w' =>
          cases x <;> simp only [Oper.uponIn] at h2 ⊢
          case panic u => exact hQ _ _ _ h2
      · rename_i hw
        rw [if_neg hw] at h
        exact ⟨h.1, ih _ _ h.2⟩
  refine mono _ _ _ ?_ a w h1
  rintro e a' w' ⟨s', hc', hq'⟩
  have := hq e s' hq'
  cases e <;> first | exact SXL.ton this hdr a' w' hc' | exact ⟨s', hc', this⟩

theorem run_pick {P : Program} {a : Act} {dst : Option Tmp} {c x y : Operand} {b : Bool} {ty : TypeId} {pos : String} {aft : Array Edge} {g : Option (Nat × Bool)} {r : Value} (w : World) (hc : a.eval c = .bool b) (hr : (if b then a.eval x else a.eval y) = r) :
    (execOp a.eval { dst, op := .pick c x y, type := ty, pos, after := aft, guard := g }).run P w = .ok (.value r) w := by
  subst hr
  cases b <;> simp [execOp, hc, asBool]
theorem EnvSub.wanted {e e' : Env} (hs : EnvSub e e') (hg : Wanted ops g e = some true) : Wanted ops g e' = some true := by
  unfold Wanted at hg ⊢
  split
  · rfl
  · rename_i j want
    simp only at hg
    split at hg
    · rename_i t ht'
      split at hg
      · rename_i b hb
        rw [hs _ _ hb]; exact hg
      · cases hg
      · cases hg
    · cases hg
theorem EnvSub.cons {e e' : Env} (hs : EnvSub e e') (d : Nat) (v : Value) : EnvSub ((d, v) :: e) ((d, v) :: e') := by
  intro t u ht
  simp only [get] at ht ⊢
  cases hdt : Nat.beq d t <;> rw [hdt] at ht
  · exact hs t u ht
  · exact ht
/-- Behind the guarded operations: the pick. -/
theorem SXL.pickAt {env' : Env} {c a b : Operand} {k : Bool} {r : Value} (hs : EnvSub env env') (hc : ev env' c = some (.bool k)) (hr : ev env' (if k then a else b) = some r)
    (h : SXL C ops rest Q ⟨(d, r) :: env, own, D⟩) (hd : Nat.blt d C.n = true) (hg : Wanted ops g env = some true) :
    SXL C ops ({ dst := some d, op := .pick c a b, type := ty, pos, after := aft, guard := g } :: rest) Q ⟨env', own, D⟩ :=
  SXL.val rfl hd (hs.wanted hg) (fun _ e => by cases e) (fun ac w ha _ => run_pick w (ha.eval hc) (by cases k <;> exact ha.eval hr))
    (SXL.le (s' := ⟨(d, r) :: env, own, D⟩) ⟨hs.cons d r, Sel.refl _, rfl⟩ h)

/-- 'p && q': k guarded operations, then the pick. -/
theorem SXL.andG {l : List Oper} (k : Nat) {tg : Nat} {tq : Operand} {p q : Prop} {ip : Decidable p} {iq : Decidable q}
    (hl : l.drop k = { dst := some d, op := .pick (.tmp tg) tq (.const (.bool false)), type := ty, pos, after := aft, guard := g } :: rest)
    (ht : p → SXL C ops (l.take k) (segQ env own D fun e => get e tg = some (.bool true) ∧ ev e tq = some (.bool (decide q))) ⟨(tg, .bool true) :: env, own, D⟩)
    (hf : ¬p → SXL C ops (l.take k) (segQ env own D fun e => get e tg = some (.bool false)) ⟨(tg, .bool false) :: env, own, D⟩)
    (h : SXL C ops rest Q ⟨(d, .bool (decide (p ∧ q))) :: env, own, D⟩)
    (hd : Nat.blt d C.n = true) (hg : Wanted ops g env = some true) : SXL C ops l Q ⟨(tg, .bool (decide p)) :: env, own, D⟩ := by
  by_cases hp : p
  · rw [show decide p = true from by simp [hp]]
    refine SXL.seg k (ht hp) ?_
    rintro e ⟨env', own', D'⟩ hq
    cases e <;> first | exact hq.elim | skip
    obtain ⟨hs, ho, hD, h1, h2⟩ := hq
    simp only at hs ho hD h1 h2
    subst ho hD
    show SXL C ops (l.drop k) Q _
    rw [hl]
    exact SXL.pickAt (r := .bool (decide (p ∧ q))) hs h1 (by rw [show decide (p ∧ q) = decide q from by simp [hp]]; exact h2) h hd hg
  · rw [show decide p = false from by simp [hp]]
    refine SXL.seg k (hf hp) ?_
    rintro e ⟨env', own', D'⟩ hq
    cases e <;> first | exact hq.elim | skip
    obtain ⟨hs, ho, hD, h1⟩ := hq
    simp only at hs ho hD h1
    subst ho hD
    show SXL C ops (l.drop k) Q _
    rw [hl]
    exact SXL.pickAt (r := .bool (decide (p ∧ q))) hs h1 (by rw [show decide (p ∧ q) = false from by simp [hp]]; rfl) h hd hg
/-- 'p || q'. -/
theorem SXL.orG {l : List Oper} (k : Nat) {tg : Nat} {tq : Operand} {p q : Prop} {ip : Decidable p} {iq : Decidable q}
    (hl : l.drop k = { dst := some d, op := .pick (.tmp tg) (.const (.bool true)) tq, type := ty, pos, after := aft, guard := g } :: rest)
    (ht : p → SXL C ops (l.take k) (segQ env own D fun e => get e tg = some (.bool true)) ⟨(tg, .bool true) :: env, own, D⟩)
    (hf : ¬p → SXL C ops (l.take k) (segQ env own D fun e => get e tg = some (.bool false) ∧ ev e tq = some (.bool (decide q))) ⟨(tg, .bool false) :: env, own, D⟩)
    (h : SXL C ops rest Q ⟨(d, .bool (decide (p ∨ q))) :: env, own, D⟩)
    (hd : Nat.blt d C.n = true) (hg : Wanted ops g env = some true) : SXL C ops l Q ⟨(tg, .bool (decide p)) :: env, own, D⟩ := by
  by_cases hp : p
  · rw [show decide p = true from by simp [hp]]
    refine SXL.seg k (ht hp) ?_
    rintro e ⟨env', own', D'⟩ hq
    cases e <;> first | exact hq.elim | skip
    obtain ⟨hs, ho, hD, h1⟩ := hq
    simp only at hs ho hD h1
    subst ho hD
    show SXL C ops (l.drop k) Q _
    rw [hl]
    exact SXL.pickAt (r := .bool (decide (p ∨ q))) hs h1 (by rw [show decide (p ∨ q) = true from by simp [hp]]; rfl) h hd hg
  · rw [show decide p = false from by simp [hp]]
    refine SXL.seg k (hf hp) ?_
    rintro e ⟨env', own', D'⟩ hq
    cases e <;> first | exact hq.elim | skip
    obtain ⟨hs, ho, hD, h1, h2⟩ := hq
    simp only at hs ho hD h1 h2
    subst ho hD
    show SXL C ops (l.drop k) Q _
    rw [hl]
    exact SXL.pickAt (r := .bool (decide (p ∨ q))) hs h1 (by rw [show decide (p ∨ q) = decide q from by simp [hp]]; exact h2) h hd hg
end
end Go.X
