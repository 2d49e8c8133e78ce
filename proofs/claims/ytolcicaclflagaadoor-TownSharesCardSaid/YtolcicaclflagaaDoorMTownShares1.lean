/- Texts of the proof, merged: XCore, XOps, XMem, XCall, XLoop, XDraw, XData, XArg, XSl, XEq, XV, XRange, XW, P1, D1, P2, P3. -/
import Derived.WalkKit
import Derived.WalkLawsBesides
import Derived.RangeFuncNested
import Derived.OrdersIn
import Derived.RangeFuncRecord
import Derived.StillTail
import Derived.ChangeArms
import Derived.ChangeSame
import Derived.Carry
import Derived.OpenShut
import Derived.ChangeCalls
import Derived.Laws.AppendOwn
import Derived.Laws.StructEq
import Derived.Scope
/- The walk's own calculus: a frame is a list of known slots, a world is the first world with a list of blocks of the call's own. Nothing of the program stands here. -/
namespace Go.X
open Go Go.RowKit

/-- The fence that lets everything in, in a round or not. -/
def FW (rd : Option Nat) : Fence := { fn := fun _ => True, depth := none, alive := false, round := rd }

abbrev Env := List (Nat × Value)
def get : Env → Nat → Option Value
  | [], _ => none
  | (d, v) :: r, t => bif Nat.beq d t then some v else get r t
abbrev Own := List (Nat × Obj)

structure St where
  env : Env
  own : Own
  D : List Deferred

structure Cx where
  P : Program
  rd : Option Nat
  n : Nat
  w0 : World
  dr : Bool

def Agree (n : Nat) (env : Env) (a : Act) : Prop := a.tmps.size = n ∧ ∀ t v, get env t = some v → a.tmps[t]? = some v

/-- An entry without cells stands for no block. -/
def live : Nat × Obj → Bool
  | (_, .cells ⟨[]⟩ _ _) => false
  | _ => true
theorem live_of_get {b : Nat} {l : List Value} {E : TypeId} {fz : Nat × Nat} {j : Nat} {u : Value} (h : l[j]? = some u) : live (b, .cells ⟨l⟩ E fz) = true := by
  cases l with
  | nil => simp at h
  | cons x l => rfl
theorem live_of_len {b : Nat} {l : List Value} {E : TypeId} {fz : Nat × Nat} (h : 0 < l.length) : live (b, .cells ⟨l⟩ E fz) = true := by
  cases l with
  | nil => simp at h
  | cons x l => rfl
structure Inv (w0 : World) (own : Own) (w : World) : Prop where
  below : Below w0.heap.size w0 w
  mem : ∀ p ∈ own, live p = true → w0.heap.size ≤ p.1 ∧ w.heap[p.1]? = some p.2
  nodup : ((own.filter live).map (·.1)).Nodup

def Conc (n : Nat) (w0 : World) (s : St) (a : Act) (w : World) : Prop := Agree n s.env a ∧ a.defers = s.D ∧ Inv w0 s.own w

abbrev Post := Exit → St → Prop
def lift (C : Cx) (Q : Post) : Exit → Act → World → Prop := fun e a w => ∃ s, Conc C.n C.w0 s a w ∧ Q e s

def SX (C : Cx) (c : Code) (Q : Post) (s : St) : Prop := ∀ a w, Conc C.n C.w0 s a w → c.wpIn (FW C.rd) 0 C.P (lift C Q) a w
/-- An operation that yields the one value v in every world of S, and keeps all that there was. -/
def QOp (C : Cx) (ops : Array Oper) (S : World → Prop) (o : Oper) (a : Act) (v : Value) : Prop :=
  ∀ w, S w → ∀ K : Act → World → Prop, (∀ w', Below w.heap.size w w' → K (a.put o.dst v) w') →
    if Region.wanted o (yielded ops a.tmps) then o.wpIn (FW C.rd) 0 C.P a w K (fun _ _ _ => False) else (∀ f, o.about C.P w a.eval = some f → (FW C.rd).fn f) ∧ K (a.put o.dst undef) w
/-- Such operations, one behind the other. -/
def QList (C : Cx) (ops : Array Oper) (S : World → Prop) : List Oper → (Act → Prop) → Act → Prop
  | [], K, a => K a
  | o :: rest, K, a => ∃ v, QOp C ops S o a v ∧ QList C ops S rest K (a.put o.dst v)
def SXLn (C : Cx) (ops : Array Oper) (l : List Oper) (Q : Post) (s : St) : Prop :=
  ∀ a w, Conc C.n C.w0 s a w → wpListIn (FW C.rd) 0 C.P ops (lift C Q) l a w
def SXLq (C : Cx) (ops : Array Oper) (l : List Oper) (Q : Post) (s : St) : Prop :=
  ∀ a, Agree C.n s.env a → a.defers = s.D → QList C ops (Inv C.w0 s.own) l (fun a' => ∃ s', Agree C.n s'.env a' ∧ a'.defers = s'.D ∧ (∀ w, Inv C.w0 s.own w → Inv C.w0 s'.own w) ∧ Q .normal s') a
/-- A list of operations; where 'dr' is set each is asked to be quiet. -/
def SXL (C : Cx) (ops : Array Oper) (l : List Oper) (Q : Post) (s : St) : Prop :=
  match C.dr with
  | false => SXLn C ops l Q s
  | true => SXLq C ops l Q s
theorem SXL.ofn {C : Cx} {ops : Array Oper} {l : List Oper} {Q : Post} {s : St} (hd : C.dr = false) (h : SXLn C ops l Q s) : SXL C ops l Q s := by unfold SXL; rw [hd]; exact h
theorem SXL.ofq {C : Cx} {ops : Array Oper} {l : List Oper} {Q : Post} {s : St} (hd : C.dr = true) (h : SXLq C ops l Q s) : SXL C ops l Q s := by unfold SXL; rw [hd]; exact h
theorem SXL.ton {C : Cx} {ops : Array Oper} {l : List Oper} {Q : Post} {s : St} (h : SXL C ops l Q s) (hd : C.dr = false) : SXLn C ops l Q s := by unfold SXL at h; rw [hd] at h; exact h
theorem SXL.toq {C : Cx} {ops : Array Oper} {l : List Oper} {Q : Post} {s : St} (h : SXL C ops l Q s) (hd : C.dr = true) : SXLq C ops l Q s := by unfold SXL at h; rw [hd] at h; exact h
theorem SXL.ofb {C : Cx} {ops : Array Oper} {l : List Oper} {Q : Post} {s : St} (hn : C.dr = false → SXLn C ops l Q s) (hq : C.dr = true → SXLq C ops l Q s) : SXL C ops l Q s := by
  cases hd : C.dr
  · exact .ofn hd (hn hd)
  · exact .ofq hd (hq hd)
theorem QList.mono {C : Cx} {ops : Array Oper} {S S' : World → Prop} (hS : ∀ w, S' w → S w) : ∀ {l : List Oper} {K K' : Act → Prop} {a : Act}, (∀ a, K a → K' a) → QList C ops S l K a → QList C ops S' l K' a
  | [], _, _, _, hK, h => hK _ h
  | _ :: _, _, _, _, hK, ⟨v, h1, h2⟩ => ⟨v, fun w hw => h1 w (hS w hw), QList.mono hS hK h2⟩
theorem QList.append {C : Cx} {ops : Array Oper} {S : World → Prop} : ∀ {l l' : List Oper} {K : Act → Prop} {a : Act}, QList C ops S l (QList C ops S l' K) a → QList C ops S (l ++ l') K a
  | [], _, _, _, h => h
  | _ :: _, _, _, _, ⟨v, h1, h2⟩ => ⟨v, h1, QList.append h2⟩

/-! ### frames -/
theorem Agree.put {n : Nat} {env : Env} {a : Act} (h : Agree n env a) {d : Nat} (hd : Nat.blt d n = true) (v : Value) : Agree n ((d, v) :: env) (a.put (some d) v) := by
  have hd' : d < n := by simpa [Nat.blt_eq] using hd
  refine ⟨by simp [Act.put, h.1], fun t u ht => ?_⟩
  simp only [get] at ht
  simp only [Act.put]
  by_cases hdt : d = t
  · subst hdt
    simp at ht
    subst ht
    simp [h.1, hd']
  · rw [show Nat.beq d t = false from by rw [← Bool.not_eq_true]; intro hh; exact hdt (Nat.eq_of_beq_eq_true hh)] at ht
    simp only [cond_false] at ht
    have := h.2 t u ht
    rw [Array.getElem?_setIfInBounds, if_neg hdt]
    exact this
@[simp] theorem put_defers (a : Act) (d : Option Tmp) (v : Value) : (a.put d v).defers = a.defers := by cases d <;> rfl

/-- What an operand is, as far as it is known. -/
def ev (env : Env) : Operand → Option Value
  | .tmp t => get env t
  | .const v => some v
  | .global g => some (.pointer (some ⟨g, 0, none⟩))
  | .func f => some (.func (.func f) #[] #[])
theorem Agree.eval {n : Nat} {env : Env} {a : Act} (h : Agree n env a) {x : Operand} {v : Value} (hx : ev env x = some v) : a.eval x = v := by
  cases x with
  | tmp t =>
    have := h.2 t v hx
    simp [Act.eval, this]
  | const u => simpa [ev, Act.eval] using hx
  | global g => simpa [ev, Act.eval] using hx
  | func f => simpa [ev, Act.eval] using hx

/-- Is an operation wanted, as far as is known? -/
def Wanted (ops : Array Oper) (g : Option (Nat × Bool)) (env : Env) : Option Bool :=
  match g with
  | none => some true
  | some (j, want) =>
    match (ops[j]?).bind (·.dst) with
    | some t => match get env t with
      | some (.bool b) => some (b == want)
      | some (.tuple _) => some false
      | _ => none
    | none => none
theorem Agree.wanted {n : Nat} {env : Env} {a : Act} (h : Agree n env a) {ops : Array Oper} {o : Oper} {b : Bool} (hw : Wanted ops o.guard env = some b) :
    Region.wanted o (yielded ops a.tmps) = b := by
  unfold Wanted at hw
  unfold Region.wanted
  split at hw
  · rename_i hg; rw [hg]; simpa using hw
  · rename_i j want hg
    rw [hg]
    split at hw
    · rename_i t ht
      split at hw
      · rename_i c hc
        have := h.2 t _ hc
        simp only [Option.some.injEq] at hw
        subst hw
        simp [yielded, ht, this, BEq.comm]
      · rename_i vs hc
        have := h.2 t _ hc
        simp only [Option.some.injEq] at hw
        subst hw
        simp [yielded, ht, this]
      · cases hw
    · cases hw

/-! ### worlds -/
theorem Inv.start (w : World) : Inv w [] w := ⟨Below.refl _ _, fun _ h => (by cases h), List.nodup_nil⟩
theorem Inv.get {w0 w : World} {own : Own} (h : Inv w0 own w) {i : Nat} {p : Nat × Obj} (hi : own[i]? = some p) (hl : live p = true) : w0.heap.size ≤ p.1 ∧ w.heap[p.1]? = some p.2 :=
  h.mem p (List.mem_of_getElem? hi) hl
theorem Inv.lt {w0 w : World} {own : Own} (h : Inv w0 own w) {p : Nat × Obj} (hp : p ∈ own) (hl : live p = true) : p.1 < w.heap.size :=
  (Array.getElem?_eq_some_iff.1 (h.mem p hp hl).2).1
/-- What is below the first world's end, or of the call's own, is kept by whatever keeps all that there was. -/
theorem Inv.ext {w0 w w' : World} {own : Own} (h : Inv w0 own w) (hb : Below w.heap.size w w') : Inv w0 own w' :=
  ⟨h.below.trans (hb.mono h.below.size), fun p hp hl => ⟨(h.mem p hp hl).1, by rw [hb.block _ (h.lt hp hl)]; exact (h.mem p hp hl).2⟩, h.nodup⟩
theorem Inv.weaken {w0 w : World} {own own' : Own} (h : Inv w0 own w) (hs : own'.Sublist own) : Inv w0 own' w :=
  ⟨h.below, fun p hp => h.mem p (hs.subset hp), h.nodup.sublist ((hs.filter _).map _)⟩
theorem Inv.perm {w0 w : World} {own own' : Own} (h : Inv w0 own w) (hs : own'.Perm own) : Inv w0 own' w :=
  ⟨h.below, fun p hp => h.mem p (hs.subset hp), ((hs.filter _).map _).nodup_iff.2 h.nodup⟩
/-- An entry that stands for no block. -/
theorem Inv.pad {w0 w : World} {own : Own} (h : Inv w0 own w) {p : Nat × Obj} (hp : live p = false) : Inv w0 (own ++ [p]) w :=
  ⟨h.below, fun q hq hl => by
    rcases List.mem_append.1 hq with hq | hq
    · exact h.mem q hq hl
    · have : q = p := by simpa using hq
      subst this
      exact absurd hl (by rw [hp]; exact Bool.false_ne_true), by
    rw [List.filter_append, show [p].filter live = [] from by simp [hp], List.append_nil]
    exact h.nodup⟩
/-- New blocks behind all. -/
theorem Inv.append {w0 w w' : World} {own own' : Own} (h : Inv w0 own w) (h' : Inv w own' w') : Inv w0 (own ++ own') w' := by
  have he := h.ext h'.below
  refine ⟨he.below, fun p hp hl => ?_, ?_⟩
  · rcases List.mem_append.1 hp with hp | hp
    · exact he.mem p hp hl
    · exact ⟨Nat.le_trans h.below.size (h'.mem p hp hl).1, (h'.mem p hp hl).2⟩
  · rw [List.filter_append, List.map_append, List.nodup_append]
    refine ⟨h.nodup, h'.nodup, fun x hx y hy hxy => ?_⟩
    obtain ⟨p, hp, rfl⟩ := List.mem_map.1 hx
    obtain ⟨q, hq, rfl⟩ := List.mem_map.1 hy
    have hp := List.mem_filter.1 hp
    have hq := List.mem_filter.1 hq
    have h1 := h.lt hp.1 hp.2
    have h2 := (h'.mem q hq.1 hq.2).1
    omega
theorem below_alloc (w : World) (o : Obj) : Below w.heap.size w (w.alloc o) := (Below.refl _ _).alloc (Nat.le_refl _) _
theorem Inv.alloc1 (w : World) (o : Obj) : Inv w [(w.heap.size, o)] (w.alloc o) :=
  ⟨below_alloc w o, fun p hp _ => by
    have : p = (w.heap.size, o) := by simpa using hp
    subst this
    exact ⟨Nat.le_refl _, by show (w.heap.push o)[w.heap.size]? = some o; simp⟩, by
    cases h : live (w.heap.size, o) <;> simp [List.filter, h]⟩

theorem mem_set_split {α : Type} {l : List α} {i : Nat} {x p : α} (h : p ∈ l.set i x) : p = x ∨ ∃ j, j ≠ i ∧ l[j]? = some p := by
  obtain ⟨j, hj, hjp⟩ := List.getElem_of_mem h
  rw [List.getElem_set] at hjp
  by_cases hij : i = j
  · rw [if_pos hij] at hjp; exact .inl hjp.symm
  · rw [if_neg hij] at hjp
    exact .inr ⟨j, fun e => hij e.symm, by rw [← hjp]; exact List.getElem?_eq_getElem _⟩
theorem nodup_fst_ne {own : Own} (h : ((own.filter live).map (·.1)).Nodup) {i j : Nat} {p q : Nat × Obj} (hi : own[i]? = some p) (hj : own[j]? = some q) (hp : live p = true) (hq : live q = true) (hij : i ≠ j) : p.1 ≠ q.1 := by
  induction own generalizing i j with
  | nil => simp at hi
  | cons x own ih =>
    have hsub : ((own.filter live).map (·.1)).Nodup := by
      simp only [List.filter] at h
      split at h
      · exact (List.nodup_cons.1 (by simpa using h)).2
      · exact h
    have hd : live x = true → ∀ (k : Nat) (y : Nat × Obj), own[k]? = some y → live y = true → x.1 ≠ y.1 := by
      intro hx k y hk hy
      simp only [List.filter, hx, List.map_cons, List.nodup_cons] at h
      intro e
      exact h.1 (List.mem_map.2 ⟨y, List.mem_filter.2 ⟨List.mem_of_getElem? hk, hy⟩, e.symm⟩)
    cases i with
    | zero =>
      cases j with
      | zero => exact absurd rfl hij
      | succ j =>
        simp at hi hj
        subst hi
        exact hd hp j q hj hq
    | succ i =>
      cases j with
      | zero =>
        simp at hi hj
        subst hj
        exact (hd hq i p hi hp).symm
      | succ j => exact ih hsub (by simpa using hi) (by simpa using hj) (by omega)
theorem nodup_set {own : Own} {i : Nat} {p' : Nat × Obj} (h : ((own.filter live).map (·.1)).Nodup) (hne : ∀ j q, j ≠ i → own[j]? = some q → live q = true → q.1 ≠ p'.1) : (((own.set i p').filter live).map (·.1)).Nodup := by
  induction own generalizing i with
  | nil => exact h
  | cons x own ih =>
    have hsub : ((own.filter live).map (·.1)).Nodup := by
      simp only [List.filter] at h
      split at h
      · exact (List.nodup_cons.1 (by simpa using h)).2
      · exact h
    cases i with
    | zero =>
      simp only [List.set_cons_zero, List.filter]
      split
      · rw [List.map_cons, List.nodup_cons]
        refine ⟨fun hm => ?_, hsub⟩
        obtain ⟨q, hq, he⟩ := List.mem_map.1 hm
        obtain ⟨hq1, hq2⟩ := List.mem_filter.1 hq
        obtain ⟨j, hj⟩ := List.getElem?_of_mem hq1
        exact hne (j + 1) q (by omega) (by simpa using hj) hq2 he
      · exact hsub
    | succ i =>
      have ih' := ih (i := i) hsub (fun j q hji hj hq => hne (j + 1) q (by omega) (by simpa using hj) hq)
      simp only [List.set_cons_succ, List.filter]
      split
      · rename_i hx
        rw [List.map_cons, List.nodup_cons]
        refine ⟨fun hm => ?_, ih'⟩
        obtain ⟨q, hq, he⟩ := List.mem_map.1 hm
        obtain ⟨hq1, hq2⟩ := List.mem_filter.1 hq
        rcases mem_set_split hq1 with rfl | ⟨j, hji, hj⟩
        · exact hne 0 x (by omega) (by simp) hx he.symm
        · exact nodup_fst_ne h (i := 0) (j := j + 1) (by simp) (by simpa using hj) hx hq2 (by omega) he.symm
      · exact ih'
theorem nodup_set_dead {own : Own} {i : Nat} {p' : Nat × Obj} (h : ((own.filter live).map (·.1)).Nodup) (hd : live p' = false) : (((own.set i p').filter live).map (·.1)).Nodup := by
  refine h.sublist (List.Sublist.map _ ?_)
  clear h
  induction own generalizing i with
  | nil => simp
  | cons x own ih =>
    cases i with
    | zero =>
      simp only [List.set_cons_zero, List.filter, hd]
      split
      · exact List.sublist_cons_self _ _
      · exact .refl _
    | succ i =>
      simp only [List.set_cons_succ, List.filter]
      split
      · exact (ih (i := i)).cons_cons x
      · exact ih (i := i)
/-- The objects of the call's own, one of them turned, or another block in its place. -/
theorem Inv.replace {w0 w w' : World} {own : Own} (h : Inv w0 own w) {i : Nat} {p p' : Nat × Obj} (hi : own[i]? = some p)
    (hb : ∀ k, k < w.heap.size → (live p = true → k ≠ p.1) → w'.heap[k]? = w.heap[k]?) (hn : live p' = true → w'.heap[p'.1]? = some p'.2)
    (hp : live p' = true → (live p = true ∧ p'.1 = p.1) ∨ w.heap.size ≤ p'.1) (hs : w.heap.size ≤ w'.heap.size) (h1 : w'.os = w.os) (h2 : w'.tape = w.tape) (h3 : w'.output = w.output) :
    Inv w0 (own.set i p') w' := by
  have hsz := h.below.size
  refine ⟨h.below.trans ⟨h1, h2, h3, by omega, fun k hk => hb k (by omega) fun hl => by have := (h.get hi hl).1; omega⟩, fun q hq hl => ?_, ?_⟩
  · rcases mem_set_split hq with rfl | ⟨j, hji, hj⟩
    · refine ⟨?_, hn hl⟩
      rcases hp hl with ⟨h4, h5⟩ | h4
      · rw [h5]; exact (h.get hi h4).1
      · omega
    · have hm := h.get hj hl
      have hlt := h.lt (List.mem_of_getElem? hj) hl
      exact ⟨hm.1, by rw [hb _ hlt fun hpl => nodup_fst_ne h.nodup hj hi hl hpl hji]; exact hm.2⟩
  · cases hl' : live p'
    · -- the entry goes
      refine nodup_set_dead h.nodup hl'
    · refine nodup_set h.nodup fun j q hji hj hq => ?_
      rcases hp hl' with ⟨h4, h5⟩ | h4
      · rw [h5]; exact nodup_fst_ne h.nodup hj hi hq h4 hji
      · have := h.lt (List.mem_of_getElem? hj) hq
        omega
theorem Inv.set {w0 w w' : World} {own : Own} (h : Inv w0 own w) {i b : Nat} {o o' : Obj} (hi : own[i]? = some (b, o)) (hl : live (b, o) = true)
    (hb : ∀ k, k ≠ b → w'.heap[k]? = w.heap[k]?) (hn : w'.heap[b]? = some o') (hs : w'.heap.size = w.heap.size) (h1 : w'.os = w.os) (h2 : w'.tape = w.tape) (h3 : w'.output = w.output) :
    Inv w0 (own.set i (b, o')) w' :=
  h.replace hi (fun k _ hk => hb k (hk hl)) (fun _ => hn) (fun _ => .inl ⟨hl, rfl⟩) (by omega) h1 h2 h3
/-! ### some of the blocks -/
def selI (own : Own) : List Nat → Option Own
  | [] => some []
  | i :: is => match own[i]?, selI own is with
    | some p, some r => some (p :: r)
    | _, _ => none
def distinct : List Nat → Bool
  | [] => true
  | i :: is => !is.contains i && distinct is
theorem selI_mem {own : Own} : ∀ {is : List Nat} {o : Own}, selI own is = some o → ∀ {q}, q ∈ o → ∃ j, j ∈ is ∧ own[j]? = some q
  | [], o, h, q, hq => by simp [selI] at h; subst h; cases hq
  | i :: is, o, h, q, hq => by
    simp only [selI] at h
    split at h
    · rename_i p r hp hr
      simp at h; subst h
      rcases List.mem_cons.1 hq with rfl | hq
      · exact ⟨i, by simp, hp⟩
      · obtain ⟨j, h1, h2⟩ := selI_mem hr hq
        exact ⟨j, by simp [h1], h2⟩
    · cases h
theorem Inv.sel {w0 w : World} {own : Own} (hI : Inv w0 own w) : ∀ {is : List Nat} {o : Own}, selI own is = some o → distinct is = true → Inv w0 o w
  | [], o, h, _ => by simp [selI] at h; subst h; exact hI.weaken (List.nil_sublist _)
  | i :: is, o, h, hd => by
    simp only [distinct, Bool.and_eq_true, Bool.not_eq_true'] at hd
    simp only [selI] at h
    split at h
    · rename_i p r hp hr
      simp at h; subst h
      have ih := Inv.sel hI hr hd.2
      refine ⟨hI.below, fun q hq hl => ?_, ?_⟩
      · rcases List.mem_cons.1 hq with rfl | hq
        · exact hI.get hp hl
        · exact ih.mem q hq hl
      · simp only [List.filter]
        split
        · rename_i hl
          rw [List.map_cons, List.nodup_cons]
          refine ⟨fun hm => ?_, ih.nodup⟩
          obtain ⟨q, hq, he⟩ := List.mem_map.1 hm
          obtain ⟨hq1, hq2⟩ := List.mem_filter.1 hq
          obtain ⟨j, h1, h2⟩ := selI_mem hr hq1
          refine nodup_fst_ne hI.nodup h2 hp hq2 hl (fun e => ?_) he
          subst e
          have := hd.1
          simp at this
          exact this h1
        · exact ih.nodup
    · cases h
/-- Of blocks of the call's own some are looked at. -/
def Sel (own' own : Own) : Prop := ∀ w0 w, Inv w0 own w → Inv w0 own' w
theorem Sel.refl (own : Own) : Sel own own := fun _ _ h => h
theorem Sel.sub {own' own : Own} (h : own'.Sublist own) : Sel own' own := fun _ _ hI => hI.weaken h
theorem Sel.pre (own t : Own) : Sel own (own ++ t) := .sub (List.sublist_append_left _ _)
theorem Sel.of {own o : Own} (is : List Nat) (hs : selI own is = some o) (hd : distinct is = true) : Sel o own := fun _ _ hI => hI.sel hs hd
end Go.X

/- The calculus' rules: control, and the operations that touch no memory. Nothing of the program stands here. -/
namespace Go.X
open Go Go.RowKit

/-! ### knowing less -/
def EnvSub (e e' : Env) : Prop := ∀ t v, get e t = some v → get e' t = some v
theorem EnvSub.refl (e : Env) : EnvSub e e := fun _ _ h => h
theorem EnvSub.trans {a b c : Env} (h : EnvSub a b) (k : EnvSub b c) : EnvSub a c := fun t v x => k t v (h t v x)
theorem EnvSub.skip {e e' : Env} {t : Nat} {v : Value} (h0 : get e t = none) (h : EnvSub e e') : EnvSub e ((t, v) :: e') := by
  intro t' u hu
  simp only [get]
  by_cases ht : t = t'
  · subst ht; rw [h0] at hu; cases hu
  · rw [show Nat.beq t t' = false from by rw [← Bool.not_eq_true]; intro hh; exact ht (Nat.eq_of_beq_eq_true hh)]
    exact h t' u hu
def EnvLe : Env → Env → Prop
  | [], _ => True
  | (t, v) :: r, e' => get e' t = some v ∧ EnvLe r e'
theorem EnvLe.sub {e e' : Env} (h : EnvLe e e') : EnvSub e e' := by
  induction e with
  | nil => intro t v hv; simp [get] at hv
  | cons p r ih =>
    obtain ⟨t, v⟩ := p
    intro t' u hu
    simp only [get] at hu
    by_cases ht : t = t'
    · subst ht
      simp at hu
      subst hu
      exact h.1
    · rw [show Nat.beq t t' = false from by rw [← Bool.not_eq_true]; intro hh; exact ht (Nat.eq_of_beq_eq_true hh)] at hu
      exact ih h.2 t' u hu
theorem Agree.sub {n : Nat} {e e' : Env} {a : Act} (h : Agree n e' a) (hs : EnvSub e e') : Agree n e a := ⟨h.1, fun t v ht => h.2 t v (hs t v ht)⟩

structure Le (s s' : St) : Prop where
  env : EnvSub s.env s'.env
  own : Sel s.own s'.own
  D : s.D = s'.D
theorem Le.refl (s : St) : Le s s := ⟨EnvSub.refl _, Sel.refl _, rfl⟩
theorem Conc.le {n : Nat} {w0 : World} {s s' : St} {a : Act} {w : World} (h : Conc n w0 s' a w) (hs : Le s s') : Conc n w0 s a w :=
  ⟨h.1.sub hs.env, by rw [h.2.1, hs.D], hs.own _ _ h.2.2⟩
section
variable {C : Cx} {Q : Post} {s : St}

theorem SX.le {c : Code} {s' : St} (hs : Le s' s) (h : SX C c Q s') : SX C c Q s := fun a w hc => h a w (hc.le hs)
theorem SX.perm {c : Code} {env : Env} {own own' : Own} {D : List Deferred} (hp : own'.Perm own) (h : SX C c Q ⟨env, own', D⟩) : SX C c Q ⟨env, own, D⟩ :=
  fun a w hc => h a w ⟨hc.1, hc.2.1, hc.2.2.perm hp⟩
theorem SXL.le {ops : Array Oper} {l : List Oper} {s' : St} (hs : Le s' s) (h : SXL C ops l Q s') : SXL C ops l Q s :=
  SXL.ofb (fun hd a w hc => h.ton hd a w (hc.le hs)) fun hd a ha hD =>
    QList.mono (fun w hw => hs.own _ _ hw) (fun _ ⟨s1, h1, h2, h3, h4⟩ => ⟨s1, h1, h2, fun w hw => h3 w (hs.own _ _ hw), h4⟩) (h.toq hd a (ha.sub hs.env) (by rw [hD, hs.D]))
theorem SX.mono {c : Code} {Q' : Post} (h : SX C c Q s) (hq : ∀ e s, Q e s → Q' e s) : SX C c Q' s :=
  fun a w hc => wpIn_mono (h a w hc) fun _ _ _ ⟨s', hc', q⟩ => ⟨s', hc', hq _ _ q⟩

/-! ### control -/
def thenQ (next : St → Prop) (Q : Post) : Post
  | .normal, s => next s
  | e, s => Q e s
def blockQ (id : Nat) (Q : Post) : Post
  | .exit id', s => if id' = id then Q .normal s else Q (.exit id') s
  | e, s => Q e s
theorem thenQ.normal {next : St → Prop} (h : next s) : thenQ next Q .normal s := h
theorem thenQ.ret {next : St → Prop} (h : Q .ret s) : thenQ next Q .ret s := h
theorem thenQ.exit {next : St → Prop} {id : Nat} (h : Q (.exit id) s) : thenQ next Q (.exit id) s := h
theorem blockQ.normal {id : Nat} (h : Q .normal s) : blockQ id Q .normal s := h
theorem blockQ.ret {id : Nat} (h : Q .ret s) : blockQ id Q .ret s := h
theorem blockQ.exit {id : Nat} (h : Q .normal s) : blockQ id Q (.exit id) s := by show if _ then _ else _; rw [if_pos rfl]; exact h
theorem blockQ.pass {id id' : Nat} (hne : Nat.beq id' id = false) (h : Q (.exit id') s) : blockQ id Q (.exit id') s := by
  show if _ then _ else _
  rw [if_neg (by intro e; subst e; simp at hne)]; exact h

theorem SX.seq {x y : Code} (h : SX C x (thenQ (SX C y Q) Q) s) : SX C (.seq x y) Q s := by
  intro a w hc
  refine wpIn_seq (wpIn_mono (h a w hc) ?_)
  rintro e a' w' ⟨s', hc', hq⟩
  cases e <;> first | exact hq a' w' hc' | exact ⟨s', hc', hq⟩
/-- The ways through 'x' meet again at a state that is named. -/
theorem SX.cut {x y : Code} {α : Type} (S : α → St) (F : α → Prop) (h : SX C x (thenQ (fun s' => ∃ z, Le (S z) s' ∧ F z) Q) s)
    (h' : ∀ z, F z → SX C y Q (S z)) : SX C (.seq x y) Q s :=
  SX.seq (h.mono fun e s' hq => by
    cases e
    case normal => obtain ⟨z, hle, hF⟩ := hq; exact SX.le hle (h' z hF)
    all_goals exact hq)
theorem SX.skip (h : Q .normal s) : SX C .skip Q s := fun _ _ hc => wpIn_skip ⟨s, hc, h⟩
theorem SX.ret (h : Q .ret s) : SX C .ret Q s := fun _ _ hc => wpIn_ret ⟨s, hc, h⟩
theorem SX.exit {id : Nat} (h : Q (.exit id) s) : SX C (.exit id) Q s := fun _ _ hc => wpIn_exit ⟨s, hc, h⟩
theorem SX.block {id : Nat} {c : Code} (h : SX C c (blockQ id Q) s) : SX C (.block id c) Q s := by
  intro a w hc
  refine wpIn_block (wpIn_mono (h a w hc) ?_)
  rintro e a' w' ⟨s', hc', hq⟩
  cases e with
  | exit id' =>
    simp only [Exit.inBlock]
    simp only [blockQ] at hq
    split <;> rename_i hid
    · rw [if_pos hid] at hq; exact ⟨s', hc', hq⟩
    · rw [if_neg hid] at hq; exact ⟨s', hc', hq⟩
  | _ => exact ⟨s', hc', hq⟩
theorem SX.cond {c : Operand} {x y : Code} {b : Bool} (hb : ev s.env c = some (.bool b)) (ht : b = true → SX C x Q s) (hf : b = false → SX C y Q s) :
    SX C (.cond c x y) Q s := by
  intro a w hc
  refine wpIn_cond (hc.1.eval hb) ?_
  cases b
  · exact hf rfl a w hc
  · exact ht rfl a w hc
theorem SX.condP {c : Operand} {x y : Code} {p : Prop} [Decidable p] (hb : ev s.env c = some (.bool (decide p))) (ht : p → SX C x Q s) (hf : ¬p → SX C y Q s) :
    SX C (.cond c x y) Q s :=
  SX.cond hb (fun h => ht (of_decide_eq_true h)) (fun h => hf (of_decide_eq_false h))
theorem SX.loop {c : Code} {α : Type} (S : α → St) (F : α → Prop) (μ : α → Nat) (x0 : α) (hF0 : F x0) (hle : Le (S x0) s)
    (round : ∀ x, F x → SX C c (thenQ (fun s' => ∃ x', Le (S x') s' ∧ F x' ∧ μ x' < μ x) Q) (S x)) : SX C (.loop c) Q s := by
  intro a w hc b k cs hro hb hr
  have key : ∀ j x a w, μ x = j → F x → Conc C.n C.w0 (S x) a w →
      ∃ e a' w', lift C Q e a' w' ∧ ArrivesIn (Machine.fenced C.P (FW C.rd)) C.P (lone (b.atR a (.code c :: .inLoop c :: k)) cs w) b k cs e a' w' := by
    intro j
    induction j using Nat.strongRecOn with
    | _ j ih =>
      intro x a w hn hF hc
      obtain ⟨e, a₁, w₁, ⟨s₁, hc₁, hq⟩, harr⟩ := round x hF a w hc b (.inLoop c :: k) cs hro hb hr
      cases e with
      | normal =>
        obtain ⟨x', hle', hF', hlt⟩ := hq
        obtain ⟨e₂, a₂, w₂, hq₂, harr₂⟩ := ih (μ x') (hn ▸ hlt) x' a₁ w₁ rfl hF' (hc₁.le hle')
        exact ⟨e₂, a₂, w₂, hq₂, .of_steps (StepsIn.trans harr (.one (fenced_calm hb hr rfl) stepR_inLoop)) harr₂⟩
      | exit id => exact ⟨_, a₁, w₁, ⟨s₁, hc₁, hq⟩, .pass (x := .inLoop c) rfl (fun _ _ => .inl (by simp)) harr⟩
      | goto l => exact ⟨_, a₁, w₁, ⟨s₁, hc₁, hq⟩, .pass (x := .inLoop c) rfl (fun _ _ => .inl (by simp)) harr⟩
      | ret => exact ⟨_, a₁, w₁, ⟨s₁, hc₁, hq⟩, .pass (x := .inLoop c) rfl (fun _ _ => .inl (by simp)) harr⟩
      | panic ch => exact ⟨_, a₁, w₁, ⟨s₁, hc₁, hq⟩, .pass (x := .inLoop c) rfl (fun _ _ => .inl (by simp)) harr⟩
      | outgrown => exact ⟨_, a₁, w₁, ⟨s₁, hc₁, hq⟩, .pass (x := .inLoop c) rfl (fun _ _ => .inl (by simp)) harr⟩
  obtain ⟨e, a', w', hq, harr⟩ := key _ x0 a w rfl hF0 (hc.le hle)
  exact ⟨e, a', w', hq, .of_steps (.one (fenced_calm hb hr rfl) stepR_loop) harr⟩

/-! ### regions -/
theorem SX.region {id : Nat} {l : List Oper} (h : SXL C l.toArray l Q s) (hd : C.dr = false := by rfl) : SX C (.region id l.toArray false) Q s := fun a w hc => wpIn_region_lit (h.ton hd a w hc)
theorem SXL.nil {ops : Array Oper} (h : Q .normal s) : SXL C ops [] Q s := SXL.ofb (fun _ _ _ hc => wpListIn_nil ⟨s, hc, h⟩) fun _ _ ha hD => ⟨s, ha, hD, fun _ h => h, h⟩
end

section
variable {C : Cx} {Q : Post} {env : Env} {own : Own} {D : List Deferred} {ops : Array Oper} {rest : List Oper}

theorem about_true {F : Fence} {rd : Option Nat} (hF : F = FW rd) {x : Option FuncId} : ∀ f, x = some f → F.fn f := by subst hF; exact fun _ _ => trivial

/-- An operation that hands back a value in some world of which enough is known. -/
theorem SXL.op {o : Oper} {s : St} (hw : Wanted ops o.guard s.env = some true) (hnd : ∀ c, o.op ≠ .defer c)
    (hv : ∀ a w, Conc C.n C.w0 s a w → ∃ v w', ((execOp a.eval o).run C.P w = .ok (.value v) w' ∨ ((execOp a.eval o).run C.P w = .ok .skip w' ∧ v = undef)) ∧
      ∃ s', (∀ a', Agree C.n s.env a' → a'.defers = s.D → Conc C.n C.w0 s' (a'.put o.dst v) w') ∧ SXL C ops rest Q s') (hdr : C.dr = false := by rfl) : SXL C ops (o :: rest) Q s := by
  refine SXL.ofn hdr ?_
  intro a w hc
  have hw' := hc.1.wanted hw
  simp only [wpListIn, hw', if_true]
  obtain ⟨v, w', hrun, s', hs', hr⟩ := hv a w hc
  refine ⟨about_true rfl, ?_⟩
  rw [Oper.semAt_eq _ _ _ hnd]
  rcases hrun with hrun | ⟨hrun, rfl⟩
  · rw [hrun]; exact hr.ton hdr _ _ (hs' a hc.1 hc.2.1)
  · rw [hrun]; exact hr.ton hdr _ _ (hs' a hc.1 hc.2.1)

/-- A value, in the world that it got. -/
theorem SXL.val {o : Oper} {d : Nat} {v : Value} (ho : o.dst = some d) (hd : Nat.blt d C.n = true) (hw : Wanted ops o.guard env = some true) (hnd : ∀ c, o.op ≠ .defer c)
    (hv : ∀ a w, Agree C.n env a → Inv C.w0 own w → (execOp a.eval o).run C.P w = .ok (.value v) w)
    (h : SXL C ops rest Q ⟨(d, v) :: env, own, D⟩) : SXL C ops (o :: rest) Q ⟨env, own, D⟩ :=
  SXL.ofb (fun hdr => SXL.ton (SXL.op hw hnd (fun a w hc => ⟨v, w, .inl (hv a w hc.1 hc.2.2), ⟨(d, v) :: env, own, D⟩,
    fun a' ha' hD' => by rw [ho]; exact ⟨ha'.put hd v, by rw [put_defers]; exact hD', hc.2.2⟩, h⟩) hdr) hdr) fun hdr a ha hD => by
    refine ⟨v, fun w hS K hK => ?_, by rw [ho]; exact h.toq hdr _ (ha.put hd v) (by rw [put_defers]; exact hD)⟩
    rw [if_pos (ha.wanted hw)]
    refine ⟨about_true rfl, ?_⟩
    rw [Oper.semAt_eq _ _ _ hnd, hv a w ha hS]
    exact hK w (Below.refl _ _)

/-- An operation that is passed over. -/
theorem SXL.passG {o : Oper} {s' : St} (hw : Wanted ops o.guard env = some false) (hs : ∀ a, Agree C.n env a → a.defers = D → Agree C.n s'.env (a.put o.dst undef) ∧ s'.D = D ∧ s'.own = own)
    (h : SXL C ops rest Q s') : SXL C ops (o :: rest) Q ⟨env, own, D⟩ := by
  refine SXL.ofb (fun hdr a w hc => ?_) fun hdr a ha hD => ?_
  · obtain ⟨h1, h2, h3⟩ := hs a hc.1 hc.2.1
    simp only [wpListIn, hc.1.wanted hw, if_false, Bool.false_eq_true]
    exact ⟨about_true rfl, h.ton hdr _ _ ⟨h1, by rw [put_defers, h2]; exact hc.2.1, by rw [h3]; exact hc.2.2⟩⟩
  · obtain ⟨h1, h2, h3⟩ := hs a ha hD
    refine ⟨undef, fun w hS K hK => ?_, ?_⟩
    · rw [if_neg (by rw [ha.wanted hw]; exact Bool.false_ne_true)]
      exact ⟨about_true rfl, hK w (Below.refl _ _)⟩
    · have := h.toq hdr _ h1 (by rw [put_defers, h2]; exact hD)
      rw [h3] at this
      exact this
theorem SXL.pass {o : Oper} {d : Nat} (ho : o.dst = some d) (hd : Nat.blt d C.n = true) (hw : Wanted ops o.guard env = some false)
    (h : SXL C ops rest Q ⟨(d, undef) :: env, own, D⟩) : SXL C ops (o :: rest) Q ⟨env, own, D⟩ :=
  SXL.passG hw (fun a ha _ => ⟨by rw [ho]; exact ha.put hd _, rfl, rfl⟩) h
/-! ### operations that touch no memory -/
variable {d : Nat} {ty : TypeId} {pos : String} {aft : Array Edge} {g : Option (Nat × Bool)} {x y : Operand} {v : Value} {T T' : TypeId}

theorem SXL.move (hx : ev env x = some v) (h : SXL C ops rest Q ⟨(d, v) :: env, own, D⟩)
    (hd : Nat.blt d C.n = true := by rfl) (hw : Wanted ops g env = some true := by rfl) :
    SXL C ops ({ dst := some d, op := .move x, type := ty, pos, after := aft, guard := g } :: rest) Q ⟨env, own, D⟩ :=
  SXL.val rfl hd hw (fun _ e => by cases e) (fun a w ha _ => by simp only [execOp, ha.eval hx]; rfl) h
theorem SXL.assign (hx : ev env x = some v) (h : SXL C ops rest Q ⟨(d, v) :: env, own, D⟩)
    (hd : Nat.blt d C.n = true := by rfl) (hw : Wanted ops g env = some true := by rfl) :
    SXL C ops ({ dst := some d, op := .assign x, type := ty, pos, after := aft, guard := g } :: rest) Q ⟨env, own, D⟩ :=
  SXL.val rfl hd hw (fun _ e => by cases e) (fun a w ha _ => by simp only [execOp, ha.eval hx]; rfl) h

theorem run_val {P : Program} {m : Sem Value} {r : Value} {w : World} (h : m.run P w = .ok r w) : (do pure (Next.value (← m)) : Sem Next).run P w = .ok (.value r) w := by
  simp [h, Result.andThen]
theorem SXL.bin {op : BinOp} {u v : Value} (hx : ev env x = some u) (hy : ev env y = some v) {r : Value}
    (hr : ∀ w, (do eqGuard op T x y u v; binOp op T u v : Sem Value).run C.P w = .ok r w)
    (hd : Nat.blt d C.n = true) (hw : Wanted ops g env = some true) (h : SXL C ops rest Q ⟨(d, r) :: env, own, D⟩) :
    SXL C ops ({ dst := some d, op := .binOp op T x y T', type := ty, pos, after := aft, guard := g } :: rest) Q ⟨env, own, D⟩ :=
  SXL.val rfl hd hw (fun _ e => by cases e) (fun a w ha _ => by
    simp only [execOp, ha.eval hx, ha.eval hy]
    exact run_val (hr w)) h

section ints
variable {A B : Int}
theorem SXL.add (hx : ev env x = some (.int .i64 A)) (hy : ev env y = some (.int .i64 B)) (hb : -9223372036854775808 ≤ A + B ∧ A + B ≤ 9223372036854775807)
    (h : SXL C ops rest Q ⟨(d, .int .i64 (A + B)) :: env, own, D⟩) (hd : Nat.blt d C.n = true := by rfl) (hw : Wanted ops g env = some true := by rfl) :
    SXL C ops ({ dst := some d, op := .binOp .add T x y T', type := ty, pos, after := aft, guard := g } :: rest) Q ⟨env, own, D⟩ :=
  SXL.bin hx hy (r := .int .i64 (A + B)) (fun w => by show Result.ok (Value.int .i64 (IntKind.i64.wrap (A + B))) w = _; rw [IntWalk.i64_in _ hb]) hd hw h
theorem SXL.sub (hx : ev env x = some (.int .i64 A)) (hy : ev env y = some (.int .i64 B)) (hb : -9223372036854775808 ≤ A - B ∧ A - B ≤ 9223372036854775807)
    (h : SXL C ops rest Q ⟨(d, .int .i64 (A - B)) :: env, own, D⟩) (hd : Nat.blt d C.n = true := by rfl) (hw : Wanted ops g env = some true := by rfl) :
    SXL C ops ({ dst := some d, op := .binOp .sub T x y T', type := ty, pos, after := aft, guard := g } :: rest) Q ⟨env, own, D⟩ :=
  SXL.bin hx hy (r := .int .i64 (A - B)) (fun w => by show Result.ok (Value.int .i64 (IntKind.i64.wrap (A - B))) w = _; rw [IntWalk.i64_in _ hb]) hd hw h
theorem SXL.mul (hx : ev env x = some (.int .i64 A)) (hy : ev env y = some (.int .i64 B)) (hb : -9223372036854775808 ≤ A * B ∧ A * B ≤ 9223372036854775807)
    (h : SXL C ops rest Q ⟨(d, .int .i64 (A * B)) :: env, own, D⟩) (hd : Nat.blt d C.n = true := by rfl) (hw : Wanted ops g env = some true := by rfl) :
    SXL C ops ({ dst := some d, op := .binOp .mul T x y T', type := ty, pos, after := aft, guard := g } :: rest) Q ⟨env, own, D⟩ :=
  SXL.bin hx hy (r := .int .i64 (A * B)) (fun w => by show Result.ok (Value.int .i64 (IntKind.i64.wrap (A * B))) w = _; rw [IntWalk.i64_in _ hb]) hd hw h
theorem SXL.quo (hx : ev env x = some (.int .i64 A)) (hy : ev env y = some (.int .i64 B)) (hb : 0 ≤ A ∧ A ≤ 9223372036854775807 ∧ 1 ≤ B)
    (h : SXL C ops rest Q ⟨(d, .int .i64 (A / B)) :: env, own, D⟩) (hd : Nat.blt d C.n = true := by rfl) (hw : Wanted ops g env = some true := by rfl) :
    SXL C ops ({ dst := some d, op := .binOp .quo T x y T', type := ty, pos, after := aft, guard := g } :: rest) Q ⟨env, own, D⟩ :=
  SXL.bin hx hy (r := .int .i64 (A / B)) (fun w => by
    show (Op.intDiv .quo .i64 A B).run C.P w = _
    unfold Op.intDiv
    rw [if_neg (by omega)]
    show Result.ok (Value.int .i64 (IntKind.i64.wrap (A.tdiv B))) w = _
    rw [IntWalk.i64_quo _ _ hb]) hd hw h
variable {k : IntKind}
theorem SXL.lss (hx : ev env x = some (.int k A)) (hy : ev env y = some (.int k B))
    (h : SXL C ops rest Q ⟨(d, .bool (decide (A < B))) :: env, own, D⟩) (hd : Nat.blt d C.n = true := by rfl) (hw : Wanted ops g env = some true := by rfl) :
    SXL C ops ({ dst := some d, op := .binOp .lss T x y T', type := ty, pos, after := aft, guard := g } :: rest) Q ⟨env, own, D⟩ :=
  SXL.bin hx hy (r := .bool (decide (A < B))) (fun w => by simp [eqGuard, binOp, Op.intCmp]) hd hw h
theorem SXL.leq (hx : ev env x = some (.int k A)) (hy : ev env y = some (.int k B))
    (h : SXL C ops rest Q ⟨(d, .bool (decide (A ≤ B))) :: env, own, D⟩) (hd : Nat.blt d C.n = true := by rfl) (hw : Wanted ops g env = some true := by rfl) :
    SXL C ops ({ dst := some d, op := .binOp .leq T x y T', type := ty, pos, after := aft, guard := g } :: rest) Q ⟨env, own, D⟩ :=
  SXL.bin hx hy (r := .bool (decide (A ≤ B))) (fun w => by simp [eqGuard, binOp, Op.intCmp]) hd hw h
theorem SXL.gtr (hx : ev env x = some (.int k A)) (hy : ev env y = some (.int k B))
    (h : SXL C ops rest Q ⟨(d, .bool (decide (B < A))) :: env, own, D⟩) (hd : Nat.blt d C.n = true := by rfl) (hw : Wanted ops g env = some true := by rfl) :
    SXL C ops ({ dst := some d, op := .binOp .gtr T x y T', type := ty, pos, after := aft, guard := g } :: rest) Q ⟨env, own, D⟩ :=
  SXL.bin hx hy (r := .bool (decide (B < A))) (fun w => by simp [eqGuard, binOp, Op.intCmp]) hd hw h
theorem SXL.geq (hx : ev env x = some (.int k A)) (hy : ev env y = some (.int k B))
    (h : SXL C ops rest Q ⟨(d, .bool (decide (B ≤ A))) :: env, own, D⟩) (hd : Nat.blt d C.n = true := by rfl) (hw : Wanted ops g env = some true := by rfl) :
    SXL C ops ({ dst := some d, op := .binOp .geq T x y T', type := ty, pos, after := aft, guard := g } :: rest) Q ⟨env, own, D⟩ :=
  SXL.bin hx hy (r := .bool (decide (B ≤ A))) (fun w => by simp [eqGuard, binOp, Op.intCmp]) hd hw h
theorem int_beq (A B : Int) : (A == B) = decide (A = B) := by by_cases h : A = B <;> simp [h]
theorem int_bne (A B : Int) : (A != B) = decide (A ≠ B) := by by_cases h : A = B <;> simp [h]
theorem SXL.eqlI (hx : ev env x = some (.int k A)) (hy : ev env y = some (.int k B))
    (h : SXL C ops rest Q ⟨(d, .bool (decide (A = B))) :: env, own, D⟩) (hd : Nat.blt d C.n = true := by rfl) (hw : Wanted ops g env = some true := by rfl) :
    SXL C ops ({ dst := some d, op := .binOp .eql T x y T', type := ty, pos, after := aft, guard := g } :: rest) Q ⟨env, own, D⟩ :=
  SXL.bin hx hy (r := .bool (decide (A = B))) (fun w => by simp [eqGuard, binOp, Op.intCmp, int_beq]) hd hw h
theorem SXL.neqI (hx : ev env x = some (.int k A)) (hy : ev env y = some (.int k B))
    (h : SXL C ops rest Q ⟨(d, .bool (decide (A ≠ B))) :: env, own, D⟩) (hd : Nat.blt d C.n = true := by rfl) (hw : Wanted ops g env = some true := by rfl) :
    SXL C ops ({ dst := some d, op := .binOp .neq T x y T', type := ty, pos, after := aft, guard := g } :: rest) Q ⟨env, own, D⟩ :=
  SXL.bin hx hy (r := .bool (decide (A ≠ B))) (fun w => by simp [eqGuard, binOp, Op.intCmp, int_bne]) hd hw h
/-- '==' on values of any other type, by what its run is. -/
theorem SXL.eqlV {u v : Value} {p : Prop} [Decidable p] (hx : ev env x = some u) (hy : ev env y = some v) (hr : ∀ w, (do eqGuard .eql T x y u v; binOp .eql T u v : Sem Value).run C.P w = .ok (.bool (decide p)) w)
    (h : SXL C ops rest Q ⟨(d, .bool (decide p)) :: env, own, D⟩) (hd : Nat.blt d C.n = true := by rfl) (hw : Wanted ops g env = some true := by rfl) :
    SXL C ops ({ dst := some d, op := .binOp .eql T x y T', type := ty, pos, after := aft, guard := g } :: rest) Q ⟨env, own, D⟩ :=
  SXL.bin hx hy hr hd hw h
theorem SXL.neqV {u v : Value} {p : Prop} [Decidable p] (hx : ev env x = some u) (hy : ev env y = some v) (hr : ∀ w, (do eqGuard .neq T x y u v; binOp .neq T u v : Sem Value).run C.P w = .ok (.bool (decide p)) w)
    (h : SXL C ops rest Q ⟨(d, .bool (decide p)) :: env, own, D⟩) (hd : Nat.blt d C.n = true := by rfl) (hw : Wanted ops g env = some true := by rfl) :
    SXL C ops ({ dst := some d, op := .binOp .neq T x y T', type := ty, pos, after := aft, guard := g } :: rest) Q ⟨env, own, D⟩ :=
  SXL.bin hx hy hr hd hw h
end ints

theorem SXL.not {p : Prop} [Decidable p] (hx : ev env x = some (.bool (decide p)))
    (h : SXL C ops rest Q ⟨(d, .bool (decide (¬p))) :: env, own, D⟩) (hd : Nat.blt d C.n = true := by rfl) (hw : Wanted ops g env = some true := by rfl) :
    SXL C ops ({ dst := some d, op := .unOp .not T x, type := ty, pos, after := aft, guard := g } :: rest) Q ⟨env, own, D⟩ :=
  SXL.val rfl hd hw (fun _ e => by cases e) (fun a w ha _ => by simp only [execOp, ha.eval hx]; exact run_val (by simp [Op.unary])) h
/-! ### '&&' and '||' : the guarded operations, and the pick behind them -/
theorem wpListIn_append {F : Fence} {n : Nat} {P : Program} {ops : Array Oper} {Q : Exit → Act → World → Prop} : ∀ (l l' : List Oper) (a : Act) (w : World),
    wpListIn F n P ops (Exit.then (fun a w => wpListIn F n P ops Q l' a w) Q) l a w → wpListIn F n P ops Q (l ++ l') a w
  | [], l', a, w, h => h
  | o :: l, l', a, w, h => by
    simp only [wpListIn, List.cons_append] at h ⊢
    split
    · rename_i hw
      rw [if_pos hw] at h
      refine ⟨h.1, ?_⟩
      have h2 := h.2
      generalize (o.semAt F.round a.eval).run P w = r at *
      cases r with
      | ok x w' =>
        cases x <;> simp only [Oper.uponIn] at h2 ⊢
        case value u => exact wpListIn_append l l' _ _ h2
        case skip => exact wpListIn_append l l' _ _ h2
        case defer d => exact wpListIn_append l l' _ _ h2
        case enter f args =>
          refine ⟨h2.1, CallsIn.mono h2.2 fun e w'' he => ?_⟩
          cases e with
          | returned u => exact wpListIn_append l l' _ _ he
          | panicked c => exact he
          | outgrown => obtain ⟨a0, w0, hq⟩ := he; exact ⟨a0, w0, hq⟩
        case row row args => exact ⟨h2.1, RowsIn.mono h2.2 fun u w'' he => wpListIn_append l l' _ _ he⟩
        case round k f tmps assign body =>
          refine ⟨h2.1, RoundIn.mono h2.2 fun e w'' he => ?_⟩
          cases e with
          | returned u => exact wpListIn_append l l' _ _ he
          | panicked c => exact he
          | outgrown => obtain ⟨a0, w0, hq⟩ := he; exact ⟨a0, w0, hq⟩
      | halt x w' =>
        cases x <;> simp only [Oper.uponIn] at h2 ⊢
        case panic u => exact h2
    · rename_i hw
      rw [if_neg hw] at h
      exact ⟨h.1, wpListIn_append l l' _ _ h.2⟩

/-- What is asked behind the guarded operations. -/
def segQ (env : Env) (own : Own) (D : List Deferred) (what : Env → Prop) : Post
  | .normal, s => EnvSub env s.env ∧ s.own = own ∧ s.D = D ∧ what s.env
  | _, _ => False

theorem SXL.seg {l : List Oper} {s : St} (k : Nat) {Q' : Post} (h : SXL C ops (l.take k) Q' s) (hq : ∀ e s', Q' e s' → match e with | .normal => SXL C ops (l.drop k) Q s' | e => Q e s') : SXL C ops l Q s := by
  refine SXL.ofb (fun hdr a w hc => ?_) fun hdr a ha hD => ?_
  case refine_2 =>
    rw [← List.take_append_drop k l]
    refine QList.append (QList.mono (fun _ h => h) ?_ (h.toq hdr a ha hD))
    rintro a' ⟨s', h1, h2, h3, h4⟩
    exact QList.mono h3 (fun a2 ⟨s2, g1, g2, g3, g4⟩ => ⟨s2, g1, g2, fun w hw => g3 w (h3 w hw), g4⟩) ((hq .normal s' h4).toq hdr a' h1 h2)
  rw [← List.take_append_drop k l]
  refine wpListIn_append _ _ _ _ ?_
  have h1 := h.ton hdr a w hc
  have mono : ∀ (l : List Oper) (Q1 Q2 : Exit → Act → World → Prop), (∀ e a w, Q1 e a w → Q2 e a w) → ∀ a w, wpListIn (FW C.rd) 0 C.P ops Q1 l a w → wpListIn (FW C.rd) 0 C.P ops Q2 l a w := by
    intro l Q1 Q2 hQ
    induction l with
    | nil => exact fun a w h => hQ _ _ _ h
    | cons o l ih =>
      intro a w h
      simp only [wpListIn] at h ⊢
      split
      · rename_i hw
        rw [if_pos hw] at h
        refine ⟨h.1, ?_⟩
        have h2 := h.2
        generalize (o.semAt (FW C.rd).round a.eval).run C.P w = r at *
        cases r with
        | ok x w' =>
          cases x <;> simp only [Oper.uponIn] at h2 ⊢
          case value u => exact ih _ _ h2
          case skip => exact ih _ _ h2
          case defer d => exact ih _ _ h2
          case enter f args =>
            refine ⟨h2.1, CallsIn.mono h2.2 fun e w'' he => ?_⟩
            cases e with
            | returned u => exact ih _ _ he
            | panicked c => exact hQ _ _ _ he
            | outgrown => obtain ⟨a0, w0, hq⟩ := he; exact ⟨a0, w0, hQ _ _ _ hq⟩
          case row row args => exact ⟨h2.1, RowsIn.mono h2.2 fun u w'' he => ih _ _ he⟩
          case round k f tmps assign body =>
            refine ⟨h2.1, RoundIn.mono h2.2 fun e w'' he => ?_⟩
            cases e with
            | returned u => exact ih _ _ he
            | panicked c => exact hQ _ _ _ he
            | outgrown => obtain ⟨a0, w0, hq⟩ := he; exact ⟨a0, w0, hQ _ _ _ hq⟩
        | halt x w' =>
          cases x <;> simp only [Oper.uponIn] at h2 ⊢
          case panic u => exact hQ _ _ _ h2
      · rename_i hw
        rw [if_neg hw] at h
        exact ⟨h.1, ih _ _ h.2⟩
  refine mono _ _ _ ?_ a w h1
  rintro e a' w' ⟨s', hc', hq'⟩
  have := hq e s' hq'
  cases e <;> first | exact SXL.ton this hdr a' w' hc' | exact ⟨s', hc', this⟩

theorem run_pick {P : Program} {a : Act} {dst : Option Tmp} {c x y : Operand} {b : Bool} {ty : TypeId} {pos : String} {aft : Array Edge} {g : Option (Nat × Bool)} {r : Value} (w : World) (hc : a.eval c = .bool b) (hr : (if b then a.eval x else a.eval y) = r) :
    (execOp a.eval { dst, op := .pick c x y, type := ty, pos, after := aft, guard := g }).run P w = .ok (.value r) w := by
  subst hr
  cases b <;> simp [execOp, hc, asBool]
theorem EnvSub.wanted {e e' : Env} (hs : EnvSub e e') (hg : Wanted ops g e = some true) : Wanted ops g e' = some true := by
  unfold Wanted at hg ⊢
  split
  · rfl
  · rename_i j want
    simp only at hg
    split at hg
    · rename_i t ht'
      split at hg
      · rename_i b hb
        rw [hs _ _ hb]; exact hg
      · cases hg
      · cases hg
    · cases hg
theorem EnvSub.cons {e e' : Env} (hs : EnvSub e e') (d : Nat) (v : Value) : EnvSub ((d, v) :: e) ((d, v) :: e') := by
  intro t u ht
  simp only [get] at ht ⊢
  cases hdt : Nat.beq d t <;> rw [hdt] at ht
  · exact hs t u ht
  · exact ht
/-- Behind the guarded operations: the pick. -/
theorem SXL.pickAt {env' : Env} {c a b : Operand} {k : Bool} {r : Value} (hs : EnvSub env env') (hc : ev env' c = some (.bool k)) (hr : ev env' (if k then a else b) = some r)
    (h : SXL C ops rest Q ⟨(d, r) :: env, own, D⟩) (hd : Nat.blt d C.n = true) (hg : Wanted ops g env = some true) :
    SXL C ops ({ dst := some d, op := .pick c a b, type := ty, pos, after := aft, guard := g } :: rest) Q ⟨env', own, D⟩ :=
  SXL.val rfl hd (hs.wanted hg) (fun _ e => by cases e) (fun ac w ha _ => run_pick w (ha.eval hc) (by cases k <;> exact ha.eval hr))
    (SXL.le (s' := ⟨(d, r) :: env, own, D⟩) ⟨hs.cons d r, Sel.refl _, rfl⟩ h)

/-- 'p && q': k guarded operations, then the pick. -/
theorem SXL.andG {l : List Oper} (k : Nat) {tg : Nat} {tq : Operand} {p q : Prop} {ip : Decidable p} {iq : Decidable q}
    (hl : l.drop k = { dst := some d, op := .pick (.tmp tg) tq (.const (.bool false)), type := ty, pos, after := aft, guard := g } :: rest)
    (ht : p → SXL C ops (l.take k) (segQ env own D fun e => get e tg = some (.bool true) ∧ ev e tq = some (.bool (decide q))) ⟨(tg, .bool true) :: env, own, D⟩)
    (hf : ¬p → SXL C ops (l.take k) (segQ env own D fun e => get e tg = some (.bool false)) ⟨(tg, .bool false) :: env, own, D⟩)
    (h : SXL C ops rest Q ⟨(d, .bool (decide (p ∧ q))) :: env, own, D⟩)
    (hd : Nat.blt d C.n = true) (hg : Wanted ops g env = some true) : SXL C ops l Q ⟨(tg, .bool (decide p)) :: env, own, D⟩ := by
  by_cases hp : p
  · rw [show decide p = true from by simp [hp]]
    refine SXL.seg k (ht hp) ?_
    rintro e ⟨env', own', D'⟩ hq
    cases e <;> first | exact hq.elim | skip
    obtain ⟨hs, ho, hD, h1, h2⟩ := hq
    simp only at hs ho hD h1 h2
    subst ho hD
    show SXL C ops (l.drop k) Q _
    rw [hl]
    exact SXL.pickAt (r := .bool (decide (p ∧ q))) hs h1 (by rw [show decide (p ∧ q) = decide q from by simp [hp]]; exact h2) h hd hg
  · rw [show decide p = false from by simp [hp]]
    refine SXL.seg k (hf hp) ?_
    rintro e ⟨env', own', D'⟩ hq
    cases e <;> first | exact hq.elim | skip
    obtain ⟨hs, ho, hD, h1⟩ := hq
    simp only at hs ho hD h1
    subst ho hD
    show SXL C ops (l.drop k) Q _
    rw [hl]
    exact SXL.pickAt (r := .bool (decide (p ∧ q))) hs h1 (by rw [show decide (p ∧ q) = false from by simp [hp]]; rfl) h hd hg
/-- 'p || q'. -/
theorem SXL.orG {l : List Oper} (k : Nat) {tg : Nat} {tq : Operand} {p q : Prop} {ip : Decidable p} {iq : Decidable q}
    (hl : l.drop k = { dst := some d, op := .pick (.tmp tg) (.const (.bool true)) tq, type := ty, pos, after := aft, guard := g } :: rest)
    (ht : p → SXL C ops (l.take k) (segQ env own D fun e => get e tg = some (.bool true)) ⟨(tg, .bool true) :: env, own, D⟩)
    (hf : ¬p → SXL C ops (l.take k) (segQ env own D fun e => get e tg = some (.bool false) ∧ ev e tq = some (.bool (decide q))) ⟨(tg, .bool false) :: env, own, D⟩)
    (h : SXL C ops rest Q ⟨(d, .bool (decide (p ∨ q))) :: env, own, D⟩)
    (hd : Nat.blt d C.n = true) (hg : Wanted ops g env = some true) : SXL C ops l Q ⟨(tg, .bool (decide p)) :: env, own, D⟩ := by
  by_cases hp : p
  · rw [show decide p = true from by simp [hp]]
    refine SXL.seg k (ht hp) ?_
    rintro e ⟨env', own', D'⟩ hq
    cases e <;> first | exact hq.elim | skip
    obtain ⟨hs, ho, hD, h1⟩ := hq
    simp only at hs ho hD h1
    subst ho hD
    show SXL C ops (l.drop k) Q _
    rw [hl]
    exact SXL.pickAt (r := .bool (decide (p ∨ q))) hs h1 (by rw [show decide (p ∨ q) = true from by simp [hp]]; rfl) h hd hg
  · rw [show decide p = false from by simp [hp]]
    refine SXL.seg k (hf hp) ?_
    rintro e ⟨env', own', D'⟩ hq
    cases e <;> first | exact hq.elim | skip
    obtain ⟨hs, ho, hD, h1, h2⟩ := hq
    simp only at hs ho hD h1 h2
    subst ho hD
    show SXL C ops (l.drop k) Q _
    rw [hl]
    exact SXL.pickAt (r := .bool (decide (p ∨ q))) hs h1 (by rw [show decide (p ∨ q) = decide q from by simp [hp]]; exact h2) h hd hg
end
end Go.X

/- The calculus' rules: memory. Nothing of the program stands here. -/
namespace Go.X
open Go Go.RowKit

/-! ### small functions that reckon by themselves -/
def takeAt : List Value → Nat → Nat → Option (List Value)
  | _, _, 0 => some []
  | l, off, k + 1 => match l[off]?, takeAt l (off + 1) k with
    | some v, some r => some (v :: r)
    | _, _ => none
def putAt : List Value → Nat → List Value → Option (List Value)
  | l, 0, [] => some l
  | _ :: l, 0, v :: vs => match putAt l 0 vs with
    | some r => some (v :: r)
    | none => none
  | x :: l, off + 1, vs => match putAt l off vs with
    | some r => some (x :: r)
    | none => none
  | _, _, _ => none
def cellsO : Value → Option (List Value)
  | .agg ⟨l⟩ => some l
  | .tuple _ => none
  | v => some [v]
def tupAt : Value → Nat → Option Value
  | .tuple ⟨l⟩, i => l[i]?
  | _, _ => none
def evl (env : Env) : List Operand → Option (List Value)
  | [] => some []
  | x :: r => match ev env x, evl env r with
    | some v, some vs => some (v :: vs)
    | _, _ => none

theorem takeAt_spec {l : List Value} : ∀ {k off : Nat} {vs : List Value}, takeAt l off k = some vs → vs.length = k ∧ ∀ i, i < k → l[off + i]? = vs[i]?
  | 0, off, vs, h => by
    simp [takeAt] at h
    subst h
    exact ⟨rfl, fun i hi => by omega⟩
  | k + 1, off, vs, h => by
    simp only [takeAt] at h
    split at h
    · rename_i v r hv hr
      simp at h
      subst h
      obtain ⟨h1, h2⟩ := takeAt_spec hr
      refine ⟨by simp [h1], fun i hi => ?_⟩
      cases i with
      | zero => simpa using hv
      | succ i =>
        have := h2 i (by omega)
        simpa [Nat.add_assoc, Nat.add_comm 1 i] using this
    · cases h
theorem putAt_spec : ∀ {l : List Value} {off : Nat} {vs l' : List Value}, putAt l off vs = some l' →
    l'.length = l.length ∧ off + vs.length ≤ l.length ∧ (∀ i, i < vs.length → l'[off + i]? = vs[i]?) ∧ (∀ j, (j < off ∨ off + vs.length ≤ j) → l'[j]? = l[j]?)
  | [], 0, [], l', h => by simp [putAt] at h; subst h; simp
  | [], 0, v :: vs, l', h => by simp [putAt] at h
  | [], off + 1, vs, l', h => by cases vs <;> simp [putAt] at h
  | x :: l, 0, [], l', h => by simp [putAt] at h; subst h; simp
  | x :: l, 0, v :: vs, l', h => by
    simp only [putAt] at h
    split at h
    · rename_i r hr
      simp at h; subst h
      obtain ⟨h1, h2, h3, h4⟩ := putAt_spec hr
      refine ⟨by simp [h1], by simp at h2 ⊢; omega, fun i hi => ?_, fun j hj => ?_⟩
      · cases i with
        | zero => simp
        | succ i => have := h3 i (by simp at hi; omega); simpa using this
      · cases j with
        | zero => simp at hj
        | succ j => have := h4 j (by simp at hj ⊢; omega); simpa using this
    · cases h
  | x :: l, off + 1, vs, l', h => by
    have h' : (match putAt l off vs with | some r => some (x :: r) | none => none) = some l' := by
      cases vs <;> simpa [putAt] using h
    split at h'
    · rename_i r hr
      simp at h'; subst h'
      obtain ⟨h1, h2, h3, h4⟩ := putAt_spec hr
      refine ⟨by simp [h1], by simp; omega, fun i hi => ?_, fun j hj => ?_⟩
      · have := h3 i hi
        rw [show off + 1 + i = (off + i) + 1 by omega]
        simpa using this
      · cases j with
        | zero => simp
        | succ j => have := h4 j (by omega); simpa using this
    · cases h'
/-- One cell, at a number that is reckoned. -/
theorem putAt_one : ∀ {l : List Value} {off : Nat} (v : Value), off < l.length → putAt l off [v] = some (l.set off v)
  | x :: l, 0, v, _ => by simp [putAt]
  | x :: l, off + 1, v, h => by simp [putAt, putAt_one (l := l) (off := off) v (by simpa using h)]
theorem putAt_two : ∀ {l : List Value} {off : Nat} (v u : Value), off + 1 < l.length → putAt l off [v, u] = some ((l.set off v).set (off + 1) u)
  | x :: y :: l, 0, v, u, _ => by simp [putAt]
  | x :: l, off + 1, v, u, h => by simp [putAt, putAt_two (l := l) (off := off) v u (by simpa using h)]
theorem takeAt_one {l : List Value} {off : Nat} {v : Value} (h : l[off]? = some v) : takeAt l off 1 = some [v] := by simp [takeAt, h]
theorem takeAt_two {l : List Value} {off : Nat} {v u : Value} (h : l[off]? = some v) (h' : l[off + 1]? = some u) : takeAt l off 2 = some [v, u] := by simp [takeAt, h, h']
theorem evl_map {n : Nat} {env : Env} {a : Act} (h : Agree n env a) : ∀ {xs : List Operand} {vs : List Value}, evl env xs = some vs → xs.map a.eval = vs
  | [], vs, hx => by simp [evl] at hx; simp [hx]
  | x :: r, vs, hx => by
    simp only [evl] at hx
    split at hx
    · rename_i v us hv hus
      simp at hx
      subst hx
      simp [h.eval hv, evl_map h hus]
    · cases hx

/-! ### facts on types -/
/-- none: one cell; some k: a struct or an array of k cells. -/
def shapeT (P : Program) (t : TypeId) : Option (Option Nat) :=
  match P.underlying t with
  | some (.struct _) | some (.array _ _) => (P.info? t).map fun i => some i.size
  | some _ => some none
  | none => none
def sizeP (P : Program) (t : TypeId) : Option Nat := (P.info? t).map (·.size)
def zeroP (P : Program) (t : TypeId) : Option (List Value) := ((P.info? t).bind (·.zero)).bind cellsO
def fieldP (P : Program) (t : TypeId) (i : Nat) : Option Nat :=
  match P.underlying t with
  | some (.struct fs) => match fs[i]? with
    | some f => match P.info? f.type with
      | some inf => if inf.size = 0 then none else some f.offset
      | none => none
    | none => none
  | _ => none

section
variable {P : Program} {T : TypeId} {w : World}
theorem run_isAgg {k : Option Nat} (h : shapeT P T = some k) : (isAgg T).run P w = .ok k.isSome w := by
  unfold shapeT at h
  unfold isAgg
  split at h
  · rename_i hu; cases hi : P.info? T <;> simp [hi] at h; subst h; simp [run_underlying hu]
  · rename_i hu; cases hi : P.info? T <;> simp [hi] at h; subst h; simp [run_underlying hu]
  · rename_i u hu1 hu2 hu3
    simp at h
    subst h
    cases u <;> first | (exact (hu1 _ rfl).elim) | (exact (hu2 _ _ rfl).elim) | simp [run_underlying hu3]
  · cases h
theorem run_sizeOf {k : Nat} (h : sizeP P T = some k) : (sizeOf T).run P w = .ok k w := by
  unfold sizeP at h
  cases hi : P.info? T <;> simp [hi] at h
  simp [sizeOf, typeInfo, hi, h]
theorem shape_size {k : Nat} (h : shapeT P T = some (some k)) : sizeP P T = some k := by
  unfold shapeT at h
  unfold sizeP
  split at h <;> simp_all
theorem run_loadCellsFrom {a : Addr} : ∀ (k i : Nat) (acc : Array Value) (vs : List Value), vs.length = k → (∀ j v, vs[j]? = some v → w.cell? (a.add (i + j)) = some v) →
    (loadCellsFrom a i k acc).run P w = .ok (acc ++ vs.toArray) w
  | 0, i, acc, vs, hl, _ => by
    have : vs = [] := List.eq_nil_of_length_eq_zero hl
    subst this
    simp [loadCellsFrom]
  | k + 1, i, acc, vs, hl, h => by
    match vs, hl with
    | v :: vs, hl =>
      have h0 := h 0 v rfl
      have ih := run_loadCellsFrom k (i + 1) (acc.push v) vs (by simpa using hl) (fun j u hj => by
        have := h (j + 1) u (by simpa using hj)
        rwa [show i + 1 + j = i + (j + 1) by omega])
      simp only [loadCellsFrom]
      rw [Nat.add_zero] at h0
      simp [h0, Result.andThen, ih]

/-- The cells from an address on, in every world of which as much is known. -/
def Mem (w0 : World) (own : Own) (b off : Nat) (vs : List Value) : Prop := ∀ w, Inv w0 own w → ∀ j v, vs[j]? = some v → w.cell? ⟨b, off + j, none⟩ = some v
theorem Mem.own {w0 : World} {own : Own} {i b off k : Nat} {l vs : List Value} {E : TypeId} {fz : Nat × Nat} (hi : own[i]? = some (b, .cells ⟨l⟩ E fz)) (hl : takeAt l off k = some vs) : Mem w0 own b off vs := by
  intro w hI j v hj
  obtain ⟨h1, h2⟩ := takeAt_spec hl
  have hjk : j < k := by
    have := (List.getElem?_eq_some_iff.1 hj).1
    omega
  have := h2 j hjk
  have hb := (hI.get hi (live_of_get (this.trans hj))).2
  simp only [World.cell?, hb]
  simp [this, hj]
theorem Mem.out {w0 : World} {own : Own} {b off : Nat} {vs : List Value} (h : ∀ j v, vs[j]? = some v → w0.cell? ⟨b, off + j, none⟩ = some v) : Mem w0 own b off vs := by
  intro w hI j v hj
  have hc := h j v hj
  have hb : b < w0.heap.size := by
    unfold World.cell? at hc
    split at hc
    · rename_i hx; exact (Array.getElem?_eq_some_iff.1 hx).1
    · cases hc
  rw [hI.below.cell (p := ⟨b, off + j, none⟩) hb]
  exact hc
theorem Mem.out1 {w0 : World} {own : Own} {b off : Nat} {v : Value} (h : w0.cell? ⟨b, off, none⟩ = some v) : Mem w0 own b off [v] :=
  Mem.out fun j u hj => by
    cases j with
    | zero => simp at hj; subst hj; exact h
    | succ j => simp at hj
theorem addr_add (b off n : Nat) : (⟨b, off, none⟩ : Addr).add n = ⟨b, off + n, none⟩ := by
  unfold Addr.add
  split
  · subst_vars; rfl
  · rfl
theorem run_loadAt1 {b off : Nat} {v : Value} (hT : shapeT P T = some none) (h : w.cell? ⟨b, off, none⟩ = some v) : (Instr.loadAt T (.pointer (some ⟨b, off, none⟩))).run P w = .ok v w := by
  simp [Instr.loadAt, Instr.sureAddr, loadVar, run_isAgg hT, h, Result.andThen]
theorem run_loadAtN {b off k : Nat} {vs : List Value} (hT : shapeT P T = some (some k)) (hk : vs.length = k) (h : ∀ j v, vs[j]? = some v → w.cell? ⟨b, off + j, none⟩ = some v) :
    (Instr.loadAt T (.pointer (some ⟨b, off, none⟩))).run P w = .ok (.agg ⟨vs⟩) w := by
  have := run_loadCellsFrom (P := P) (w := w) (a := ⟨b, off, none⟩) k 0 #[] vs hk (fun j v hj => by rw [Nat.zero_add, addr_add]; exact h j v hj)
  simp [Instr.loadAt, Instr.sureAddr, loadVar, run_isAgg hT, run_sizeOf (shape_size hT), loadCells, this, Result.andThen]
end

section
variable {C : Cx} {Q : Post} {env : Env} {own : Own} {D : List Deferred} {ops : Array Oper} {rest : List Oper}
variable {d : Nat} {ty : TypeId} {pos : String} {aft : Array Edge} {g : Option (Nat × Bool)} {x y : Operand} {v : Value} {T T' : TypeId}

/-- A load of one cell. -/
theorem SXL.load1 {b off : Nat} (hT : shapeT C.P T = some none) (hx : ev env x = some (.pointer (some ⟨b, off, none⟩))) (hm : Mem C.w0 own b off [v])
    (h : SXL C ops rest Q ⟨(d, v) :: env, own, D⟩) (hd : Nat.blt d C.n = true := by rfl) (hw : Wanted ops g env = some true := by rfl) :
    SXL C ops ({ dst := some d, op := .load T x, type := ty, pos, after := aft, guard := g } :: rest) Q ⟨env, own, D⟩ :=
  SXL.val rfl hd hw (fun _ e => by cases e) (fun a w ha hI => by
    simp only [execOp, ha.eval hx]
    exact run_val (run_loadAt1 hT (hm w hI 0 v rfl))) h
/-- A load of a struct or an array. -/
theorem SXL.loadN {b off k : Nat} {vs : List Value} (hT : shapeT C.P T = some (some k)) (hx : ev env x = some (.pointer (some ⟨b, off, none⟩))) (hm : Mem C.w0 own b off vs) (hk : vs.length = k)
    (h : SXL C ops rest Q ⟨(d, .agg ⟨vs⟩) :: env, own, D⟩) (hd : Nat.blt d C.n = true := by rfl) (hw : Wanted ops g env = some true := by rfl) :
    SXL C ops ({ dst := some d, op := .load T x, type := ty, pos, after := aft, guard := g } :: rest) Q ⟨env, own, D⟩ :=
  SXL.val rfl hd hw (fun _ e => by cases e) (fun a w ha hI => by
    simp only [execOp, ha.eval hx]
    exact run_val (run_loadAtN hT hk (hm w hI))) h
/-- .. from a block of the call's own. -/
theorem SXL.load1o {b off : Nat} (i : Nat) {l : List Value} {E : TypeId} {fz : Nat × Nat} (hT : shapeT C.P T = some none) (hx : ev env x = some (.pointer (some ⟨b, off, none⟩)))
    (hi : own[i]? = some (b, .cells ⟨l⟩ E fz)) (hl : l[off]? = some v)
    (h : SXL C ops rest Q ⟨(d, v) :: env, own, D⟩) (hd : Nat.blt d C.n = true := by rfl) (hw : Wanted ops g env = some true := by rfl) :
    SXL C ops ({ dst := some d, op := .load T x, type := ty, pos, after := aft, guard := g } :: rest) Q ⟨env, own, D⟩ :=
  SXL.load1 hT hx (Mem.own hi (takeAt_one hl)) h hd hw
theorem SXL.loadNo {b off k : Nat} {vs : List Value} (i : Nat) {l : List Value} {E : TypeId} {fz : Nat × Nat} (hT : shapeT C.P T = some (some k)) (hx : ev env x = some (.pointer (some ⟨b, off, none⟩)))
    (hi : own[i]? = some (b, .cells ⟨l⟩ E fz)) (hl : takeAt l off k = some vs)
    (h : SXL C ops rest Q ⟨(d, .agg ⟨vs⟩) :: env, own, D⟩) (hd : Nat.blt d C.n = true := by rfl) (hw : Wanted ops g env = some true := by rfl) :
    SXL C ops ({ dst := some d, op := .load T x, type := ty, pos, after := aft, guard := g } :: rest) Q ⟨env, own, D⟩ :=
  SXL.loadN hT hx (Mem.own hi hl) (takeAt_spec hl).1 h hd hw

/-! ### addresses -/
theorem run_fieldAt {P : Program} {w : World} {T : TypeId} {b off i o : Nat} (hf : fieldP P T i = some o) : (Instr.fieldAt T (.pointer (some ⟨b, off, none⟩)) i).run P w = .ok (.pointer (some ⟨b, off + o, none⟩)) w := by
  unfold fieldP at hf
  split at hf
  · rename_i fs hu
    split at hf
    · rename_i f hfi
      split at hf
      · rename_i inf hinf
        split at hf
        · cases hf
        · rename_i hne
          simp at hf
          subst hf
          have hsz : (sizeOf f.type).run P w = .ok inf.size w := run_sizeOf (by simp [sizeP, hinf])
          simp [Instr.fieldAt, run_underlying hu, hfi, Instr.sureAddr, fieldPlace, hsz, hne, Result.andThen, addr_add]
      · cases hf
    · cases hf
  · cases hf
theorem SXL.fieldAddr {b off i o : Nat} (hf : fieldP C.P T i = some o) (hx : ev env x = some (.pointer (some ⟨b, off, none⟩)))
    (h : SXL C ops rest Q ⟨(d, .pointer (some ⟨b, off + o, none⟩)) :: env, own, D⟩) (hd : Nat.blt d C.n = true := by rfl) (hw : Wanted ops g env = some true := by rfl) :
    SXL C ops ({ dst := some d, op := .fieldAddr T x i, type := ty, pos, after := aft, guard := g } :: rest) Q ⟨env, own, D⟩ :=
  SXL.val rfl hd hw (fun _ e => by cases e) (fun a w ha hI => by
    simp only [execOp, ha.eval hx]
    exact run_val (run_fieldAt hf)) h
def elemP (P : Program) (t : TypeId) : Option (Option Nat × Nat) :=
  match P.underlying t with
  | some (.slice e) => (sizeP P e).map fun s => (none, s)
  | some (.array n e) => (sizeP P e).map fun s => (some n, s)
  | _ => none
theorem run_indexAtS {P : Program} {w : World} {T : TypeId} {b off n c s : Nat} {k : IntKind} {i : Int} (he : elemP P T = some (none, s)) (hb : 0 ≤ i ∧ i < n) :
    (Instr.indexAt T (.slice (some ⟨b, off, none⟩) n c) (.int k i)).run P w = .ok (.pointer (some ⟨b, off + i.toNat * s, none⟩)) w := by
  unfold elemP at he
  split at he
  · rename_i e hu
    cases hs : sizeP P e <;> simp [hs] at he
    subst he
    simp [Instr.indexAt, asIntOf, run_underlying hu, run_sizeOf hs, hb, addr_add, Result.andThen]
  · rename_i n' e hu
    cases hs : sizeP P e <;> simp [hs] at he
  · cases he
theorem run_indexAtA {P : Program} {w : World} {T : TypeId} {b off n s : Nat} {k : IntKind} {i : Int} (he : elemP P T = some (some n, s)) (hb : 0 ≤ i ∧ i < n) :
    (Instr.indexAt T (.pointer (some ⟨b, off, none⟩)) (.int k i)).run P w = .ok (.pointer (some ⟨b, off + i.toNat * s, none⟩)) w := by
  unfold elemP at he
  split at he
  · rename_i e hu
    cases hs : sizeP P e <;> simp [hs] at he
  · rename_i n' e hu
    cases hs : sizeP P e <;> simp [hs] at he
    obtain ⟨rfl, rfl⟩ := he
    simp [Instr.indexAt, Instr.sureAddr, asIntOf, run_underlying hu, run_sizeOf hs, hb, addr_add, Result.andThen]
  · cases he
theorem SXL.indexS {b off n c s : Nat} {k : IntKind} {i : Int} (he : elemP C.P T = some (none, s)) (hx : ev env x = some (.slice (some ⟨b, off, none⟩) n c)) (hy : ev env y = some (.int k i)) (hb : 0 ≤ i ∧ i < n)
    (h : SXL C ops rest Q ⟨(d, .pointer (some ⟨b, off + i.toNat * s, none⟩)) :: env, own, D⟩) (hd : Nat.blt d C.n = true := by rfl) (hw : Wanted ops g env = some true := by rfl) :
    SXL C ops ({ dst := some d, op := .indexAddr T x y, type := ty, pos, after := aft, guard := g } :: rest) Q ⟨env, own, D⟩ :=
  SXL.val rfl hd hw (fun _ e => by cases e) (fun a w ha hI => by
    simp only [execOp, ha.eval hx, ha.eval hy]
    exact run_val (run_indexAtS he hb)) h
theorem SXL.indexA {b off n s : Nat} {k : IntKind} {i : Int} (he : elemP C.P T = some (some n, s)) (hx : ev env x = some (.pointer (some ⟨b, off, none⟩))) (hy : ev env y = some (.int k i)) (hb : 0 ≤ i ∧ i < n)
    (h : SXL C ops rest Q ⟨(d, .pointer (some ⟨b, off + i.toNat * s, none⟩)) :: env, own, D⟩) (hd : Nat.blt d C.n = true := by rfl) (hw : Wanted ops g env = some true := by rfl) :
    SXL C ops ({ dst := some d, op := .indexAddr T x y, type := ty, pos, after := aft, guard := g } :: rest) Q ⟨env, own, D⟩ :=
  SXL.val rfl hd hw (fun _ e => by cases e) (fun a w ha hI => by
    simp only [execOp, ha.eval hx, ha.eval hy]
    exact run_val (run_indexAtA he hb)) h
theorem SXL.nilCheck {p : Addr} (hx : ev env x = some (.pointer (some p)))
    (h : SXL C ops rest Q ⟨(d, .pointer (some p)) :: env, own, D⟩) (hd : Nat.blt d C.n = true := by rfl) (hw : Wanted ops g env = some true := by rfl) :
    SXL C ops ({ dst := some d, op := .nilCheck x, type := ty, pos, after := aft, guard := g } :: rest) Q ⟨env, own, D⟩ :=
  SXL.val rfl hd hw (fun _ e => by cases e) (fun a w ha hI => by simp only [execOp, ha.eval hx]; rfl) h

/-! ### tuples, lengths, least and greatest -/
theorem SXL.extract {i : Nat} {t : Value} (hx : ev env x = some t) (ht : tupAt t i = some v)
    (h : SXL C ops rest Q ⟨(d, v) :: env, own, D⟩) (hd : Nat.blt d C.n = true := by rfl) (hw : Wanted ops g env = some true := by rfl) :
    SXL C ops ({ dst := some d, op := .extract x i, type := ty, pos, after := aft, guard := g } :: rest) Q ⟨env, own, D⟩ :=
  SXL.val rfl hd hw (fun _ e => by cases e) (fun a w ha hI => by
    simp only [execOp, ha.eval hx]
    cases t <;> simp only [tupAt] at ht <;> first | cases ht | skip
    rename_i vs
    obtain ⟨l⟩ := vs
    simp only at ht
    exact run_val (by simp [Instr.extract, ht])) h
def isSliceP (P : Program) (t : TypeId) : Bool := match P.underlying t with | some (.slice _) => true | _ => false
theorem run_builtin {P : Program} {w : World} {ρ : Operand → Value} {dst : Option Tmp} {b : Builtin} {xs : Array Operand} {ats : Array TypeId} {ty : TypeId} {pos : String} {aft : Array Edge} {g : Option (Nat × Bool)} :
    (execOp ρ { dst, op := .call { callee := .builtin b, args := xs, argTypes := ats }, type := ty, pos, after := aft, guard := g }).run P w =
      (builtin b ats ty (xs.map fun | .const _ => true | _ => false) (xs.map ρ)).run P w := rfl
theorem SXL.len {ao : Option Addr} {n c : Nat} (hT : isSliceP C.P T = true) (hx : ev env x = some (.slice ao n c))
    (h : SXL C ops rest Q ⟨(d, .int .i64 (n : Int)) :: env, own, D⟩) (hd : Nat.blt d C.n = true := by rfl) (hw : Wanted ops g env = some true := by rfl) :
    SXL C ops ({ dst := some d, op := .call { callee := .builtin .len, args := #[x], argTypes := #[T] }, type := ty, pos, after := aft, guard := g } :: rest) Q ⟨env, own, D⟩ :=
  SXL.val rfl hd hw (fun _ e => by cases e) (fun a w ha hI => by
    rw [run_builtin]
    simp only [List.map_toArray, List.map_cons, List.map_nil, ha.eval hx, BigFrame.builtin_len]
    unfold isSliceP at hT
    split at hT
    · rename_i e hu
      exact run_val (by simp [Builtin.len_, run_underlying hu, goInt])
    · cases hT) h
theorem SXL.cap {ao : Option Addr} {n c : Nat} (hT : isSliceP C.P T = true) (hx : ev env x = some (.slice ao n c))
    (h : SXL C ops rest Q ⟨(d, .int .i64 (c : Int)) :: env, own, D⟩) (hd : Nat.blt d C.n = true := by rfl) (hw : Wanted ops g env = some true := by rfl) :
    SXL C ops ({ dst := some d, op := .call { callee := .builtin .cap, args := #[x], argTypes := #[T] }, type := ty, pos, after := aft, guard := g } :: rest) Q ⟨env, own, D⟩ :=
  SXL.val rfl hd hw (fun _ e => by cases e) (fun a w ha hI => by
    rw [run_builtin]
    simp only [List.map_toArray, List.map_cons, List.map_nil, ha.eval hx, BigFrame.builtin_cap]
    unfold isSliceP at hT
    split at hT
    · rename_i e hu
      exact run_val (by simp [Builtin.cap_, run_underlying hu, goInt])
    · cases hT) h
theorem SXL.min {A B : Int} {ats : Array TypeId} (hx : ev env x = some (.int .i64 A)) (hy : ev env y = some (.int .i64 B))
    (h : SXL C ops rest Q ⟨(d, .int .i64 (Min.min A B)) :: env, own, D⟩) (hd : Nat.blt d C.n = true := by rfl) (hw : Wanted ops g env = some true := by rfl) :
    SXL C ops ({ dst := some d, op := .call { callee := .builtin .min, args := #[x, y], argTypes := ats }, type := ty, pos, after := aft, guard := g } :: rest) Q ⟨env, own, D⟩ :=
  SXL.val rfl hd hw (fun _ e => by cases e) (fun a w ha hI => by
    rw [run_builtin]
    simp only [List.map_toArray, List.map_cons, List.map_nil, ha.eval hx, ha.eval hy, BigFrame.builtin_min]
    exact run_val (by simp [Builtin.min_, Builtin.min2]; omega)) h
theorem SXL.max {A B : Int} {ats : Array TypeId} (hx : ev env x = some (.int .i64 A)) (hy : ev env y = some (.int .i64 B))
    (h : SXL C ops rest Q ⟨(d, .int .i64 (Max.max A B)) :: env, own, D⟩) (hd : Nat.blt d C.n = true := by rfl) (hw : Wanted ops g env = some true := by rfl) :
    SXL C ops ({ dst := some d, op := .call { callee := .builtin .max, args := #[x, y], argTypes := ats }, type := ty, pos, after := aft, guard := g } :: rest) Q ⟨env, own, D⟩ :=
  SXL.val rfl hd hw (fun _ e => by cases e) (fun a w ha hI => by
    rw [run_builtin]
    simp only [List.map_toArray, List.map_cons, List.map_nil, ha.eval hx, ha.eval hy, BigFrame.builtin_max]
    exact run_val (by simp [Builtin.max_, Builtin.max2]; omega)) h
end
end Go.X

/- The calculus' rules: stores, new blocks, slices, calls, a function's entry and its end. Nothing of the program stands here. -/
namespace Go.X
open Go Go.RowKit

def isOne : Value → Bool
  | .agg _ | .tuple _ => false
  | _ => true
theorem run_store {P : Program} {w : World} {a : Addr} {v u : Value} (h1 : isOne v = true) (hc : w.cell? a = some u) (hf : w.frozen? a = false) :
    (store a v : Sem Unit).run P w = .ok () (w.setCell a v) := by
  cases v <;> first | (exact absurd h1 Bool.false_ne_true) | (simp [store, Sem.run, hc, hf])

theorem setCell_heap {w : World} {b off : Nat} {l : List Value} {E : TypeId} {fz : Nat × Nat} {v : Value} (h : w.heap[b]? = some (.cells ⟨l⟩ E fz)) :
    (w.setCell ⟨b, off, none⟩ v).heap[b]? = some (.cells ⟨l.set off v⟩ E fz) := by
  simp only [World.setCell, Array.getElem?_modify, h]
  simp
theorem setCell_other {w : World} {b off k : Nat} {v : Value} (h : k ≠ b) : (w.setCell ⟨b, off, none⟩ v).heap[k]? = w.heap[k]? := Below.heap_setCell _ _ _ _ h

theorem putAt_cons {v : Value} {vs : List Value} : ∀ {j : Nat} {l l' : List Value}, putAt l j (v :: vs) = some l' → putAt (l.set j v) (j + 1) vs = some l'
  | 0, [], l', hp => by simp [putAt] at hp
  | 0, x :: l, l', hp => by
    simp only [putAt] at hp
    split at hp
    · rename_i r hr
      simp at hp; subst hp
      simp [putAt, hr]
    · cases hp
  | j + 1, [], l', hp => by simp [putAt] at hp
  | j + 1, x :: l, l', hp => by
    simp only [putAt] at hp
    split at hp
    · rename_i r hr
      simp at hp; subst hp
      have := putAt_cons hr
      simp [putAt, this]
    · cases hp
/-- What a run of stores into one block leaves. -/
theorem run_storeCells {P : Program} {b off : Nat} {E : TypeId} : ∀ (vs : List Value) (i : Nat) (w : World) (l l' : List Value), vs.all isOne = true → w.heap[b]? = some (.cells ⟨l⟩ E (0, 0)) →
    putAt l (off + i) vs = some l' → ∃ w', (storeCells ⟨b, off, none⟩ vs i).run P w = .ok () w' ∧ w'.heap[b]? = some (.cells ⟨l'⟩ E (0, 0)) ∧ (∀ k, k ≠ b → w'.heap[k]? = w.heap[k]?) ∧
      w'.heap.size = w.heap.size ∧ w'.os = w.os ∧ w'.tape = w.tape ∧ w'.output = w.output
  | [], i, w, l, l', _, hb, hp => by
    have e : l' = l := by
      obtain ⟨h1, _, _, h4⟩ := putAt_spec hp
      exact List.ext_getElem? fun j => h4 j (by simp; omega)
    subst e
    exact ⟨w, by simp [storeCells], hb, fun _ _ => rfl, rfl, rfl, rfl, rfl⟩
  | v :: vs, i, w, l, l', h1, hb, hp => by
    simp only [List.all_cons, Bool.and_eq_true] at h1
    obtain ⟨p1, p2, p3, p4⟩ := putAt_spec hp
    have hlt : off + i < l.length := by simp at p2; omega
    have hc : w.cell? ⟨b, off + i, none⟩ = some (l[off + i]) := by simp [World.cell?, hb, hlt]
    have hf : w.frozen? ⟨b, off + i, none⟩ = false := by simp [World.frozen?, hb]
    have hp' : putAt (l.set (off + i) v) (off + (i + 1)) vs = some l' := by rw [← Nat.add_assoc]; exact putAt_cons hp
    obtain ⟨w', hr, q1, q2, q3, q4, q5, q6⟩ := run_storeCells (P := P) vs (i + 1) (w.setCell ⟨b, off + i, none⟩ v) (l.set (off + i) v) l' h1.2 (setCell_heap hb) hp'
    refine ⟨w', ?_, q1, fun k hk => by rw [q2 k hk, setCell_other hk], by rw [q3]; simp, by rw [q4]; rfl, by rw [q5]; rfl, by rw [q6]; rfl⟩
    simp only [storeCells, addr_add]
    simp [run_store h1.1 hc hf, hr, Result.andThen]
theorem cellsO_cells {v : Value} {vs : List Value} (h : cellsO v = some vs) : v.cells = ⟨vs⟩ := by
  cases v with
  | agg cs => obtain ⟨l⟩ := cs; simp [cellsO] at h; subst h; rfl
  | tuple _ => simp [cellsO] at h
  | _ => simp [cellsO] at h; subst h; rfl
/-- How many cells a variable of a type has. -/
theorem run_storeAt {P : Program} {w : World} {T E : TypeId} {b off k : Nat} {v : Value} {vs l l' : List Value} (hT : sizeP P T = some k) (hv : cellsO v = some vs) (hk : vs.length = k) (h1 : vs.all isOne = true)
    (hb : w.heap[b]? = some (.cells ⟨l⟩ E (0, 0))) (hp : putAt l off vs = some l') :
    ∃ w', (Instr.storeAt T (.pointer (some ⟨b, off, none⟩)) v).run P w = .ok () w' ∧ w'.heap[b]? = some (.cells ⟨l'⟩ E (0, 0)) ∧ (∀ k, k ≠ b → w'.heap[k]? = w.heap[k]?) ∧
      w'.heap.size = w.heap.size ∧ w'.os = w.os ∧ w'.tape = w.tape ∧ w'.output = w.output := by
  obtain ⟨w', hr, rest⟩ := run_storeCells (P := P) (b := b) (off := off) (E := E) vs 0 w l l' h1 hb (by simpa using hp)
  refine ⟨w', ?_, rest⟩
  simp [Instr.storeAt, Instr.sureAddr, storeVar, cellsO_cells hv, run_sizeOf hT, hk, hr, Result.andThen]

section
variable {C : Cx} {Q : Post} {env : Env} {own : Own} {D : List Deferred} {ops : Array Oper} {rest : List Oper}
variable {d : Nat} {ty : TypeId} {pos : String} {aft : Array Edge} {g : Option (Nat × Bool)} {x y z : Operand} {v : Value} {T T' : TypeId}

/-- A store into a block of the call's own. -/
theorem SXL.store {b off k : Nat} (i : Nat) {E : TypeId} {vs l l' : List Value} (hT : sizeP C.P T = some k) (hx : ev env x = some (.pointer (some ⟨b, off, none⟩))) (hy : ev env y = some v)
    (hi : own[i]? = some (b, .cells ⟨l⟩ E (0, 0))) (hv : cellsO v = some vs) (hk : vs.length = k) (hp : putAt l off vs = some l')
    (h : SXL C ops rest Q ⟨env, own.set i (b, .cells ⟨l'⟩ E (0, 0)), D⟩) (h1 : vs.all isOne = true := by rfl) (hk0 : Nat.blt 0 k = true := by rfl) (hw : Wanted ops g env = some true := by rfl) (hdr : C.dr = false := by rfl) :
    SXL C ops ({ dst := none, op := .store T x y, type := ty, pos, after := aft, guard := g } :: rest) Q ⟨env, own, D⟩ :=
  SXL.op hw (fun _ e => by cases e) (hdr := hdr) fun a w hc => by
    have hlive : live (b, .cells ⟨l⟩ E (0, 0)) = true := live_of_len (by have := (putAt_spec hp).2.1; rw [Nat.blt_eq] at hk0; omega)
    obtain ⟨w', hr, q1, q2, q3, q4, q5, q6⟩ := run_storeAt (P := C.P) (w := w) hT hv hk h1 (hc.2.2.get hi hlive).2 hp
    refine ⟨undef, w', .inr ⟨?_, rfl⟩, ⟨env, own.set i (b, .cells ⟨l'⟩ E (0, 0)), D⟩, fun a' ha' hD' => ⟨ha', hD', hc.2.2.set hi hlive q2 q1 q3 q4 q5 q6⟩, h⟩
    simp only [execOp, hc.1.eval hx, hc.1.eval hy]
    simp [hr, Result.andThen]

/-! ### new blocks -/
theorem SXL.new {o : Oper} {ob : Obj} {f : Nat → Value} (ho : o.dst = some d) (hd : Nat.blt d C.n = true) (hw : Wanted ops o.guard env = some true) (hnd : ∀ c, o.op ≠ .defer c)
    (hv : ∀ a w, Agree C.n env a → Inv C.w0 own w → (execOp a.eval o).run C.P w = .ok (.value (f w.heap.size)) (w.alloc ob))
    (h : ∀ b, SXL C ops rest Q ⟨(d, f b) :: env, own ++ [(b, ob)], D⟩) (hdr : C.dr = false := by rfl) : SXL C ops (o :: rest) Q ⟨env, own, D⟩ :=
  SXL.op hw hnd (hdr := hdr) fun a w hc => ⟨_, _, .inl (hv a w hc.1 hc.2.2), ⟨(d, f w.heap.size) :: env, own ++ [(w.heap.size, ob)], D⟩,
    fun a' ha' hD' => by rw [ho]; exact ⟨ha'.put hd _, by rw [put_defers]; exact hD', hc.2.2.append (Inv.alloc1 w ob)⟩, h _⟩
theorem SXL.alloc {l : List Value} (hT : zeroP C.P T = some l) (h : ∀ b, SXL C ops rest Q ⟨(d, .pointer (some ⟨b, 0, none⟩)) :: env, own ++ [(b, .cells ⟨l⟩ T (0, 0))], D⟩)
    (hd : Nat.blt d C.n = true := by rfl) (hw : Wanted ops g env = some true := by rfl) (hdr : C.dr = false := by rfl) :
    SXL C ops ({ dst := some d, op := .alloc T, type := ty, pos, after := aft, guard := g } :: rest) Q ⟨env, own, D⟩ :=
  SXL.new (f := fun b => .pointer (some ⟨b, 0, none⟩)) rfl hd hw (fun _ e => by cases e) (fun a w ha hI => by
    unfold zeroP at hT
    cases hi : C.P.info? T with
    | none => simp [hi] at hT
    | some inf =>
      simp only [hi, Option.bind_some] at hT
      cases hz : inf.zero with
      | none => simp [hz] at hT
      | some zv =>
        simp only [hz, Option.bind_some] at hT
        simp [execOp, Instr.alloc, zeroValue, typeInfo, hi, hz, newVar, newRow, cellsO_cells hT, Result.andThen]) h hdr
theorem SXL.box {l : List Value} (hx : ev env x = some v) (hl : cellsO v = some l) (h : ∀ b, SXL C ops rest Q ⟨(d, .pointer (some ⟨b, 0, none⟩)) :: env, own ++ [(b, .cells ⟨l⟩ T (0, 0))], D⟩)
    (hd : Nat.blt d C.n = true := by rfl) (hw : Wanted ops g env = some true := by rfl) (hdr : C.dr = false := by rfl) :
    SXL C ops ({ dst := some d, op := .box T x, type := ty, pos, after := aft, guard := g } :: rest) Q ⟨env, own, D⟩ :=
  SXL.new (f := fun b => .pointer (some ⟨b, 0, none⟩)) rfl hd hw (fun _ e => by cases e) (fun a w ha hI => by
    simp [execOp, ha.eval hx, Instr.box, newVar, newRow, cellsO_cells hl, Result.andThen]) h hdr

/-! ### building a struct, an array, a row -/
/-- The parts laid into the zero cells. -/
def bld (place : Nat → Option (Nat × Nat)) : List Value → List (Nat × Value) → Option (List Value)
  | cs, [] => some cs
  | cs, (i, v) :: r => match place i, cellsO v with
    | some (off, size), some vs => match Nat.beq vs.length size, putAt cs off vs with
      | true, some cs' => bld place cs' r
      | _, _ => none
    | _, _ => none
def evp (env : Env) : List (Nat × Operand) → Option (List (Nat × Value))
  | [] => some []
  | (i, x) :: r => match ev env x, evp env r with
    | some v, some vs => some ((i, v) :: vs)
    | _, _ => none
theorem evp_map {n : Nat} {env : Env} {a : Act} (h : Agree n env a) : ∀ {xs : List (Nat × Operand)} {vs : List (Nat × Value)}, evp env xs = some vs → xs.map (fun (i, x) => (i, a.eval x)) = vs
  | [], vs, hx => by simp [evp] at hx; simp [hx]
  | (i, x) :: r, vs, hx => by
    simp only [evp] at hx
    split at hx
    · rename_i v us hv hus
      simp at hx
      subst hx
      have := evp_map h hus
      simp only [List.map_cons, h.eval hv]
      rw [this]
    · cases hx
theorem fold_putAt {off : Nat} : ∀ (vs : List Value) (k : Nat) (l l' : List Value), putAt l (off + k) vs = some l' →
    (vs.zipIdx k).foldl (fun (cs : Array Value) (p : Value × Nat) => cs.setIfInBounds (off + p.2) p.1) ⟨l⟩ = ⟨l'⟩
  | [], k, l, l', hp => by
    obtain ⟨_, _, _, h4⟩ := putAt_spec hp
    have : l' = l := List.ext_getElem? fun j => h4 j (by simp; omega)
    simp [this]
  | v :: vs, k, l, l', hp => by
    have hp' : putAt (l.set (off + k) v) (off + (k + 1)) vs = some l' := by rw [← Nat.add_assoc]; exact putAt_cons hp
    simp only [List.zipIdx_cons, List.foldl_cons]
    rw [show (⟨l⟩ : Array Value).setIfInBounds (off + k) v = ⟨l.set (off + k) v⟩ from by simp]
    exact fold_putAt vs (k + 1) _ _ hp'
theorem fill_bld {place : Nat → Option (Nat × Nat)} : ∀ {r : List (Nat × Value)} {cs l : List Value}, bld place cs r = some l → Instr.fill place ⟨cs⟩ r = some ⟨l⟩
  | [], cs, l, h => by simp [bld] at h; simp [Instr.fill, h]
  | (i, v) :: r, cs, l, h => by
    simp only [bld] at h
    split at h
    · rename_i off size vs hpl hv
      split at h
      · rename_i cs' hl hput
        simp only [Instr.fill, hpl, cellsO_cells hv]
        have hl' : vs.length = size := Nat.eq_of_beq_eq_true hl
        obtain ⟨_, p2, _, _⟩ := putAt_spec hput
        rw [if_neg (by simp [hl']; omega)]
        have := fold_putAt (off := off) vs 0 cs cs' (by simpa using hput)
        rw [← Array.foldl_toList, Array.toList_zipIdx]
        rw [this]
        exact fill_bld h
      · cases h
    · cases h
theorem run_val' {P : Program} {m : Sem Value} {r : Value} {w w' : World} (h : m.run P w = .ok r w') : (do pure (Next.value (← m)) : Sem Next).run P w = .ok (.value r) w' := by
  simp [h, Result.andThen]
/-- The zero cells over and over. -/
def rowOf (zs : List Value) (n : Nat) : List Value := (List.range n).map fun i => zs[i % zs.length]!
def elemT (P : Program) (t : TypeId) : Option (TypeId × Nat) :=
  match P.underlying t with
  | some (.slice e) => (sizeP P e).map fun s => (e, s)
  | _ => none
/-- Where the fields of a struct, the elements of an array lie. -/
def placesP (P : Program) (t : TypeId) : Option (List (Nat × Nat)) :=
  match P.underlying t with
  | some (.struct fs) => fs.toList.mapM fun f => (sizeP P f.type).map fun s => (f.offset, s)
  | _ => none
theorem run_mapM_places {P : Program} {w : World} : ∀ (l : List Field) (r : List (Nat × Nat)), l.mapM (fun f => (sizeP P f.type).map fun s => (f.offset, s)) = some r →
    (l.mapM (fun f => (Prod.mk f.offset <$> sizeOf f.type : Sem (Nat × Nat)))).run P w = .ok r w
  | [], r, h => by simp at h; subst h; simp
  | f :: l, r, h => by
    simp only [List.mapM_cons, Option.bind_eq_bind, Option.bind_eq_some_iff] at h
    obtain ⟨p, hp, r', hr', h⟩ := h
    simp at h; subst h
    cases hs : sizeP P f.type with
    | none => simp [hs] at hp
    | some s =>
      simp [hs] at hp; subst hp
      have ih := run_mapM_places (w := w) l r' hr'
      simp [List.mapM_cons, run_sizeOf hs, ih, Result.andThen]
theorem SXL.buildS {parts : List (Nat × Operand)} {pl : List (Nat × Nat)} {zs l : List Value} {ps : List (Nat × Value)} (hT : placesP C.P T = some pl) (hz : zeroP C.P T = some zs)
    (hx : evp env parts = some ps) (hb : bld (pl[·]?) zs ps = some l)
    (h : SXL C ops rest Q ⟨(d, .agg ⟨l⟩) :: env, own, D⟩) (hd : Nat.blt d C.n = true := by rfl) (hw : Wanted ops g env = some true := by rfl) :
    SXL C ops ({ dst := some d, op := .build T ⟨parts⟩, type := ty, pos, after := aft, guard := g } :: rest) Q ⟨env, own, D⟩ :=
  SXL.val rfl hd hw (fun _ e => by cases e) (fun a w ha hI => by
    have hm := evp_map ha hx
    unfold placesP at hT
    split at hT
    · rename_i fs hu
      have hrun := run_mapM_places (P := C.P) (w := w) _ _ hT
      unfold zeroP at hz
      cases hi : C.P.info? T with
      | none => simp [hi] at hz
      | some inf =>
        simp only [hi, Option.bind_some] at hz
        cases hzz : inf.zero with
        | none => simp [hzz] at hz
        | some zv =>
          simp only [hzz, Option.bind_some] at hz
          simp only [execOp]
          refine run_val ?_
          have hf := fill_bld hb
          rw [← hm] at hf
          have e : (Array.mk parts).map (fun (i, x) => (i, a.eval x)) = ⟨parts.map fun (i, x) => (i, a.eval x)⟩ := by simp
          rw [e]
          have hfs : (fs.mapM (fun f => (Prod.mk f.offset <$> sizeOf f.type : Sem (Nat × Nat)))).run C.P w = .ok ⟨pl⟩ w := by
            rw [Array.mapM_eq_mapM_toList]
            simp [hrun, Result.andThen]
          simp [Instr.build, zeroValue, typeInfo, hi, hzz, cellsO_cells hz, run_underlying hu, hfs, Result.andThen]
          have hf' : Instr.fill (fun x => pl[x]?) { toList := zs } (List.map (fun x => (x.fst, a.eval x.snd)) parts) = some ⟨l⟩ := hf
          rw [hf']
          rfl
    · cases hT) h
/-- A slice of parts in a new row. -/
theorem SXL.buildSlice {e : TypeId} {n sz : Nat} {parts : List (Nat × Operand)} {zs l : List Value} {ps : List (Nat × Value)} (hT : elemT C.P T = some (e, sz)) (hz : zeroP C.P e = some zs)
    (hn : Nat.blt (n * sz) 16777217 = true) (hpos : Nat.blt 0 (n * sz) = true) (hx : evp env parts = some ps) (hb : bld (fun i => some (i * sz, sz)) (rowOf zs (n * sz)) ps = some l)
    (h : ∀ b, SXL C ops rest Q ⟨(d, .slice (some ⟨b, 0, none⟩) n n) :: env, own ++ [(b, .cells ⟨l⟩ e (0, 0))], D⟩) (hd : Nat.blt d C.n = true := by rfl) (hw : Wanted ops g env = some true := by rfl) (hdr : C.dr = false := by rfl) :
    SXL C ops ({ dst := some d, op := .buildSlice T n ⟨parts⟩, type := ty, pos, after := aft, guard := g } :: rest) Q ⟨env, own, D⟩ :=
  SXL.new (f := fun b => .slice (some ⟨b, 0, none⟩) n n) rfl hd hw (fun _ e => by cases e) (fun a w ha hI => by
    have hm := evp_map ha hx
    unfold elemT at hT
    split at hT
    · rename_i e' hu
      cases hs : sizeP C.P e' with
      | none => simp [hs] at hT
      | some s =>
        simp [hs] at hT
        obtain ⟨rfl, rfl⟩ := hT
        unfold zeroP at hz
        cases hi : C.P.info? e' with
        | none => simp [hi] at hz
        | some inf =>
          simp only [hi, Option.bind_some] at hz
          cases hzz : inf.zero with
          | none => simp [hzz] at hz
          | some zv =>
            simp only [hzz, Option.bind_some] at hz
            have hn' : ¬ (16777216 < n * s) := by rw [Nat.blt_eq] at hn; omega
            have hp' : ¬ (n * s = 0) := by rw [Nat.blt_eq] at hpos; omega
            have hf := fill_bld hb
            rw [← hm] at hf
            have hf' : Instr.fill (fun x => some (x * s, s)) { toList := rowOf zs (n * s) } (List.map (fun x => (x.fst, a.eval x.snd)) parts) = some ⟨l⟩ := hf
            have e2 : (Array.range (n * s)).map (fun i => (zv.cells)[i % (zv.cells).size]!) = ⟨rowOf zs (n * s)⟩ := by
              rw [cellsO_cells hz]
              apply Array.ext'
              simp [rowOf]
            simp only [execOp]
            refine run_val' ?_
            simp [Instr.buildSlice, run_underlying hu, run_sizeOf hs, hn', hp', zeroValue, typeInfo, hi, hzz, Result.andThen, e2, hf', newRow]
    · cases hT) h hdr
theorem SXL.buildSlice0 {e : TypeId} {sz : Nat} (hT : elemT C.P T = some (e, sz))
    (h : ∀ b, SXL C ops rest Q ⟨(d, .slice (some ⟨b, 0, none⟩) 0 0) :: env, own ++ [(b, .cells ⟨[]⟩ e (0, 0))], D⟩) (hd : Nat.blt d C.n = true := by rfl) (hw : Wanted ops g env = some true := by rfl) (hdr : C.dr = false := by rfl) :
    SXL C ops ({ dst := some d, op := .buildSlice T 0 ⟨[]⟩, type := ty, pos, after := aft, guard := g } :: rest) Q ⟨env, own, D⟩ :=
  SXL.new (f := fun b => .slice (some ⟨b, 0, none⟩) 0 0) rfl hd hw (fun _ e => by cases e) (fun a w ha hI => by
    unfold elemT at hT
    split at hT
    · rename_i e' hu
      cases hs : sizeP C.P e' with
      | none => simp [hs] at hT
      | some s =>
        simp [hs] at hT
        obtain ⟨rfl, rfl⟩ := hT
        simp only [execOp]
        refine run_val' ?_
        simp [Instr.buildSlice, run_underlying hu, run_sizeOf hs, Result.andThen, newRow, Instr.fill]
        have e0 : (Array.map (fun (_ : Nat) => (default : Value)) (Array.range 0)) = ⟨[]⟩ := by apply Array.ext'; simp
        rw [e0]
    · cases hT) h hdr

/-! ### function values; slices of slices -/
theorem SXL.makeFunc {f : Fn} {xs ys : List Operand} {us vs : List Value} (hx : evl env xs = some us) (hy : evl env ys = some vs)
    (h : SXL C ops rest Q ⟨(d, .func f ⟨us⟩ ⟨vs⟩) :: env, own, D⟩) (hd : Nat.blt d C.n = true := by rfl) (hw : Wanted ops g env = some true := by rfl) :
    SXL C ops ({ dst := some d, op := .makeFunc f ⟨xs⟩ ⟨ys⟩, type := ty, pos, after := aft, guard := g } :: rest) Q ⟨env, own, D⟩ :=
  SXL.val rfl hd hw (fun _ e => by cases e) (fun a w ha hI => by
    have h1 := evl_map ha hx
    have h2 := evl_map ha hy
    simp only [execOp, List.map_toArray, h1, h2]
    exact run_val (by simp [Instr.makeFunc])) h
/-- A part of a slice: 'x[lo:hi]', not to its very end at the capacity. -/
def cutAddr (ao : Option Addr) (l c s : Nat) : Option Addr := if c = l then ao else ao.map (·.add (l * s))
theorem SXL.sliceL {ao : Option Addr} {n c s : Nat} {k : IntKind} {A : Int} (he : elemP C.P T = some (none, s)) (hx : ev env x = some (.slice ao n c)) (hy : ev env y = some (.int k A))
    (hb : 0 ≤ A ∧ A ≤ n)
    (h : SXL C ops rest Q ⟨(d, .slice (cutAddr ao A.toNat c s) (n - A.toNat) (c - A.toNat)) :: env, own, D⟩) (hd : Nat.blt d C.n = true := by rfl) (hw : Wanted ops g env = some true := by rfl) :
    SXL C ops ({ dst := some d, op := .slice T x (some y) none none, type := ty, pos, after := aft, guard := g } :: rest) Q ⟨env, own, D⟩ :=
  SXL.val rfl hd hw (fun _ e => by cases e) (fun a w ha hI => by
    unfold elemP at he
    split at he
    · rename_i e hu
      cases hs : sizeP C.P e <;> simp [hs] at he
      subst he
      simp only [execOp, ha.eval hx, ha.eval hy, Option.map_some, Option.map_none]
      exact run_val (by simp [Instr.sliceAt, Instr.slice, Instr.sliceBounds, Instr.sliceBound, asIntOf, run_underlying hu, run_sizeOf hs, hb.1, hb.2, cutAddr, Result.andThen])
    · rename_i n' e hu
      cases hs : sizeP C.P e <;> simp [hs] at he
    · cases he) h
/-! ### calls -/
def fnOk (P : Program) (f : FuncId) : Bool := match P.funcs[f]? with
  | some fn => !(fn.name == "runtime.NumGoroutine") && fn.body.isSome
  | none => false
theorem run_callFunc {P : Program} {w : World} {f : FuncId} {args : Array Value} (h : fnOk P f = true) : (callFunc f args).run P w = .ok (.enter f args) w := by
  unfold fnOk at h
  split at h
  · rename_i fn hf
    simp only [Bool.and_eq_true, Bool.not_eq_true'] at h
    have hb : ¬ fn.body = none := by cases hb : fn.body <;> simp [hb] at h ⊢
    have hn : ¬ fn.name = "runtime.NumGoroutine" := by simpa using h.1
    simp [callFunc, hf, hn, hb]
  · cases h
/-- A call hands back a value of which R holds, with blocks of its own; all that there was is kept. -/
def CallsR (P : Program) (f : FuncId) (args : List Value) (w : World) (R : Value → Own → Prop) : Prop :=
  Calls P f ⟨args⟩ w fun e w' => ∃ v own, e = .returned v ∧ Inv w own w' ∧ R v own
theorem CallsR.mono {P : Program} {f : FuncId} {args : List Value} {w : World} {R R' : Value → Own → Prop} (h : CallsR P f args w R) (hr : ∀ v own, R v own → R' v own) : CallsR P f args w R' :=
  Calls.mono h fun _ _ ⟨v, own, h1, h2, h3⟩ => ⟨v, own, h1, h2, hr _ _ h3⟩
theorem callsIn_FW {rd : Option Nat} {n : Nat} {P : Program} {f : FuncId} {args : Array Value} {w : World} {R : Ending → World → Prop} (h : Calls P f args w R) : CallsIn (FW rd) n P f args w R :=
  (callsIn_wide (n := n)).2 h
theorem SXL.callOf {o : Oper} {f : FuncId} {args : List Value} {R : Value → Own → Prop} (ho : o.dst = some d) (hd : Nat.blt d C.n = true) (hw : Wanted ops o.guard env = some true) (hnd : ∀ c, o.op ≠ .defer c)
    (hv : ∀ a w, Agree C.n env a → Inv C.w0 own w → (execOp a.eval o).run C.P w = .ok (.enter f ⟨args⟩) w)
    (hc : ∀ w, Inv C.w0 own w → CallsR C.P f args w R)
    (h : ∀ v own', R v own' → SXL C ops rest Q ⟨(d, v) :: env, own ++ own', D⟩) (hdr : C.dr = false := by rfl) : SXL C ops (o :: rest) Q ⟨env, own, D⟩ := by
  refine SXL.ofn hdr ?_
  intro a w hcn
  have hw' := hcn.1.wanted hw
  simp only [wpListIn, hw', if_true]
  refine ⟨about_true rfl, ?_⟩
  rw [Oper.semAt_eq _ _ _ hnd, hv a w hcn.1 hcn.2.2]
  refine ⟨fun hx => (by cases hx), callsIn_FW (Calls.mono (hc w hcn.2.2) ?_)⟩
  rintro e w' ⟨v, own', rfl, hI', hR⟩
  exact (h v own' hR).ton hdr _ _ (by rw [ho]; exact ⟨hcn.1.put hd v, by rw [put_defers]; exact hcn.2.1, hcn.2.2.append hI'⟩)
/-- .. that hands back one value, and of whose blocks nothing is wanted. -/
theorem SXL.callOf1 {o : Oper} {f : FuncId} {args : List Value} {v : Value} (ho : o.dst = some d) (hd : Nat.blt d C.n = true) (hw : Wanted ops o.guard env = some true) (hnd : ∀ c, o.op ≠ .defer c)
    (hv : ∀ a w, Agree C.n env a → Inv C.w0 own w → (execOp a.eval o).run C.P w = .ok (.enter f ⟨args⟩) w)
    (hc : ∀ w, Inv C.w0 own w → CallsR C.P f args w fun u _ => u = v)
    (h : SXL C ops rest Q ⟨(d, v) :: env, own, D⟩) : SXL C ops (o :: rest) Q ⟨env, own, D⟩ := by
  refine SXL.ofb (fun hdr => SXL.ton (SXL.callOf ho hd hw hnd hv hc (fun u own' hu => by subst hu; exact SXL.le (s' := ⟨(d, u) :: env, own, D⟩) ⟨EnvSub.refl _, Sel.pre _ _, rfl⟩ h) hdr) hdr) fun hdr a ha hD => ?_
  refine ⟨v, fun w hS K hK => ?_, by rw [ho]; exact h.toq hdr _ (ha.put hd v) (by rw [put_defers]; exact hD)⟩
  rw [if_pos (ha.wanted hw)]
  refine ⟨about_true rfl, ?_⟩
  rw [Oper.semAt_eq _ _ _ hnd, hv a w ha hS]
  refine ⟨fun hx => (by cases hx), callsIn_FW (Calls.mono (hc w hS) ?_)⟩
  rintro e w' ⟨u, own', rfl, hI', rfl⟩
  exact hK w' hI'.below
/-- A call of a function that the text names. -/
theorem SXL.callF {f : FuncId} {xs : List Operand} {ats : Array TypeId} {args : List Value} (R : Value → Own → Prop) (hf : fnOk C.P f = true) (hx : evl env xs = some args)
    (hc : ∀ w, Inv C.w0 own w → CallsR C.P f args w R)
    (h : ∀ v own', R v own' → SXL C ops rest Q ⟨(d, v) :: env, own ++ own', D⟩) (hd : Nat.blt d C.n = true := by rfl) (hw : Wanted ops g env = some true := by rfl) (hdr : C.dr = false := by rfl) :
    SXL C ops ({ dst := some d, op := .call { callee := .value (.func f), args := ⟨xs⟩, argTypes := ats }, type := ty, pos, after := aft, guard := g } :: rest) Q ⟨env, own, D⟩ :=
  SXL.callOf rfl hd hw (fun _ e => by cases e) (fun a w ha hI => by
    rw [execOp_call_go]
    have := evl_map ha hx
    simp only [List.map_toArray, this]
    simpa using run_callFunc hf) hc h hdr
/-- A call that hands back one value, and of whose blocks nothing is wanted. -/
theorem SXL.call1 {f : FuncId} {xs : List Operand} {ats : Array TypeId} {args : List Value} (v : Value) (hf : fnOk C.P f = true) (hx : evl env xs = some args)
    (hc : ∀ w, Inv C.w0 own w → CallsR C.P f args w fun u _ => u = v)
    (h : SXL C ops rest Q ⟨(d, v) :: env, own, D⟩) (hd : Nat.blt d C.n = true := by rfl) (hw : Wanted ops g env = some true := by rfl) :
    SXL C ops ({ dst := some d, op := .call { callee := .value (.func f), args := ⟨xs⟩, argTypes := ats }, type := ty, pos, after := aft, guard := g } :: rest) Q ⟨env, own, D⟩ :=
  SXL.callOf1 rfl hd hw (fun _ e => by cases e) (fun a w ha hI => by
    rw [execOp_call_go]
    have := evl_map ha hx
    simp only [List.map_toArray, this]
    simpa using run_callFunc hf) hc h
theorem SXL.call1V {f : FuncId} {xs : List Operand} {ats : Array TypeId} {args first captured : List Value} (v : Value) (hf : fnOk C.P f = true)
    (hy : ev env y = some (.func (.func f) ⟨first⟩ ⟨captured⟩)) (hx : evl env xs = some args)
    (hc : ∀ w, Inv C.w0 own w → CallsR C.P f (first ++ args ++ captured) w fun u _ => u = v)
    (h : SXL C ops rest Q ⟨(d, v) :: env, own, D⟩) (hd : Nat.blt d C.n = true := by rfl) (hw : Wanted ops g env = some true := by rfl) :
    SXL C ops ({ dst := some d, op := .call { callee := .value y, args := ⟨xs⟩, argTypes := ats }, type := ty, pos, after := aft, guard := g } :: rest) Q ⟨env, own, D⟩ :=
  SXL.callOf1 rfl hd hw (fun _ e => by cases e) (fun a w ha hI => by
    have h1 := evl_map ha hx
    simp [execOp, resolve, Deferred.ofValue, ha.eval hy, h1, invoke, run_callFunc hf]) hc h
end

/-! ### a function's entry and its end -/
/-- The arguments as the first slots. -/
def envOf : List Value → Nat → Env
  | [], _ => []
  | v :: r, i => (i, v) :: envOf r (i + 1)
theorem get_envOf : ∀ {args : List Value} {i t : Nat} {v : Value}, get (envOf args i) t = some v → i ≤ t ∧ args[t - i]? = some v
  | [], _, _, _, h => by simp [envOf, get] at h
  | u :: r, i, t, v, h => by
    simp only [envOf, get] at h
    cases hit : Nat.beq i t <;> rw [hit] at h
    · have := get_envOf (args := r) (by simpa using h)
      obtain ⟨h1, h2⟩ := this
      refine ⟨by omega, ?_⟩
      rw [show t - i = (t - (i + 1)) + 1 by omega]
      simpa using h2
    · have := Nat.eq_of_beq_eq_true hit
      subst this
      simpa using h
def resSem (tmps : Array Value) : ResultVar → Sem Value
  | .tmp t => pure (tmps.getD t undef)
  | .cell a t => do loadVar t (← asAddr (tmps.getD a undef))
/-- What a result is. -/
def ResAt (C : Cx) (s : St) (r : ResultVar) (v : Value) : Prop := ∀ a w, Conc C.n C.w0 s a w → (resSem a.tmps r).run C.P w = .ok v w
theorem ResAt.tmp {C : Cx} {s : St} {t : Tmp} {v : Value} (h : get s.env t = some v) : ResAt C s (.tmp t) v := fun a w hc => by
  have := hc.1.2 t v h
  simp [resSem, this]
theorem ResAt.cell1 {C : Cx} {s : St} {t : Tmp} {T : TypeId} {v : Value} {b off : Nat} (hT : shapeT C.P T = some none) (h : get s.env t = some (.pointer (some ⟨b, off, none⟩))) (hm : Mem C.w0 s.own b off [v]) : ResAt C s (.cell t T) v := fun a w hc => by
  have h1 := hc.1.2 t _ h
  have h2 := run_loadAt1 hT (hm w hc.2.2 0 v rfl)
  simp [Instr.loadAt, Instr.sureAddr] at h2
  simp [resSem, h1, asAddr, h2]
theorem ResAt.cellN {C : Cx} {s : St} {t : Tmp} {T : TypeId} {vs : List Value} {b off k : Nat} (hT : shapeT C.P T = some (some k)) (h : get s.env t = some (.pointer (some ⟨b, off, none⟩))) (hm : Mem C.w0 s.own b off vs) (hk : vs.length = k) :
    ResAt C s (.cell t T) (.agg ⟨vs⟩) := fun a w hc => by
  have h1 := hc.1.2 t _ h
  have h2 := run_loadAtN hT hk (hm w hc.2.2)
  simp [Instr.loadAt, Instr.sureAddr] at h2
  simp [resSem, h1, asAddr, h2]
/-- .. out of a block of the call's own. -/
theorem ResAt.cellNo {C : Cx} {env : Env} {own : Own} {D : List Deferred} {t : Tmp} {T : TypeId} {vs l : List Value} {b off k : Nat} {E : TypeId} {fz : Nat × Nat} (i : Nat) (hT : shapeT C.P T = some (some k)) (h : get env t = some (.pointer (some ⟨b, off, none⟩)))
    (hi : own[i]? = some (b, .cells ⟨l⟩ E fz)) (hl : takeAt l off k = some vs) : ResAt C ⟨env, own, D⟩ (.cell t T) (.agg ⟨vs⟩) :=
  ResAt.cellN hT h (Mem.own hi hl) (takeAt_spec hl).1
theorem ResAt.cell1o {C : Cx} {env : Env} {own : Own} {D : List Deferred} {t : Tmp} {T : TypeId} {v : Value} {l : List Value} {b off : Nat} {E : TypeId} {fz : Nat × Nat} (i : Nat) (hT : shapeT C.P T = some none) (h : get env t = some (.pointer (some ⟨b, off, none⟩)))
    (hi : own[i]? = some (b, .cells ⟨l⟩ E fz)) (hl : l[off]? = some v) : ResAt C ⟨env, own, D⟩ (.cell t T) v :=
  ResAt.cell1 hT h (Mem.own hi (takeAt_one hl))
def ResAll (C : Cx) (s : St) : List ResultVar → List Value → Prop
  | [], [] => True
  | r :: rs, v :: vs => ResAt C s r v ∧ ResAll C s rs vs
  | _, _ => False
def valOf : List Value → Value
  | [v] => v
  | vs => .tuple ⟨vs⟩
theorem run_results {C : Cx} {s : St} {a : Act} {w : World} (hc : Conc C.n C.w0 s a w) : ∀ {rs : List ResultVar} {vs : List Value}, ResAll C s rs vs → (rs.mapM (resSem a.tmps)).run C.P w = .ok vs w
  | [], [], _ => by simp
  | r :: rs, v :: vs, h => by
    have h1 := h.1 a w hc
    have h2 := run_results hc h.2
    simp [List.mapM_cons, h1, h2, Result.andThen]
  | [], _ :: _, h => h.elim
  | _ :: _, [], h => h.elim
/-- The marks that ranges over functions leave among the deferred calls: at the end each closes its block. -/
inductive Unmark : List Deferred → Own → Own → Prop
  | nil (own : Own) : Unmark [] own own
  | cons {r : Nat} {ds : List Deferred} {own own' : Own} (i : Nat) (hi : own[i]? = some (r, .deferred (some []))) (h : Unmark ds (own.set i (r, .deferred none)) own') : Unmark ({ target := .collected r, args := #[] } :: ds) own own'
theorem Inv.putObj {w0 w : World} {own : Own} (h : Inv w0 own w) {i b : Nat} {o o' : Obj} (hi : own[i]? = some (b, o)) (hl : live (b, o) = true) : Inv w0 (own.set i (b, o')) (w.putObj b o') :=
  have hlt : b < w.heap.size := h.lt (List.mem_of_getElem? hi) hl
  h.set hi hl (fun _ hk => World.putObj_heap_other hk) (World.putObj_heap_same hlt) World.putObj_size rfl rfl rfl
theorem leaves_unmark {P : Program} {F : Fence} {n : Nat} {fn : Func} {tmps : Array Value} {R : Ending → World → Prop} {w0 : World} {ds : List Deferred} {own own' : Own} (h : Unmark ds own own') :
    ∀ {w : World}, Inv w0 own w → (∀ w', Inv w0 own' w' → ∃ v, (results fn tmps).run P w' = .ok v w' ∧ R (.returned v) w') → LeavesInM F n P fn tmps R ds .returning w := by
  induction h with
  | nil own => exact fun hI hR => hR _ hI
  | cons i hi _ ih =>
    intro w hI hR
    have hb := (hI.get hi rfl).2
    exact ⟨by simp, .inl ⟨_, _, rfl, run_takeDeferred hb, ih (hI.putObj hi rfl) hR⟩⟩
/-- What is asked at a function's end. -/
def retQ (C : Cx) (rs : List ResultVar) (R : Value → Own → Prop) : Post
  | .ret, s | .normal, s => ∃ own0, Unmark s.D s.own own0 ∧ ∃ vs, ResAll C ⟨s.env, own0, []⟩ rs vs ∧ ∃ own', Sel own' own0 ∧ R (valOf vs) own'
  | _, _ => False
def keepL : List Bool → Own → Own
  | true :: m, x :: l => x :: keepL m l
  | false :: m, _ :: l => keepL m l
  | _, _ => []
theorem Calls.of_SX {P : Program} {f n : Nat} {fn : Func} {c : Code} {args : List Value} {w0 w : World} {own : Own} {rs : List ResultVar} {R : Value → Own → Prop} (hI : Inv w0 own w) (hf : P.funcs[f]? = some fn) (hb : fn.body = some c) (hn : fn.ntmps = n)
    (hr : fn.results.toList = rs) (hl : Nat.ble args.length n = true) (h : SX ⟨P, none, n, w0, false⟩ c (retQ ⟨P, none, n, w0, false⟩ rs R) ⟨envOf args 0, own, []⟩) : Calls P f ⟨args⟩ w fun e w' => ∃ v own', e = .returned v ∧ Inv w0 own' w' ∧ R v own' := by
  refine (callsIn_wide (n := 0)).1 (callsIn_of_wp_marks hf hb trivial (wpIn_mono (h _ w ⟨⟨?_, ?_⟩, rfl, hI⟩) ?_))
  · have : args.length ≤ n := Nat.ble_eq ▸ hl
    simp [hn]; omega
  · intro t v ht
    obtain ⟨_, h2⟩ := get_envOf ht
    simp only [Nat.sub_zero] at h2
    have hlt := (List.getElem?_eq_some_iff.1 h2).1
    rw [Array.getElem?_append_left (by simpa using hlt)]
    simpa using h2
  · rintro e a w' ⟨s, hc, hq⟩
    have key : (∃ own0, Unmark s.D s.own own0 ∧ ∃ vs, ResAll ⟨P, none, n, w0, false⟩ ⟨s.env, own0, []⟩ rs vs ∧ ∃ own', Sel own' own0 ∧ R (valOf vs) own') → LeavesInM (FW none) 0 P fn a.tmps (fun e w' => ∃ v own', e = .returned v ∧ Inv w0 own' w' ∧ R v own') a.defers .returning w' := by
      rintro ⟨own0, hum, vs, hrs, own', hsel, hR⟩
      rw [hc.2.1]
      refine leaves_unmark hum hc.2.2 fun w2 hI2 => ⟨valOf vs, ?_, valOf vs, own', rfl, hsel _ _ hI2, hR⟩
      have h1 := run_results (C := ⟨P, none, n, w0, false⟩) (s := ⟨s.env, own0, []⟩) (a := { a with defers := [] }) (w := w2) ⟨hc.1, rfl, hI2⟩ hrs
      have e1 : results fn a.tmps = (do let vs ← fn.results.mapM (resSem a.tmps); pure (if h : vs.size = 1 then vs[0] else .tuple vs) : Sem Value) := by
        unfold results
        congr 1
      rw [e1, Array.mapM_eq_mapM_toList, hr]
      cases vs with
      | nil => simp [h1, valOf, Result.andThen]
      | cons v vs =>
        cases vs with
        | nil => simp [h1, valOf, Result.andThen]
        | cons u us => simp [h1, valOf, Result.andThen]
    cases e <;> first | exact key hq | exact hq.elim
theorem CallsR.of_SX {P : Program} {f n : Nat} {fn : Func} {c : Code} {args : List Value} {w : World} {rs : List ResultVar} {R : Value → Own → Prop} (hf : P.funcs[f]? = some fn) (hb : fn.body = some c) (hn : fn.ntmps = n)
    (hr : fn.results.toList = rs) (hl : Nat.ble args.length n = true) (h : SX ⟨P, none, n, w, false⟩ c (retQ ⟨P, none, n, w, false⟩ rs R) ⟨envOf args 0, [], []⟩) : CallsR P f args w R :=
  Calls.of_SX (Inv.start w) hf hb hn hr hl h
theorem retQ.one {C : Cx} {env : Env} {own : Own} {r : ResultVar} {v : Value} {R : Value → Own → Prop} (h : ResAt C ⟨env, own, []⟩ r v) (hR : R v own) : retQ C [r] R .ret ⟨env, own, []⟩ :=
  ⟨own, .nil _, [v], ⟨h, trivial⟩, own, fun _ _ h => h, hR⟩
theorem retQ.two {C : Cx} {env : Env} {own : Own} {r1 r2 : ResultVar} {v1 v2 : Value} {R : Value → Own → Prop} (h1 : ResAt C ⟨env, own, []⟩ r1 v1) (h2 : ResAt C ⟨env, own, []⟩ r2 v2) (hR : R (.tuple ⟨[v1, v2]⟩) own) : retQ C [r1, r2] R .ret ⟨env, own, []⟩ :=
  ⟨own, .nil _, [v1, v2], ⟨h1, h2, trivial⟩, own, fun _ _ h => h, hR⟩
theorem retQ.three {C : Cx} {env : Env} {own : Own} {r1 r2 r3 : ResultVar} {v1 v2 v3 : Value} {R : Value → Own → Prop} (h1 : ResAt C ⟨env, own, []⟩ r1 v1) (h2 : ResAt C ⟨env, own, []⟩ r2 v2) (h3 : ResAt C ⟨env, own, []⟩ r3 v3) (hR : R (.tuple ⟨[v1, v2, v3]⟩) own) : retQ C [r1, r2, r3] R .ret ⟨env, own, []⟩ :=
  ⟨own, .nil _, [v1, v2, v3], ⟨h1, h2, h3, trivial⟩, own, fun _ _ h => h, hR⟩
theorem retQ.zero {C : Cx} {env : Env} {own : Own} {R : Value → Own → Prop} (hR : R (.tuple ⟨[]⟩) own) : retQ C [] R .ret ⟨env, own, []⟩ := ⟨own, .nil _, [], trivial, own, fun _ _ h => h, hR⟩
/-- A mark among the deferred calls. -/
theorem retQ.unmark {C : Cx} {rs : List ResultVar} {R : Value → Own → Prop} {env : Env} {own : Own} {r : Nat} {ds : List Deferred} (i : Nat) (hi : own[i]? = some (r, .deferred (some []))) (h : retQ C rs R .ret ⟨env, own.set i (r, .deferred none), ds⟩) : retQ C rs R .ret ⟨env, own, { target := .collected r, args := #[] } :: ds⟩ := by
  obtain ⟨own0, h1, h2⟩ := h
  exact ⟨own0, .cons i hi h1, h2⟩
end Go.X

/- The calculus' rules: loops and cuts in the form that the generator prints. Nothing of the program stands here. -/
namespace Go.X
open Go Go.RowKit

def selE (env : Env) : List Nat → Option Env
  | [] => some []
  | t :: ts => match get env t, selE env ts with
    | some v, some r => some ((t, v) :: r)
    | _, _ => none
theorem selE_le {env : Env} : ∀ {ts : List Nat} {K : Env}, selE env ts = some K → EnvLe K env
  | [], K, h => by simp [selE] at h; subst h; trivial
  | t :: ts, K, h => by
    simp only [selE] at h
    split at h
    · rename_i v r hv hr
      simp at h
      subst h
      exact ⟨hv, selE_le hr⟩
    · cases h
def setAll : Own → List (Nat × (Nat × Obj)) → Own
  | o, [] => o
  | o, (i, p) :: r => setAll (o.set i p) r
theorem EnvLe.append {a b e : Env} (h : EnvLe a e) (k : EnvLe b e) : EnvLe (a ++ b) e := by
  induction a with
  | nil => exact k
  | cons p r ih => obtain ⟨t, v⟩ := p; exact ⟨h.1, ih h.2⟩
theorem segQ.mk {env : Env} {own : Own} {D : List Deferred} {what : Env → Prop} {s : St} (h1 : EnvSub env s.env) (h2 : s.own = own) (h3 : s.D = D) (h4 : what s.env) : segQ env own D what .normal s := ⟨h1, h2, h3, h4⟩

section
variable {C : Cx} {Q : Post} {env : Env} {own : Own} {D : List Deferred} {α : Type}

/-- What stands at a head: the slots that are named anew, those that are kept, the blocks of which some are turned. -/
def At (K : Env) (E : α → Env) (own0 : Own) (U : α → List (Nat × (Nat × Obj))) (D : List Deferred) (x : α) : St := ⟨E x ++ K, setAll own0 (U x), D⟩
def Meets (K : Env) (E : α → Env) (own0 : Own) (U : α → List (Nat × (Nat × Obj))) (D : List Deferred) (x : α) (s : St) : Prop :=
  EnvLe (E x) s.env ∧ EnvLe K s.env ∧ Sel (setAll own0 (U x)) s.own ∧ s.D = D
theorem Meets.le {K : Env} {E : α → Env} {own0 : Own} {U : α → List (Nat × (Nat × Obj))} {x : α} {s : St} (h : Meets K E own0 U D x s) : Le (At K E own0 U D x) s := by
  obtain ⟨h1, h2, h3, h4⟩ := h
  exact ⟨(h1.append h2).sub, h3, h4.symm⟩
theorem Meets.mk {K : Env} {E : α → Env} {own0 : Own} {U : α → List (Nat × (Nat × Obj))} {x : α} {env' : Env} {own' : Own} (t : Own) (h1 : EnvLe (E x) env') (h2 : EnvLe K env') (h3 : setAll own0 (U x) ++ t = own') : Meets K E own0 U D x ⟨env', own', D⟩ :=
  ⟨h1, h2, h3 ▸ Sel.pre _ t, rfl⟩
/-- .. where blocks have changed their places. -/
theorem Meets.mkS {K : Env} {E : α → Env} {own0 : Own} {U : α → List (Nat × (Nat × Obj))} {x : α} {env' : Env} {own' : Own} (is : List Nat) (h1 : EnvLe (E x) env') (h2 : EnvLe K env') (h3 : selI own' is = some (setAll own0 (U x))) (h4 : distinct is = true := by rfl) : Meets K E own0 U D x ⟨env', own', D⟩ :=
  ⟨h1, h2, Sel.of is h3 h4, rfl⟩
/-- A loop. -/
theorem SX.loopG {c : Code} (ks : List Nat) {K : Env} (hK : selE env ks = some K) (E : α → Env) (U : α → List (Nat × (Nat × Obj))) (F : α → Prop) (μ : α → Nat) (x0 : α) (hF0 : F x0)
    (hE : EnvLe (E x0) env) (hU : setAll own (U x0) = own)
    (round : ∀ x, F x → SX C c (thenQ (fun s' => ∃ x', Meets K E own U D x' s' ∧ F x' ∧ μ x' < μ x) Q) (At K E own U D x)) : SX C (.loop c) Q ⟨env, own, D⟩ :=
  SX.loop (At K E own U D) F μ x0 hF0 (Meets.le ⟨hE, selE_le hK, by rw [hU]; exact Sel.refl _, rfl⟩) fun x hx =>
    (round x hx).mono fun e s hq => by
      cases e
      case normal => obtain ⟨x', h1, h2, h3⟩ := hq; exact ⟨x', h1.le, h2, h3⟩
      all_goals exact hq
/-- The ways through 'x' meet again. -/
theorem SX.cutG {x y : Code} (ks : List Nat) {K : Env} (hK : selE env ks = some K) (E : α → Env) (U : α → List (Nat × (Nat × Obj))) (F : α → Prop)
    (h : SX C x (thenQ (fun s' => ∃ z, Meets K E own U D z s' ∧ F z) Q) ⟨env, own, D⟩)
    (h' : ∀ z, F z → SX C y Q (At K E own U D z)) : SX C (.seq x y) Q ⟨env, own, D⟩ :=
  (fun (_ : selE env ks = some K) => SX.cut (At K E own U D) F (h.mono fun e s hq => by
      cases e
      case normal => obtain ⟨x', h1, h2⟩ := hq; exact ⟨x', h1.le, h2⟩
      all_goals exact hq) h') hK
end
end Go.X

/- The calculus' rules: statements that leave their order open. Nothing of the program stands here. -/
namespace Go.X
open Go Go.RowKit

section
variable {C : Cx} {ops : Array Oper}

abbrev opAt (C : Cx) (ops : Array Oper) (i : Nat) (K : Act → World → Prop) (a : Act) (w : World) : Prop := wpOpIn (FW C.rd) 0 C.P ops (fun _ _ _ => False) i K a w

/-- No operation of the region is put off to the function's end, none chooses among channels. -/
def plainOps (ops : Array Oper) : Bool := ops.all fun o => match o.op with
  | .defer _ | .select .. => false
  | _ => true
theorem plainOps_spec (h : plainOps ops = true) {j : Nat} {o : Oper} (ho : ops[j]? = some o) : (∀ c, o.op ≠ .defer c) ∧ (∀ cs b, o.op ≠ .select cs b) := by
  unfold plainOps at h
  have := Array.all_eq_true'.1 h o (Array.mem_of_getElem? ho)
  constructor
  · intro c hc; rw [hc] at this; cases this
  · intro cs b hc; rw [hc] at this; cases this

/-- An operation apart from a slot does not care whether that slot is filled. -/
theorem opAt_put (hp : plainOps ops = true) {j : Nat} {oi oj : Oper} {v : Value} (hj : ops[j]? = some oj) (hap : oi.apart ops oj = true) {K : Act → World → Prop} {a : Act} {w : World}
    (hK : ∀ a' w', K a' w' → a'.defers = a.defers) (h : opAt C ops j K (a.put oi.dst v) w) :
    opAt C ops j (fun a' w' => (∃ u, a' = a.put oj.dst u) ∧ K (a'.put oi.dst v) w') a w := by
  obtain ⟨h1, h2, h3⟩ := Oper.apart_spec hap
  obtain ⟨hnd, hsj⟩ := plainOps_spec hp hj
  unfold opAt wpOpIn at *
  simp only [hj] at *
  rw [wanted_put oj a oi.dst v h1] at h
  split
  · rename_i hw
    simp only [hw, if_true] at h
    unfold Oper.wpIn at *
    refine ⟨about_true rfl, ?_⟩
    have h := h.2
    rw [Oper.semAt_eq _ _ _ hnd, execOp_put oj hsj a oi.dst v h1] at h
    rw [Oper.semAt_eq _ _ _ hnd]
    generalize (execOp a.eval oj).run C.P w = r at *
    cases r with
    | ok x w' =>
      cases x <;> simp only [Oper.uponIn] at h ⊢
      case value u => exact ⟨⟨u, rfl⟩, by rw [← Act.put_comm a v u h2]; exact h⟩
      case skip => exact ⟨⟨_, rfl⟩, by rw [← Act.put_comm a v undef h2]; exact h⟩
      case defer d =>
        have := hK _ _ h
        simp at this
      case enter f args =>
        refine ⟨h.1, CallsIn.mono h.2 fun e w'' he => ?_⟩
        cases e with
        | returned u => exact ⟨⟨u, rfl⟩, by rw [← Act.put_comm a v u h2]; exact he⟩
        | panicked c => exact he
        | outgrown => exact he
      case row row args => exact ⟨h.1, RowsIn.mono h.2 fun u w'' he => ⟨⟨u, rfl⟩, by rw [← Act.put_comm a v u h2]; exact he⟩⟩
      case round l f tmps assign body =>
        refine ⟨h.1, RoundIn.mono h.2 fun e w'' he => ?_⟩
        cases e with
        | returned u => exact ⟨⟨u, rfl⟩, by rw [← Act.put_comm a v u h2]; exact he⟩
        | panicked c => exact he
        | outgrown => exact he
    | halt x w' => cases x <;> simp only [Oper.uponIn] at h ⊢
  · rename_i hw
    simp only [hw] at h
    exact ⟨about_true rfl, ⟨_, rfl⟩, by rw [← Act.put_comm a v undef h2]; exact h.2⟩
theorem opAt_unput (hp : plainOps ops = true) {j : Nat} {oi oj : Oper} {v : Value} (hj : ops[j]? = some oj) (hap : oi.apart ops oj = true) {K : Act → World → Prop} {a : Act} {w : World}
    (h : opAt C ops j (fun a' w' => a'.defers = a.defers ∧ K (a'.put oi.dst v) w') a w) : opAt C ops j K (a.put oi.dst v) w := by
  obtain ⟨h1, h2, h3⟩ := Oper.apart_spec hap
  obtain ⟨hnd, hsj⟩ := plainOps_spec hp hj
  unfold opAt wpOpIn at *
  simp only [hj] at *
  rw [wanted_put oj a oi.dst v h1]
  split
  · rename_i hw
    simp only [hw, if_true] at h
    unfold Oper.wpIn at *
    refine ⟨about_true rfl, ?_⟩
    have h := h.2
    rw [Oper.semAt_eq _ _ _ hnd] at h
    rw [Oper.semAt_eq _ _ _ hnd, execOp_put oj hsj a oi.dst v h1]
    generalize (execOp a.eval oj).run C.P w = r at *
    cases r with
    | ok x w' =>
      cases x <;> simp only [Oper.uponIn] at h ⊢
      case value u => rw [Act.put_comm a v u h2]; exact h.2
      case skip => rw [Act.put_comm a v undef h2]; exact h.2
      case defer d =>
        have := h.1
        simp at this
      case enter f args =>
        refine ⟨h.1, CallsIn.mono h.2 fun e w'' he => ?_⟩
        cases e with
        | returned u => show K ((a.put oi.dst v).put oj.dst u) w''; rw [Act.put_comm a v u h2]; exact he.2
        | panicked c => exact he
        | outgrown => exact he
      case row row args => exact ⟨h.1, RowsIn.mono h.2 fun u w'' he => by rw [Act.put_comm a v u h2]; exact he.2⟩
      case round l f tmps assign body =>
        refine ⟨h.1, RoundIn.mono h.2 fun e w'' he => ?_⟩
        cases e with
        | returned u => show K ((a.put oi.dst v).put oj.dst u) w''; rw [Act.put_comm a v u h2]; exact he.2
        | panicked c => exact he
        | outgrown => exact he
    | halt x w' => cases x <;> simp only [Oper.uponIn] at h ⊢
  · rename_i hw
    simp only [hw] at h
    exact ⟨about_true rfl, by rw [Act.put_comm a v undef h2]; exact h.2.2⟩

/-- A class of worlds that is kept by whatever keeps all that there was. -/
def Ext (S : World → Prop) : Prop := ∀ w w', S w → Below w.heap.size w w' → S w'

/-- QOp, of the operation at a place. -/
theorem QOp.at {S : World → Prop} {i : Nat} {o : Oper} {a : Act} {v : Value} (hi : ops[i]? = some o) (h : QOp C ops S o a v) {w : World} (hw : S w) {K : Act → World → Prop}
    (hK : ∀ w', Below w.heap.size w w' → K (a.put o.dst v) w') : opAt C ops i K a w := by
  unfold opAt wpOpIn
  simp only [hi]
  exact h w hw K hK
theorem QOp.put (hp : plainOps ops = true) {S : World → Prop} {i : Nat} {oi oj : Oper} {a : Act} {v u : Value} (hi : ops[i]? = some oi) (hap : oj.apart ops oi = true) (h2 : ∀ d, oj.dst = some d → oi.dst ≠ some d) (h : QOp C ops S oi a v) :
    QOp C ops S oi (a.put oj.dst u) v := by
  intro w hw K hK
  have h' : opAt C ops i (fun a' w' => a'.defers = a.defers ∧ K (a'.put oj.dst u) w') a w := h.at hi hw fun w' hb => ⟨by simp, by rw [← Act.put_comm a u v h2]; exact hK w' hb⟩
  have := opAt_unput (v := u) hp hi hap h'
  unfold opAt wpOpIn at this
  simpa only [hi] using this
theorem apart_symm {x y : Oper} (h : x.apart ops y = true) : y.apart ops x = true := by
  obtain ⟨h1, h2, h3⟩ := Oper.apart_spec h
  unfold Oper.apart
  cases hx : x.dst <;> cases hy : y.dst <;> simp
  · exact h3 _ hy
  · exact h1 _ hx
  · exact ⟨⟨h3 _ hy, fun e => h2 _ hx (by rw [hy, e])⟩, h1 _ hx⟩

/-- Whatever order is picked for the first m operations; behind them the leaf. -/
def Apart (ops : Array Oper) (j i : Nat) : Prop := i ≠ j ∧ ∀ oj, ops[j]? = some oj → ∀ e ∈ oj.after, Region.binds .any e = true → e.on ≠ i
/-- T: in which worlds each operation is quiet; what comes before it keeps that. -/
def AnyX (C : Cx) (ops : Array Oper) (m : Nat) (D : List Deferred) (L : Array Bool → Act → World → Prop) : Nat → (Nat → World → Prop) → (World → Prop) → Array Bool → Act → Prop
  | 0, _, S, listed, a => ∀ w, S w → L listed a w
  | f + 1, T, S, listed, a => ∀ w, S w → Region.ready .any ops listed ≠ [] ∧ ∀ j ∈ Region.ready .any ops listed, j < m ∧
      opAt C ops j (fun a' w' => a'.defers = D ∧ ∃ (T' : Nat → World → Prop) (S' : World → Prop), Ext S' ∧ (∀ i, Apart ops j i → ∀ x, T' i x → T i x) ∧ (∀ i x, S' x → T' i x) ∧ S' w' ∧ AnyX C ops m D L f T' S' (listed.setIfInBounds j true) a') a w

theorem AnyX.sound {m g : Nat} {D : List Deferred} {L : Array Bool → Act → World → Prop} {Q : Exit → Act → World → Prop} (hL : ∀ listed a w, L listed a w → wpAnyIn (FW C.rd) 0 C.P .any ops Q g listed a w) :
    ∀ (f : Nat) (T : Nat → World → Prop) (S : World → Prop) (listed : Array Bool) (a : Act) (w : World), AnyX C ops m D L f T S listed a → S w → wpAnyIn (FW C.rd) 0 C.P .any ops Q (f + g) listed a w
  | 0, T, S, listed, a, w, h, hw => by rw [Nat.zero_add]; exact hL _ _ _ (h w hw)
  | f + 1, T, S, listed, a, w, h, hw => by
    rw [show f + 1 + g = (f + g) + 1 by omega]
    obtain ⟨h1, h2⟩ := h w hw
    refine ⟨fun h0 => absurd h0 h1, fun i hi => ?_⟩
    obtain ⟨_, h3⟩ := h2 i hi
    have mono : ∀ {Q1 Q2 : Exit → Act → World → Prop} {K : Act → World → Prop}, (∀ e a w, Q1 e a w → Q2 e a w) → wpOpIn (FW C.rd) 0 C.P ops Q1 i K a w → wpOpIn (FW C.rd) 0 C.P ops Q2 i K a w := by
      intro Q1 Q2 K hQ h
      unfold wpOpIn at *
      split
      · simpa [*] using h
      · rename_i o ho
        simp only [ho] at h
        split
        · rename_i hw'
          simp only [hw', if_true] at h
          unfold Oper.wpIn at *
          refine ⟨h.1, ?_⟩
          have h := h.2
          generalize (o.semAt (FW C.rd).round a.eval).run C.P w = r at *
          cases r with
          | ok x w' =>
            cases x <;> simp only [Oper.uponIn] at h ⊢ <;> try exact h
            case enter f args =>
              refine ⟨h.1, CallsIn.mono h.2 fun e w'' he => ?_⟩
              cases e with
              | returned u => exact he
              | panicked c => exact hQ _ _ _ he
              | outgrown => obtain ⟨a0, w0, hq⟩ := he; exact ⟨a0, w0, hQ _ _ _ hq⟩
            case round l f tmps assign body =>
              refine ⟨h.1, RoundIn.mono h.2 fun e w'' he => ?_⟩
              cases e with
              | returned u => exact he
              | panicked c => exact hQ _ _ _ he
              | outgrown => obtain ⟨a0, w0, hq⟩ := he; exact ⟨a0, w0, hQ _ _ _ hq⟩
          | halt x w' => cases x <;> simp only [Oper.uponIn] at h ⊢ <;> first | exact hQ _ _ _ h | exact h
        · rename_i hw'
          simp only [hw'] at h
          exact h
    refine mono (fun _ _ _ h => h.elim) (wpOpIn_mono (fun a' w' hh => ?_) h3)
    obtain ⟨_, T', S', _, _, _, hw', h4⟩ := hh
    exact AnyX.sound hL f T' S' _ a' w' h4 hw'

/-- **A quiet operation that may come up now may be taken first.** -/
theorem AnyX.first (hp : plainOps ops = true) {m i : Nat} {D : List Deferred} {L : Array Bool → Act → World → Prop} {oi : Oper} {v : Value} (hi : ops[i]? = some oi)
    (hwait : ∀ listed, HeadInv .any ops m listed → listed.getD i true = false → ∀ j ∈ Region.ready .any ops listed, j < m)
    (hdone : ∀ listed a w, L listed a w → ∀ j ∈ Region.ready .any ops listed, m ≤ j) :
    ∀ (f : Nat) (T : Nat → World → Prop) (S : World → Prop) (listed : Array Bool) (a : Act), HeadInv .any ops m listed → Ext S → (∀ i x, S x → T i x) → a.defers = D →
      (∀ j oj, ops[j]? = some oj → j ≠ i → listed.getD j true = false → (∀ e ∈ oj.after, Region.binds .any e = true → e.on ≠ i) → oi.apart ops oj = true) →
      i ∈ Region.ready .any ops listed → QOp C ops (T i) oi a v →
      AnyX C ops m D L f T S (listed.setIfInBounds i true) (a.put oi.dst v) → AnyX C ops m D L (f + 1) T S listed a := by
  intro f
  induction f with
  | zero =>
    intro T S listed a inv hE hST hD hfree hr hq H w hw
    have hun := (mem_ready.1 hr).1
    refine ⟨fun h => (by rw [h] at hr; cases hr), fun j hj => ?_⟩
    have hjm : j < m := hwait listed inv hun j hj
    refine ⟨hjm, ?_⟩
    by_cases hji : j = i
    · subst hji
      exact hq.at hi (hST _ _ hw) fun w' hb => ⟨by simp [hD], T, S, hE, fun _ _ _ h => h, hST, hE w w' hw hb, H⟩
    · have := hdone _ _ _ (H w hw) j (ready_mono hj hji)
      omega
  | succ f ih =>
    intro T S listed a inv hE hST hD hfree hr hq H w hw
    have hun := (mem_ready.1 hr).1
    refine ⟨fun h => (by rw [h] at hr; cases hr), fun j hj => ?_⟩
    have hjm : j < m := hwait listed inv hun j hj
    refine ⟨hjm, ?_⟩
    by_cases hji : j = i
    · subst hji
      exact hq.at hi (hST _ _ hw) fun w' hb => ⟨by simp [hD], T, S, hE, fun _ _ _ h => h, hST, hE w w' hw hb, H⟩
    · have h1 := ((H w hw).2 j (ready_mono hj hji)).2
      obtain ⟨hjun, oj, hoj, hall⟩ := mem_ready.1 hj
      have hnot : ∀ e ∈ oj.after, Region.binds .any e = true → e.on ≠ i := fun e he hb heq => by
        have h1 := hall e he hb
        rw [heq, getD_both hun] at h1
        cases h1
      have hap := hfree j oj hoj hji hjun hnot
      have h2 := opAt_put hp hoj hap (fun a' w' hh => by rw [hh.1, hD]) h1
      have hfree' : ∀ k ok, ops[k]? = some ok → k ≠ i → (listed.setIfInBounds j true).getD k true = false →
          (∀ e ∈ ok.after, Region.binds .any e = true → e.on ≠ i) → oi.apart ops ok = true := fun k ok hk hki hun' hno => by
        refine hfree k ok hk hki ?_ hno
        by_cases hjk : j = k
        · subst hjk; exact hjun
        · rw [getD_set_ne true hjk] at hun'; exact hun'
      refine wpOpIn_mono (fun a' w' hh => ?_) h2
      obtain ⟨⟨u, rfl⟩, hD', T', S', hE', hT', hST', hw', h4⟩ := hh
      have hap2 : Apart ops j i := ⟨fun e => hji e.symm, fun oj' ho' => by rw [hoj] at ho'; cases ho'; exact hnot⟩
      refine ⟨by simp [hD], T', S', hE', hT', hST', hw', ?_⟩
      refine ih T' S' (listed.setIfInBounds j true) (a.put oj.dst u) (inv.set hj hjm) hE' hST' (by simp [hD]) hfree' (ready_mono hr (Ne.symm hji)) ?_ ?_
      · have hap' := apart_symm hap
        exact QOp.put hp hi hap' (Oper.apart_spec hap').2.1 (fun w hw => hq w (hT' i hap2 w hw))
      · rw [Array.setIfInBounds_comm _ _ hji]
        exact h4

def drawOk (ops : Array Oper) (m : Nat) : Bool := plainOps ops && ((Region.sinkB .any ops m && Region.chainB .any ops m && Nat.blt m ops.size) || Nat.beq m ops.size)
def markFrom : Nat → Nat → Array Bool → Array Bool
  | _, 0, L => L
  | k, c + 1, L => markFrom (k + 1) c (L.setIfInBounds k true)
def chunkOk (ops : Array Oper) : Nat → Nat → Array Bool → Bool
  | _, 0, _ => true
  | k, c + 1, L => (Region.ready .any ops L).contains k && Region.free .any ops L k && chunkOk ops (k + 1) c (L.setIfInBounds k true)

theorem wpAnyIn_of_seq {F : Fence} {n : Nat} {P : Program} {md : Region.Mode} {Q' : Exit → Act → World → Prop} : ∀ (l : List Oper) (k : Nat) (listed : Array Bool) (a : Act) (w : World), (∀ j, l[j]? = ops[k + j]?) →
    Region.seqB md ops l.length k listed = true → wpListIn F n P ops Q' l a w → wpAnyIn F n P md ops Q' l.length listed a w
  | [], _, _, _, _, _, hB, h => ⟨by simpa [Region.seqB] using hB, h⟩
  | o :: l, k, listed, a, w, hl, hB, h => by
    have h0 : ops[k]? = some o := by simpa using (hl 0).symm
    simp only [List.length_cons, Region.seqB, Bool.and_eq_true, decide_eq_true_eq] at hB
    refine ⟨fun h1 => (by rw [hB.1] at h1; cases h1), fun i hi => ?_⟩
    rw [hB.1] at hi
    have hik : i = k := by simpa using hi
    subst hik
    have hw : wpOpIn F n P ops Q' i (wpListIn F n P ops Q' l) a w := by unfold wpOpIn; simp only [h0]; exact h
    exact wpOpIn_mono (fun a' w' h' => wpAnyIn_of_seq l (i + 1) _ a' w' (fun j => by have := hl (j + 1); simpa [Nat.add_assoc, Nat.add_comm 1 j] using this) hB.2 h') hw

/-- Behind the first m operations the others stand in one order. -/
def tailLeaf (C : Cx) (ops : Array Oper) (m : Nat) (Q : Post) (listed : Array Bool) (a : Act) (w : World) : Prop :=
  Region.seqB .any ops (ops.size - m) m listed = true ∧ wpListIn (FW C.rd) 0 C.P ops (lift C Q) (ops.toList.drop m) a w
/-- The blocks that no operation of the region changes while a 'late' one may come up still; a short mask keeps the rest. -/
def maskL : List Bool → Own → Own
  | [], l => l
  | true :: m, x :: l => x :: maskL m l
  | false :: m, _ :: l => maskL m l
  | _ :: _, [] => []
theorem maskL_sub : ∀ (m : List Bool) (l : Own), (maskL m l).Sublist l
  | [], l => .refl l
  | true :: m, x :: l => (maskL_sub m l).cons_cons x
  | false :: m, x :: l => (maskL_sub m l).cons x
  | _ :: _, [] => by simp [maskL]
theorem maskL_append : ∀ (m : List Bool) (l t : Own), ∃ t', maskL m (l ++ t) = maskL m l ++ t'
  | [], l, t => ⟨t, rfl⟩
  | true :: m, x :: l, t => by obtain ⟨t', h⟩ := maskL_append m l t; exact ⟨t', by simp [maskL, h]⟩
  | false :: m, x :: l, t => by obtain ⟨t', h⟩ := maskL_append m l t; exact ⟨t', by simp [maskL, h]⟩
  | b :: m, [], t => ⟨maskL (b :: m) t, by simp [maskL]⟩
/-- What is left open: which operations are late, and the mask. -/
structure Lt where
  late : List Nat := []
  mask : List Bool := []
def Lt.at (k : Lt) (i : Nat) : List Bool := bif k.late.contains i then k.mask else []
def Lt.T (k : Lt) (n : Nat) (w0 : World) (own : Own) (i : Nat) (w : World) : Prop := i < n → Inv w0 (maskL (k.at i) own) w
/-- Of the first m operations those that are not listed are still to come, in whatever order. -/
def SXA (C : Cx) (ops : Array Oper) (m : Nat) (Q : Post) (k : Lt) (f : Nat) (listed : Array Bool) (s : St) : Prop :=
  drawOk ops m = true → HeadInv .any ops m listed → ∀ a, Agree C.n s.env a → a.defers = s.D → AnyX C ops m s.D (tailLeaf C ops m Q) f (k.T ops.size C.w0 s.own) (Inv C.w0 s.own) listed a

theorem ext_inv (w0 : World) (own : Own) : Ext (Inv w0 own) := fun _ _ h hb => h.ext hb
theorem drawOk_spec {m : Nat} (h : drawOk ops m = true) : plainOps ops = true ∧ m ≤ ops.size ∧ ∀ i, i < m → ∀ listed, HeadInv .any ops m listed → listed.getD i true = false → ∀ j ∈ Region.ready .any ops listed, j < m := by
  unfold drawOk at h
  simp only [Bool.and_eq_true, Bool.or_eq_true] at h
  obtain ⟨h1, ⟨⟨hs, hc⟩, hm⟩ | hm⟩ := h
  · rw [Nat.blt_eq] at hm
    refine ⟨h1, by omega, fun i him listed inv hun j hj => ?_⟩
    rcases Nat.lt_or_ge j m with h | h
    · exact h
    · exact absurd hj (tail_waits hs hc hm inv _ i rfl him hun j h)
  · have hm := Nat.eq_of_beq_eq_true hm
    refine ⟨h1, by omega, fun i him listed inv hun j hj => ?_⟩
    obtain ⟨_, oj, hoj, _⟩ := mem_ready.1 hj
    rw [hm]
    exact (Array.getElem?_eq_some_iff.1 hoj).1
theorem tailLeaf_done {m : Nat} {Q : Post} : ∀ (listed : Array Bool) (a : Act) (w : World), tailLeaf C ops m Q listed a w → ∀ j ∈ Region.ready .any ops listed, m ≤ j :=
  fun _ _ _ h => seqB_ready h.1

variable {Q : Post} {m f : Nat} {listed : Array Bool} {s : St} {kt : Lt}
theorem Lt.le (k : Lt) (n : Nat) (w0 : World) (own : Own) (i : Nat) (w : World) (h : Inv w0 own w) : k.T n w0 own i w := fun _ => h.weaken (maskL_sub _ _)
theorem SX.draw {id : Nat} {l : List Oper} (m : Nat) (hm : C.P.follows .mixedOrders = true) (hB : drawOk l.toArray m = true) (kt : Lt := {})
    (h : SXA C l.toArray m Q kt m (Array.replicate l.toArray.size false) s) : SX C (.region id l.toArray true) Q s := by
  intro a w hc
  have inv0 : HeadInv .any l.toArray m (Array.replicate l.toArray.size false) :=
    ⟨by simp, fun j oj _ hl => (by rw [getD_replicate_false] at hl; cases hl), fun t _ ht => getD_in (by simpa using ht) (getD_replicate_false _ _)⟩
  have hI : Inv C.w0 s.own { w with drawn := w.drawn + 1 } := hc.2.2.ext ⟨rfl, rfl, rfl, Nat.le_refl _, fun _ _ => rfl⟩
  have hlt := (drawOk_spec hB).2.1
  refine wpIn_region_any hm ?_
  have := AnyX.sound (Q := lift C Q) (g := l.toArray.size - m) (fun listed' a' w' hL => ?_) m _ _ _ a _ (h hB inv0 a hc.1 hc.2.1) hI
  · rwa [show m + (l.toArray.size - m) = l.toArray.size by omega] at this
  · have h1 := wpAnyIn_of_seq (F := FW C.rd) (n := 0) (P := C.P) (md := .any) (Q' := lift C Q) (l.toArray.toList.drop m) m listed' a' w' (fun j => by simp [List.getElem?_drop]) (by
      rw [show (l.toArray.toList.drop m).length = l.toArray.size - m from by simp]; exact hL.1) hL.2
    rwa [show (l.toArray.toList.drop m).length = l.toArray.size - m from by simp] at h1

/-- All listed: the tail. -/
theorem SXA.done (hq : Region.seqB .any ops (ops.size - m) m listed = true) (h : SXL C ops (ops.toList.drop m) Q s) (hdr : C.dr = false := by rfl) : SXA C ops m Q kt 0 listed s :=
  fun _ _ a ha hD w hw => ⟨hq, h.ton hdr a w ⟨ha, hD, hw⟩⟩

def noneLate (late : List Nat) : Nat → Nat → Bool
  | _, 0 => true
  | k, c + 1 => !late.contains k && noneLate late (k + 1) c
/-- Quiet operations, late ones among them, taken first: they see what no operation changes. -/
theorem SXA.takeM (k c : Nat) {f' : Nat} (hf : f = f' + c) (hB : chunkOk ops k c listed = true) (hkm : Nat.ble (k + c) m = true)
    (h : SXL { C with dr := true } ops ((ops.toList.drop k).take c) (fun e s' => e = .normal ∧ s'.own = maskL kt.mask s.own ∧ s'.D = s.D ∧ SXA C ops m Q kt f' (markFrom k c listed) ⟨s'.env, s.own, s'.D⟩) ⟨s.env, maskL kt.mask s.own, s.D⟩) : SXA C ops m Q kt f listed s := by
  intro hok inv a ha hD
  obtain ⟨hp, hm, hwait⟩ := drawOk_spec hok
  have hq := h.toq rfl a ha hD
  have hkm' : k + c ≤ m := Nat.le_of_ble_eq_true hkm
  subst hf
  clear ha h
  induction c generalizing k listed a with
  | zero =>
    rw [List.take_zero] at hq
    obtain ⟨s', h1, h2, _, _, h4, h5, h6⟩ := hq
    have := h6 hok inv a h1 h2
    rw [← h5]
    exact this
  | succ c ih =>
    simp only [chunkOk, Bool.and_eq_true] at hB
    obtain ⟨⟨hr, hfr⟩, hB'⟩ := hB
    have hk : k < ops.toList.length := by rw [Array.length_toList]; omega
    have hk0 : ops[k]? = some ops.toList[k] := by rw [← Array.getElem?_toList]; exact List.getElem?_eq_getElem hk
    rw [List.drop_eq_getElem_cons hk, List.take_succ_cons] at hq
    obtain ⟨v, hv, hq⟩ := hq
    have hr' : k ∈ Region.ready .any ops listed := by simpa using hr
    refine AnyX.first hp hk0 (hwait k (by omega)) tailLeaf_done (f' + c) _ _ listed a inv (ext_inv _ _) (kt.le _ _ _) hD (Region.free_spec hk0 hfr) hr' (v := v) ?_ ?_
    · refine fun w hw => hv w ?_
      have hw := hw (by rw [← Array.length_toList]; exact hk)
      unfold Lt.at at hw
      cases hc : kt.late.contains k <;> rw [hc] at hw
      · exact Inv.weaken (own := s.own) hw (maskL_sub _ _)
      · exact hw
    · exact ih (k + 1) hB' (Nat.ble_eq_true_of_le (by omega)) (inv.set hr' (by omega)) (a.put _ v) (by rw [put_defers]; exact hD) hq (by omega)
/-- Quiet operations, none of them late, taken first. -/
theorem SXA.take (k c : Nat) {f' : Nat} (hf : f = f' + c) (hB : chunkOk ops k c listed = true) (hkm : Nat.ble (k + c) m = true)
    (h : SXL { C with dr := true } ops ((ops.toList.drop k).take c) (fun e s' => e = .normal ∧ s'.own = s.own ∧ s'.D = s.D ∧ SXA C ops m Q kt f' (markFrom k c listed) s') s) (hlate : noneLate kt.late k c = true := by rfl) : SXA C ops m Q kt f listed s := by
  intro hok inv a ha hD
  obtain ⟨hp, hm, hwait⟩ := drawOk_spec hok
  have hq := h.toq rfl a ha hD
  have hkm' : k + c ≤ m := Nat.le_of_ble_eq_true hkm
  subst hf
  clear ha h
  induction c generalizing k listed a with
  | zero =>
    rw [List.take_zero] at hq
    obtain ⟨s', h1, h2, _, _, h4, h5, h6⟩ := hq
    have := h6 hok inv a h1 h2
    rw [h4, h5] at this
    exact this
  | succ c ih =>
    simp only [chunkOk, Bool.and_eq_true] at hB
    obtain ⟨⟨hr, hfr⟩, hB'⟩ := hB
    simp only [noneLate, Bool.and_eq_true, Bool.not_eq_true'] at hlate
    have hk : k < ops.toList.length := by rw [Array.length_toList]; omega
    have hk0 : ops[k]? = some ops.toList[k] := by rw [← Array.getElem?_toList]; exact List.getElem?_eq_getElem hk
    rw [List.drop_eq_getElem_cons hk, List.take_succ_cons] at hq
    obtain ⟨v, hv, hq⟩ := hq
    have hr' : k ∈ Region.ready .any ops listed := by simpa using hr
    refine AnyX.first hp hk0 (hwait k (by omega)) tailLeaf_done (f' + c) _ _ listed a inv (ext_inv _ _) (kt.le _ _ _) hD (Region.free_spec hk0 hfr) hr' (v := v) ?_ ?_
    · refine fun w hw => hv w ?_
      have hw := hw (by rw [← Array.length_toList]; exact hk)
      unfold Lt.at at hw
      rw [hlate.1] at hw
      exact hw
    · exact ih (k + 1) hB' (Nat.ble_eq_true_of_le (by omega)) hlate.2 (inv.set hr' (by omega)) (a.put _ v) (by rw [put_defers]; exact hD) hq (by omega)

/-- All that is not surely before an operation is late. -/
def lateB (ops : Array Oper) (late : List Nat) (j : Nat) : Bool := match ops[j]? with
  | some oj => (List.range ops.size).all fun i => Nat.beq i j || late.contains i || oj.after.any fun e => Region.binds .any e && Nat.beq e.on i
  | none => false
theorem lateB_spec {late : List Nat} {j : Nat} (h : lateB ops late j = true) {i : Nat} (hi : i < ops.size) (ha : Apart ops j i) : late.contains i = true := by
  unfold lateB at h
  split at h
  · rename_i oj ho
    rw [List.all_eq_true] at h
    have h := h i (List.mem_range.2 hi)
    simp only [Bool.or_eq_true] at h
    rcases h with (h | h) | h
    · exact absurd (Nat.eq_of_beq_eq_true h) ha.1
    · exact h
    · obtain ⟨k, hk, hb⟩ := Array.any_iff_exists.1 h
      obtain ⟨_, _, hb⟩ := hb
      simp only [Bool.and_eq_true] at hb
      exact absurd (Nat.eq_of_beq_eq_true hb.2) (ha.2 oj ho _ (Array.getElem_mem _) hb.1)
  · cases h

/-- What is asked of an operation that is carried out next. -/
def stepQ (C : Cx) (ops : Array Oper) (m : Nat) (Q : Post) (k : Lt) (f : Nat) (listed : Array Bool) (i : Nat) (s : St) : Post
  | .normal, s' => ((∃ t, s'.own = s.own ++ t) ∨ (lateB ops k.late i = true ∧ ∃ t, maskL k.mask s'.own = maskL k.mask s.own ++ t)) ∧ s'.D = s.D ∧ SXA C ops m Q k f (listed.setIfInBounds i true) s'
  | _, _ => False
def AllStep (C : Cx) (ops : Array Oper) (m : Nat) (Q : Post) (k : Lt) (f : Nat) (listed : Array Bool) (s : St) : List Nat → Prop
  | [] => True
  | i :: rs => ((match ops[i]? with | some o => SXL C ops [o] (stepQ C ops m Q k f listed i s) s | none => False) ∧ Nat.blt i m = true) ∧ AllStep C ops m Q k f listed s rs
theorem AllStep.mem {rs : List Nat} (h : AllStep C ops m Q kt f listed s rs) {i : Nat} (hi : i ∈ rs) : (match ops[i]? with | some o => SXL C ops [o] (stepQ C ops m Q kt f listed i s) s | none => False) ∧ Nat.blt i m = true := by
  induction rs with
  | nil => cases hi
  | cons j rs ih =>
    rcases List.mem_cons.1 hi with rfl | hi
    · exact h.1
    · exact ih h.2 hi
/-- Whichever of the operations that may come up now comes. -/
theorem SXA.all (rs : List Nat) (hr : Region.ready .any ops listed = rs) (hne : rs.isEmpty = false) (h : AllStep C ops m Q kt f listed s rs) (hdr : C.dr = false := by rfl) : SXA C ops m Q kt (f + 1) listed s := by
  intro hok inv a ha hD w hw
  refine ⟨(by rw [hr]; intro e; rw [e] at hne; cases hne), fun i hi => ?_⟩
  have hi' := hi
  rw [hr] at hi'
  obtain ⟨h1, h2⟩ := h.mem hi'
  have him : i < m := by rwa [Nat.blt_eq] at h2
  refine ⟨him, ?_⟩
  cases ho : ops[i]? with
  | none => rw [ho] at h1; exact h1.elim
  | some o =>
    rw [ho] at h1
    have h3 := h1.ton hdr a w ⟨ha, hD, hw⟩
    have inv' := inv.set hi him
    unfold opAt wpOpIn
    simp only [ho]
    simp only [wpListIn] at h3
    have key : ∀ a' w', lift C (stepQ C ops m Q kt f listed i s) .normal a' w' → a'.defers = s.D ∧ ∃ (T' : Nat → World → Prop) (S' : World → Prop), Ext S' ∧ (∀ k, Apart ops i k → ∀ x, T' k x → kt.T ops.size C.w0 s.own k x) ∧ (∀ k x, S' x → T' k x) ∧ S' w' ∧ AnyX C ops m s.D (tailLeaf C ops m Q) f T' S' (listed.setIfInBounds i true) a' := by
      rintro a' w' ⟨s', hc', h4, h5, h6⟩
      refine ⟨by rw [hc'.2.1, h5], kt.T ops.size C.w0 s'.own, Inv C.w0 s'.own, ext_inv _ _, fun k hap x hx hk => ?_, fun k x hx => kt.le _ _ _ k x hx, hc'.2.2, ?_⟩
      · have hx := hx hk
        have hsub : ∃ t, maskL (kt.at k) s'.own = maskL (kt.at k) s.own ++ t := by
          rcases h4 with ⟨t, h4⟩ | ⟨hl, h4⟩
          · rw [h4]; exact maskL_append _ _ _
          · unfold Lt.at
            rw [lateB_spec hl hk hap]
            exact h4
        obtain ⟨t, ht⟩ := hsub
        rw [ht] at hx
        exact hx.weaken (List.sublist_append_left _ _)
      · have := h6 hok inv' a' hc'.1 hc'.2.1
        rwa [h5] at this
    split
    · rename_i hw'
      rw [if_pos hw'] at h3
      unfold Oper.wpIn at *
      refine ⟨h3.1, ?_⟩
      have h3 := h3.2
      generalize (o.semAt (FW C.rd).round a.eval).run C.P w = r at *
      cases r with
      | ok x w' =>
        cases x <;> simp only [Oper.uponIn] at h3 ⊢
        case value u => exact key _ _ h3
        case skip => exact key _ _ h3
        case defer d => exact key _ _ h3
        case enter f args =>
          refine ⟨h3.1, CallsIn.mono h3.2 fun e w'' he => ?_⟩
          cases e with
          | returned u => exact key _ _ he
          | panicked c => obtain ⟨s', _, hq⟩ := he; exact hq.elim
          | outgrown => obtain ⟨a0, w0, s', _, hq⟩ := he; exact hq.elim
        case row row args => exact ⟨h3.1, RowsIn.mono h3.2 fun u w'' he => key _ _ he⟩
        case round l f tmps assign body =>
          refine ⟨h3.1, RoundIn.mono h3.2 fun e w'' he => ?_⟩
          cases e with
          | returned u => exact key _ _ he
          | panicked c => obtain ⟨s', _, hq⟩ := he; exact hq.elim
          | outgrown => obtain ⟨a0, w0, s', _, hq⟩ := he; exact hq.elim
      | halt x w' =>
        cases x <;> simp only [Oper.uponIn] at h3 ⊢
        case panic u => obtain ⟨s', _, hq⟩ := h3; exact hq.elim
    · rename_i hw'
      rw [if_neg hw'] at h3
      exact ⟨about_true rfl, key _ _ h3.2⟩
theorem stepQ.mk {i : Nat} {s' : St} (t : Own) (h1 : s'.own = s.own ++ t) (h2 : s'.D = s.D) (h3 : SXA C ops m Q kt f (listed.setIfInBounds i true) s') : stepQ C ops m Q kt f listed i s .normal s' := ⟨.inl ⟨t, h1⟩, h2, h3⟩
/-- .. that changes a block: what is late does not look at it. -/
theorem stepQ.mkL {i : Nat} {s' : St} (t : Own) (hl : lateB ops kt.late i = true) (h1 : maskL kt.mask s'.own = maskL kt.mask s.own ++ t) (h2 : s'.D = s.D) (h3 : SXA C ops m Q kt f (listed.setIfInBounds i true) s') : stepQ C ops m Q kt f listed i s .normal s' := ⟨.inr ⟨hl, t, h1⟩, h2, h3⟩
/-- The ways through different orders meet at one state. -/
theorem SXA.le {s' : St} (hk : kt.mask = []) (he : EnvSub s'.env s.env) (ho : s'.own.Perm s.own) (hD : s'.D = s.D) (h : SXA C ops m Q kt f listed s') : SXA C ops m Q kt f listed s := by
  intro hok inv a ha hDa
  have e : Inv C.w0 s.own = Inv C.w0 s'.own := by funext w; exact propext ⟨fun h => h.perm ho, fun h => h.perm ho.symm⟩
  have e2 : kt.T ops.size C.w0 s.own = kt.T ops.size C.w0 s'.own := by
    funext i w
    unfold Lt.T Lt.at
    rw [hk]
    cases kt.late.contains i <;> simp only [cond_true, cond_false, maskL] <;> rw [e]
  rw [e, e2, ← hD]
  exact h hok inv a (ha.sub he) (by rw [hDa, hD])
end
end Go.X

/- Data in memory: rows of cells behind a slice; arrays of whole numbers. Nothing of the program stands here. -/
namespace Go.X
open Go Go.RowKit

/-- The elements of a slice, k cells each. -/
def RowsAt (w : World) (ao : Option Addr) (k : Nat) (rows : List (List Value)) : Prop :=
  rows = [] ∨ ∃ b o, ao = some ⟨b, o, none⟩ ∧ ∀ i r, rows[i]? = some r → ∀ j u, r[j]? = some u → w.cell? ⟨b, o + i * k + j, none⟩ = some u
theorem RowsAt.nil (w : World) (ao : Option Addr) (k : Nat) : RowsAt w ao k [] := .inl rfl
theorem RowsAt.get {w : World} {ao : Option Addr} {k : Nat} {rows : List (List Value)} (h : RowsAt w ao k rows) {i : Nat} {r : List Value} (hi : rows[i]? = some r) :
    ∃ b o, ao = some ⟨b, o, none⟩ ∧ ∀ own, Mem w own b (o + i * k) r := by
  rcases h with rfl | ⟨b, o, h1, h2⟩
  · simp at hi
  · exact ⟨b, o, h1, fun own => Mem.out fun j v hj => h2 i r hi j v hj⟩
theorem cell_lt {w : World} {a : Addr} {v : Value} (h : w.cell? a = some v) : a.block < w.heap.size := by
  unfold World.cell? at h
  split at h
  · rename_i hx; exact (Array.getElem?_eq_some_iff.1 hx).1
  · cases h
/-- What is read is read still, as long as all that there was is kept. -/
theorem RowsAt.inv {w0 w : World} {own : Own} {ao : Option Addr} {k : Nat} {rows : List (List Value)} (h : RowsAt w0 ao k rows) (hI : Inv w0 own w) : RowsAt w ao k rows := by
  rcases h with rfl | ⟨b, o, h1, h2⟩
  · exact .inl rfl
  · exact .inr ⟨b, o, h1, fun i r hi j u hj => by
      have hc := h2 i r hi j u hj
      rw [hI.below.cell (p := ⟨b, o + i * k + j, none⟩) (cell_lt hc)]; exact hc⟩
/-- .. and out of a block of the call's own. -/
theorem RowsAt.ofOwn {w0 w : World} {own : Own} (hI : Inv w0 own w) {i b k : Nat} {l : List Value} {E : TypeId} {fz : Nat × Nat} {rows : List (List Value)} (hi : own[i]? = some (b, .cells ⟨l⟩ E fz))
    (hr : ∀ i r, rows[i]? = some r → ∀ j u, r[j]? = some u → l[i * k + j]? = some u) : RowsAt w (some ⟨b, 0, none⟩) k rows :=
  .inr ⟨b, 0, rfl, fun n r hn j u hj => by
    have := hr n r hn j u hj
    simp [World.cell?, (hI.get hi (live_of_get this)).2, this]⟩

/-- A slice of numbers as rows of one cell. -/
def ones (l : List Int) : List (List Value) := l.map fun x => [Value.int .i64 x]
@[simp] theorem length_ones (l : List Int) : (ones l).length = l.length := by simp [ones]
abbrev G (L : List Int) (i : Nat) : Int := L.getD i 0
def ints (l : List Int) : List Value := l.map (Value.int .i64)
@[simp] theorem length_ints (l : List Int) : (ints l).length = l.length := by simp [ints]
theorem intsAtX {l : List Int} {off i : Nat} (h : off = i) (hi : i < l.length) : (ints l)[off]? = some (.int .i64 (G l i)) := by subst h; simp [ints, hi]
theorem ints_put {l : List Int} {off i : Nat} {x : Int} (h : off = i) (hi : i < l.length) : putAt (ints l) off [.int .i64 x] = some (ints (l.set i x)) := by
  subst h
  rw [putAt_one _ (by simpa using hi)]
  simp [ints, List.map_set]
theorem ints_put2 {l : List Int} {off i : Nat} {x y : Int} (h : off = i) (hi : i + 1 < l.length) : putAt (ints l) off [.int .i64 x, .int .i64 y] = some (ints ((l.set i x).set (i + 1) y)) := by
  subst h
  rw [putAt_two _ _ (by simpa using hi)]
  simp [ints, List.map_set]
theorem ints_take2 {l : List Int} {off i : Nat} (h : off = i) (hi : i + 1 < l.length) : takeAt (ints l) off 2 = some [.int .i64 (G l i), .int .i64 (G l (i + 1))] :=
  takeAt_two (intsAtX h (by omega)) (intsAtX (by omega) hi)
theorem ints_isOne (l : List Int) : (ints l).all isOne = true := by simp [ints, isOne]
theorem takeAt_all : ∀ (l : List Value), takeAt l 0 l.length = some l := by
  have h : ∀ (l p : List Value), takeAt (p ++ l) p.length l.length = some l := by
    intro l
    induction l with
    | nil => intro p; simp [takeAt]
    | cons x l ih =>
      intro p
      have h1 := ih (p ++ [x])
      simp only [List.append_assoc, List.singleton_append, List.length_append, List.length_singleton] at h1
      simp only [List.length_cons, takeAt]
      rw [h1]
      simp
  intro l
  simpa using h l []
theorem takeAt_full {l : List Value} {k : Nat} (h : l.length = k) : takeAt l 0 k = some l := by subst h; exact takeAt_all l
theorem putAt_all : ∀ (l l' : List Value), l'.length = l.length → putAt l 0 l' = some l'
  | [], l', h => by
    have : l' = [] := List.eq_nil_of_length_eq_zero h
    subst this; rfl
  | x :: l, [], h => by simp at h
  | x :: l, y :: l', h => by simp [putAt, putAt_all l l' (by simpa using h)]

section
variable {C : Cx} {Q : Post} {env : Env} {own : Own} {D : List Deferred} {ops : Array Oper} {rest : List Oper}
variable {d : Nat} {ty : TypeId} {pos : String} {aft : Array Edge} {g : Option (Nat × Bool)} {x y : Operand} {T T' : TypeId}
/-- The address of an element, of a slice of which it is known where it lies. -/
theorem SXL.indexR {ao : Option Addr} {b off n c s : Nat} {k : IntKind} {i : Int} (he : elemP C.P T = some (none, s)) (hx : ev env x = some (.slice ao n c)) (hy : ev env y = some (.int k i)) (ha : ao = some ⟨b, off, none⟩) (hb : 0 ≤ i ∧ i < n)
    (h : SXL C ops rest Q ⟨(d, .pointer (some ⟨b, off + i.toNat * s, none⟩)) :: env, own, D⟩) (hd : Nat.blt d C.n = true := by rfl) (hw : Wanted ops g env = some true := by rfl) :
    SXL C ops ({ dst := some d, op := .indexAddr T x y, type := ty, pos, after := aft, guard := g } :: rest) Q ⟨env, own, D⟩ := by
  subst ha
  exact SXL.indexS he hx hy hb h hd hw
end
end Go.X

/- Arguments as they come in: what a value that reads as data is made of; what is asked behind a call that hands back true. Nothing of the program stands here. -/
namespace Go.X
open Go Go.RowKit
/-- A cell: a number, a bool, a slice of rows. -/
inductive Ly where
  | i (k : IntKind)
  | b
  | s (e : List Ly)
def layFs (lay : TypeId → Option (List Ly)) (P : Program) : List Field → Nat → Option (List Ly)
  | [], _ => some []
  | f :: fs, off => bif Nat.beq f.offset off then (match lay f.type with
    | some l => bif Nat.beq l.length (P.cellsOf f.type) then (layFs lay P fs (off + l.length)).map (l ++ ·) else none
    | none => none) else none
def layP (P : Program) : Nat → TypeId → Option (List Ly)
  | 0, _ => none
  | n + 1, t => match P.underlying t with
    | some (.int k) => some [.i k]
    | some .bool => some [.b]
    | some (.slice e) => (match layP P n e with
      | some l => bif Nat.beq l.length (P.cellsOf e) && Nat.ble 1 l.length then some [.s l] else none
      | none => none)
    | some (.struct fs) => (match layFs (layP P n) P fs.toList 0 with
      | some l => bif Nat.beq l.length (P.cellsOf t) then some l else none
      | none => none)
    | _ => none
def FitY (w : World) (fits : List Ly → List Value → Prop) : Ly → Value → Prop
  | .i k, v => ∃ x, v = .int k x ∧ k.min ≤ x ∧ x ≤ k.max
  | .b, v => ∃ b, v = .bool b
  | .s e, v => ∃ ao len cap rows, v = .slice ao len cap ∧ len ≤ cap ∧ cap ≤ maxLen ∧ rows.length = len ∧ RowsAt w ao e.length rows ∧ ∀ r ∈ rows, fits e r
def FitL (one : Ly → Value → Prop) : List Ly → List Value → Prop
  | [], [] => True
  | y :: ys, v :: vs => one y v ∧ FitL one ys vs
  | _, _ => False
/-- What cells of a layout are. -/
def Fits (w : World) : Nat → List Ly → List Value → Prop
  | 0 => fun _ _ => False
  | n + 1 => FitL (FitY w (Fits w n))
theorem FitL.append {one : Ly → Value → Prop} : ∀ {a b : List Ly} {vs : List Value}, FitL one a (vs.take a.length) → FitL one b (vs.drop a.length) → FitL one (a ++ b) vs
  | [], b, vs, _, h => by simpa using h
  | y :: ys, b, [], h, _ => by simp [FitL] at h
  | y :: ys, b, v :: vs, h, h' => by
    simp only [List.length_cons, List.take_succ_cons, List.drop_succ_cons, FitL] at h h'
    exact ⟨h.1, FitL.append h.2 h'⟩
theorem FitL.length {one : Ly → Value → Prop} : ∀ {a : List Ly} {vs : List Value}, FitL one a vs → vs.length = a.length
  | [], [], _ => rfl
  | [], _ :: _, h => h.elim
  | _ :: _, [], h => h.elim
  | _ :: ys, _ :: vs, h => by simp [FitL.length h.2]
section
open Go.ChangeShapes
variable {H : Type} {enc : TypeId × Value → H} {P : Program} {w : World} {base : Nat} {sp : Nat → Bool} {held : Bool}
theorem fits_fields {n : Nat} {cs : List Value} {get : Field → Option (DataW H × List MemPlace)} (hf : ∀ (t : TypeId) (l : List Ly) (vs : List Value), layP P n t = some l → ∀ m x, DataW.trod enc P w base sp held m t vs = some x → Fits w (n + 1) l vs) {m : Nat} :
    ∀ {fs : List Field} {off : Nat} {l : List Ly}, layFs (layP P n) P fs off = some l → cs.length = off + l.length →
      (∀ f ∈ fs, ∃ x, DataW.trod enc P w base sp held m f.type ((cs.drop f.offset).take (P.cellsOf f.type)) = some x) → Fits w (n + 1) l (cs.drop off)
  | [], off, l, h, hl, _ => by
    simp [layFs] at h; subst h
    rw [List.drop_eq_nil_of_le (by simp at hl; omega)]
    trivial
  | f :: fs, off, l, h, hl, hx => by
    simp only [layFs] at h
    cases hb : Nat.beq f.offset off <;> rw [hb] at h <;> simp only [cond_true, cond_false] at h
    · cases h
    · have e0 := Nat.eq_of_beq_eq_true hb
      split at h
      · rename_i l1 h1
        cases hb2 : Nat.beq l1.length (P.cellsOf f.type) <;> rw [hb2] at h <;> simp only [cond_true, cond_false] at h
        · cases h
        · have e1 := Nat.eq_of_beq_eq_true hb2
          cases h2 : layFs (layP P n) P fs (off + l1.length) with
          | none => rw [h2] at h; cases h
          | some l2 =>
            rw [h2] at h
            simp at h; subst h
            obtain ⟨x, hx1⟩ := hx f (by simp)
            have a := hf f.type l1 _ h1 m x hx1
            have b := fits_fields (get := get) hf h2 (by simp at hl; omega) (fun g hg => hx g (by simp [hg]))
            refine FitL.append ?_ ?_
            · rw [e0, ← e1] at a; exact a
            · rw [List.drop_drop]; exact b
      · cases h
theorem fits_mono {n : Nat} : ∀ {l : List Ly} {cs : List Value}, Fits w n l cs → Fits w (n + 1) l cs := by
  induction n with
  | zero => intro l cs h; exact h.elim
  | succ n ih =>
    intro l
    induction l with
    | nil => intro cs h; cases cs <;> simp_all [Fits, FitL]
    | cons y ys ihl =>
      intro cs h
      cases cs with
      | nil => exact h.elim
      | cons v vs =>
        refine ⟨?_, ihl h.2⟩
        have h1 := h.1
        cases y with
        | i k => exact h1
        | b => exact h1
        | s e =>
          obtain ⟨ao, len, cap, rows, e1, e2, e3, e4, e5, e6⟩ := h1
          exact ⟨ao, len, cap, rows, e1, e2, e3, e4, e5, fun r hr => ih (e6 r hr)⟩
theorem cells_get {a : Addr} {k : Nat} {vs : List Value} (h : w.cells? base a k = some vs) : vs.length = k ∧ ∀ j, j < k → w.cell? (a.add j) = vs[j]? := by
  unfold World.cells? at h
  split at h
  · exact ⟨by simpa using mapM_some_length h, fun j hj => mapM_some_get h j j (by simp [hj])⟩
  · cases h
theorem fits_of_trod : ∀ {n : Nat} {t : TypeId} {l : List Ly} {cs : List Value}, layP P n t = some l → ∀ m x, DataW.trod enc P w base sp held m t cs = some x → Fits w (n + 1) l cs
  | 0, _, _, _, h, _, _, _ => by cases h
  | n + 1, t, l, cs, h, m, x, hx => by
    unfold layP at h
    split at h
    · rename_i k hu
      simp at h; subst h
      cases m with
      | zero => simp [DataW.trod] at hx
      | succ m =>
        unfold DataW.trod at hx
        rw [hu] at hx
        split at hx <;> simp_all [Fits, FitL, FitY, Lit.wf]
    · rename_i hu
      simp at h; subst h
      cases m with
      | zero => simp [DataW.trod] at hx
      | succ m =>
        unfold DataW.trod at hx
        rw [hu] at hx
        split at hx <;> simp_all [Fits, FitL, FitY]
    · rename_i e hu
      split at h
      · rename_i le hle
        cases hb : (Nat.beq le.length (P.cellsOf e) && Nat.ble 1 le.length) <;> rw [hb] at h <;> simp only [cond_true, cond_false] at h
        · cases h
        · simp at h; subst h
          simp only [Bool.and_eq_true] at hb
          have e1 := Nat.eq_of_beq_eq_true hb.1
          have e2 := Nat.le_of_ble_eq_true hb.2
          rcases DataW.trod_slice hu hx with ⟨rfl, _⟩ | ⟨a, len, cap, elems, rest, m', _, rfl, _, hba, hlc, hcm, hel, hget, _, _⟩
          · exact ⟨⟨none, 0, 0, [], rfl, Nat.le_refl _, Nat.zero_le _, rfl, .nil _ _ _, fun r hr => by cases hr⟩, trivial⟩
          · rw [← e1] at hget
            have hrow : ∀ i, i < len → ∃ vs y, w.cells? base (a.add (i * le.length)) le.length = some vs ∧ DataW.trod enc P w base sp held m' e vs = some y := by
              intro i hi
              have := hget i hi
              cases hc : w.cells? base (a.add (i * le.length)) le.length with
              | none => rw [hc] at this; simp at this; omega
              | some vs =>
                rw [hc] at this
                simp only [Option.bind_some] at this
                rw [List.getElem?_eq_getElem (by omega)] at this
                exact ⟨vs, _, rfl, this⟩
            let rows : List (List Value) := (List.range len).map fun i => (w.cells? base (a.add (i * le.length)) le.length).getD []
            have hrl : rows.length = len := by simp [rows]
            have hrg : ∀ i r, rows[i]? = some r → i < len ∧ w.cells? base (a.add (i * le.length)) le.length = some r := by
              intro i r hr
              have hi : i < len := by have := (List.getElem?_eq_some_iff.1 hr).1; omega
              obtain ⟨vs, y, h1, h2⟩ := hrow i hi
              simp only [rows, List.getElem?_map, List.getElem?_range hi, Option.map_some, h1, Option.getD_some, Option.some.injEq] at hr
              subst hr
              exact ⟨hi, h1⟩
            refine ⟨⟨some a, len, cap, rows, rfl, hlc, hcm, hrl, ?_, ?_⟩, trivial⟩
            · by_cases h0 : len = 0
              · left
                exact List.eq_nil_of_length_eq_zero (by omega)
              · right
                obtain ⟨vs, y, h1, h2⟩ := hrow 0 (by omega)
                have hc := (cells_get h1).2 0 (by omega)
                rw [Nat.zero_mul] at hc
                have hs : a.spot = none := by
                  have hv : ∃ v, w.cell? a = some v := by
                    have hl := (cells_get h1).1
                    refine ⟨vs[0]'(by omega), ?_⟩
                    rw [List.getElem?_eq_getElem (by omega)] at hc
                    exact hc
                  obtain ⟨v, hv⟩ := hv
                  unfold World.cell? at hv
                  split at hv
                  · split at hv
                    · cases hv
                    · rename_i hn; simpa using hn
                  · cases hv
                obtain ⟨b, o, s⟩ := a
                simp only at hs
                subst hs
                refine ⟨b, o, rfl, fun i r hr j u hj => ?_⟩
                obtain ⟨hi, h3⟩ := hrg i r hr
                have h4 := cells_get h3
                have hjl : j < le.length := by have := (List.getElem?_eq_some_iff.1 hj).1; omega
                have := h4.2 j hjl
                rw [hj, addr_add, addr_add] at this
                exact this
            · intro r hr
              obtain ⟨i, hi⟩ := List.getElem?_of_mem hr
              obtain ⟨hlt, h3⟩ := hrg i r hi
              obtain ⟨vs, y, h1, h2⟩ := hrow i hlt
              rw [h3] at h1
              obtain rfl := Option.some.inj h1
              exact fits_of_trod hle _ _ h2
      · cases h
    · rename_i fs hu
      split at h
      · rename_i l1 h1
        cases hb : Nat.beq l1.length (P.cellsOf t) <;> rw [hb] at h <;> simp only [cond_true, cond_false] at h
        · cases h
        · simp at h; subst h
          have e1 := Nat.eq_of_beq_eq_true hb
          obtain ⟨xs, m', _, _, hcl, hxl, hget⟩ := DataW.trod_struct hu hx
          have := fits_fields (n := n) (cs := cs) (get := fun _ => none) (m := m') (fun t l vs h m x hx => fits_of_trod h m x hx) h1 (by omega) (fun f hf => by
            obtain ⟨i, hi⟩ := List.getElem?_of_mem hf
            have hi' : fs[i]? = some f := by simpa using hi
            have hlt : i < xs.length := by rw [hxl]; exact (Array.getElem?_eq_some_iff.1 hi').1
            rw [hget i f hi', List.getElem?_eq_getElem hlt]
            exact ⟨_, rfl⟩)
          simpa using fits_mono this
      · cases h
    · cases h
theorem exists_map {α : Type} {f : α → List Value} : ∀ {rows : List (List Value)}, (∀ r ∈ rows, ∃ x, r = f x) → ∃ l : List α, rows = l.map f
  | [], _ => ⟨[], rfl⟩
  | r :: rows, h => by
    obtain ⟨x, rfl⟩ := h r (by simp)
    obtain ⟨l, rfl⟩ := exists_map (rows := rows) fun q hq => h q (by simp [hq])
    exact ⟨x :: l, rfl⟩
/-- Arguments read as they did, as long as all that there was is kept. -/
theorem below_all (hl : laidOutB P = true) {W W' : World} (hb : Below W.heap.size W W') : ∀ {ts : List TypeId} {vs : List Value} {ds : List (DataW H)} {ps : List MemPlace},
    (ts.all fun t => P.readableRec t && decide (t < P.types.size)) = true → (∀ x ∈ ps, x.block < W.heap.size) → DataW.TrodAll enc P W 0 (fun _ => true) true ts vs ds ps → DataW.TrodAll enc P W' 0 (fun b => decide (b < W.heap.size)) true ts vs ds ps
  | [], vs, ds, ps, _, _, h => by
    obtain ⟨rfl, rfl, rfl⟩ := trodAll_nil h
    rfl
  | t :: ts, vs, ds, ps, hr, hlt, h => by
    obtain ⟨v, vs1, d, ds1, a, b, rfl, rfl, rfl, h1, h2⟩ := trodAll_cons h
    simp only [List.all_cons, Bool.and_eq_true, decide_eq_true_eq] at hr
    exact ⟨a, b, Below.trod hl hr.1.1 hr.1.2 h1 hb (fun x hx => hlt x (by simp [hx])), below_all hl hb hr.2 (fun x hx => hlt x (by simp [hx])) h2, rfl⟩
/-- What is asked behind a call of a law that handed back true and kept all that there was. -/
theorem law_post {f : Func} {s : ChangeSpec} {W W' : World} {args : Array Value} {ds gs : List (DataW H)} {before : List MemPlace} {tb : TypeId} (hl : laidOutB P = true)
    (hr : (f.params.toList.all fun t => P.readableRec t && decide (t < P.types.size)) = true) (hv : s.vars = []) (hs : ∀ ds : List (DataW H), ds.length = f.params.toList.length → s.fn H ds = { results := [.lit (.bool true)], args := ds })
    (hrt : f.resultTypes = #[tb]) (htb : P.underlying tb = some .bool) (hW : DataW.Whole enc P f.params.toList s.vars false W args.toList ds gs before) (hb : Below W.heap.size W W') :
    s.post enc P f false true false false W args (.bool true) W' := by
  have hW' := hW
  obtain ⟨p, q, hA, hV, rfl, _, _⟩ := hW
  rw [hv] at hV
  obtain ⟨rfl, rfl⟩ := trodVars_none hV
  have hlen : ds.length = f.params.toList.length := (Go.trodAll_length hA).2
  have hfn := hs ds hlen
  have hlt : ∀ x ∈ p, x.block < W.heap.size := fun x hx => hW'.lt x (by simp [hx])
  refine ⟨ds, [], p ++ [], [], p, [], hW', ?_, ?_, ?_, hb.frame _, fun h => by cases h⟩
  · rw [List.append_nil, hfn, hrt]
    exact trodAll_mk1 (shut_bool htb true)
  · rw [List.append_nil, hfn]
    exact below_all hl hb hr hlt hA
  · rw [List.append_nil, hfn, hv]
    exact rfl
/-- An argument of a struct's type. -/
theorem arg_struct {t : TypeId} {v : Value} {d : DataW H} {ps : List MemPlace} {n : Nat} {l : List Ly} (hlay : layP P n t = some l) (hu : ∃ fs, P.underlying t = some (.struct fs)) {r : Reach} {b : Nat} (hok : Value.okWide P w r b t v) (h : DataW.Trod enc P w base sp held t v d ps) :
    ∃ cs, v = .agg ⟨cs⟩ ∧ Fits w (n + 1) l cs := by
  obtain ⟨fs, hu⟩ := hu
  unfold Value.okWide at hok
  rw [hu] at hok
  obtain ⟨cs, rfl, _, _⟩ := hok
  obtain ⟨fuel, hx⟩ := h
  exact ⟨cs.toList, rfl, fits_of_trod hlay _ _ hx⟩
/-- .. of one cell. -/
theorem arg_cell {t : TypeId} {v : Value} {d : DataW H} {ps : List MemPlace} {n : Nat} {y : Ly} (hlay : layP P n t = some [y]) (hu : (P.underlying t).any (fun u => match u with | .struct _ => false | .array _ _ => false | _ => true) = true) {r : Reach} {b : Nat} (hok : Value.okWide P w r b t v) (h : DataW.Trod enc P w base sp held t v d ps) :
    FitY w (Fits w n) y v := by
  obtain ⟨fuel, hx⟩ := h
  have hc : v.cells.toList = [v] := by
    unfold Value.okWide at hok
    cases ho : P.underlying t with
    | none => rw [ho] at hu; cases hu
    | some u =>
      rw [ho] at hu hok
      cases v <;> first | rfl | skip
      all_goals (cases u <;> simp_all [Cell.okWide, Cell.ok])
  rw [hc] at hx
  exact (fits_of_trod hlay _ _ hx).1
theorem fit_i64 {f : List Ly → List Value → Prop} {v : Value} (h : FitY w f (.i .i64) v) : ∃ x : Int, v = .int .i64 x ∧ -9223372036854775808 ≤ x ∧ x ≤ 9223372036854775807 := by
  obtain ⟨x, h1, h2, h3⟩ := h
  exact ⟨x, h1, by simpa [IntKind.min, IntKind.signed, IntKind.bits] using h2, by simpa [IntKind.max, IntKind.signed, IntKind.bits] using h3⟩
end
end Go.X

/- The calculus' rules: slices of the call's own that grow. Nothing of the program stands here. -/
namespace Go.X
open Go Go.RowKit

/-- A slice of the call's own: nil, or at the start of a block of its own; behind its elements the spare. -/
structure Sl where
  blk : Option Nat
  cap : Nat
  sp : List Value
def Sl.nil : Sl := ⟨none, 0, []⟩
def Sl.addr (r : Sl) : Option Addr := r.blk.map fun b => ⟨b, 0, none⟩
def Sl.val (r : Sl) (n : Nat) : Value := .slice r.addr n r.cap
def Sl.ent (r : Sl) (E : TypeId) (cells : List Value) : Nat × Obj := (r.blk.getD 0, .cells ⟨bif r.blk.isSome then cells ++ r.sp else []⟩ E (0, 0))
structure Sl.Ok (r : Sl) (n size : Nat) (cells : List Value) : Prop where
  len : cells.length = n * size
  cap : n ≤ r.cap
  max : r.cap ≤ maxLen
  nil : r.blk = none → r.cap = 0
  full : ∀ b, r.blk = some b → cells.length + r.sp.length = r.cap * size
theorem Sl.Ok.none (size : Nat) : Sl.nil.Ok 0 size [] := ⟨by simp, Nat.le_refl _, by simp [Sl.nil], fun _ => rfl, fun _ h => by cases h⟩
/-- An empty slice that is not nil. -/
theorem Sl.Ok.empty (size b : Nat) : (Sl.mk (some b) 0 []).Ok 0 size [] := ⟨by simp, Nat.le_refl _, by simp, fun _ => rfl, fun _ _ => by simp⟩
theorem Sl.Ok.some {r : Sl} {n size : Nat} {cells : List Value} (h : r.Ok n size cells) (hn : 0 < n) : ∃ b, r.blk = some b := by
  cases hb : r.blk with
  | none => have := h.nil hb; have := h.cap; omega
  | some b => exact ⟨b, rfl⟩

def apP (P : Program) (t : TypeId) : Option (TypeId × Nat × Nat) :=
  match P.underlying t with
  | some (.slice e) => match P.info? e with
    | some i => match i.zero with
      | some z => match Nat.beq z.cells.size i.size, Nat.blt 0 i.size with
        | true, true => some (e, i.size, i.bytes)
        | _, _ => none
      | none => none
    | none => none
  | _ => none
theorem apP_spec {P : Program} {t e : TypeId} {size bytes : Nat} (h : apP P t = some (e, size, bytes)) :
    ∃ i z, P.underlying t = some (.slice e) ∧ P.info? e = some i ∧ i.zero = some z ∧ i.size = size ∧ i.bytes = bytes ∧ z.cells.size = size ∧ 0 < size := by
  unfold apP at h
  split at h
  · rename_i e' hu
    split at h
    · rename_i i hi
      split at h
      · rename_i z hz
        split at h
        · rename_i h1 h2
          simp at h
          obtain ⟨rfl, rfl, rfl⟩ := h
          exact ⟨i, z, hu, hi, hz, rfl, rfl, Nat.eq_of_beq_eq_true h1, by rwa [Nat.blt_eq] at h2⟩
        · cases h
      · cases h
    · cases h
  · cases h
theorem isOne_one {v : Value} (h : isOne v = true) : v.oneCell' = true := by cases v <;> first | rfl | (cases h)

/-- What an append onto a slice of the call's own leaves. -/
theorem run_append_sl {P : Program} {w0 w : World} {own : Own} (hI : Inv w0 own w) {i n m c size bytes : Nat} {t ty E : TypeId} {r : Sl} {cells news : List Value} {ao : Option Addr}
    (hap : apP P t = some (E, size, bytes)) (hok : r.Ok n size cells) (hi : own[i]? = some (r.ent E cells))
    (hsrc : m = 0 ∨ ∃ b off, ao = some ⟨b, off, none⟩ ∧ ∀ j v, news[j]? = some v → w.cell? ⟨b, off + j, none⟩ = some v) (hnl : news.length = m * size) (hn1 : news.all isOne = true)
    (hmax : n + m ≤ maxLen) (hby : (n + m) * bytes ≤ 140737488355328) :
    ∃ r' w', (Builtin.append_ #[t, t] ty #[r.val n, .slice ao m c]).run P w = .ok (Sl.val r' (n + m)) w' ∧ r'.Ok (n + m) size (cells ++ news) ∧ Inv w0 (own.set i (r'.ent E (cells ++ news))) w' := by
  obtain ⟨inf, z, hu, hinf, hz, hs, hb, hzs, hpos⟩ := apP_spec hap
  have hm63 : n + m ≤ 9223372036854775807 := by simp only [maxLen] at hmax; omega
  by_cases hm : m = 0
  · subst hm
    have hnn : news = [] := List.eq_nil_of_length_eq_zero (by simpa using hnl)
    subst hnn
    have hc := hok.cap
    refine ⟨r, w, ?_, by simpa using hok, ?_⟩
    · cases hblk : r.blk <;> cases ao <;> simp [Builtin.append_, run_underlying hu, sizeOf, typeInfo, hinf, Builtin.lenOf, Builtin.firstCells, loadCells, loadCellsFrom, Sl.val, Sl.addr, hblk, hc, storeCells, Result.andThen]
    · rw [List.append_nil]
      have hlt := (List.getElem?_eq_some_iff.1 hi).1
      have : own.set i (r.ent E cells) = own := by
        apply List.ext_getElem?
        intro j
        rw [List.getElem?_set]
        split
        · rename_i h; subst h; exact hi.symm
        · rfl
      rw [this]; exact hI
  · obtain ⟨b, off, rfl, hnews⟩ := hsrc.resolve_left hm
    have hnews' : ∀ j v, news[j]? = some v → w.cell? ((⟨b, off, none⟩ : Addr).add j) = some v := fun j v hj => by rw [addr_add]; exact hnews j v hj
    have hlen : (cells ++ news).length = (n + m) * size := by rw [List.length_append, hok.len, hnl, Nat.add_mul]
    -- the growing arm
    have grown : ∀ (old : Nat), old < n + m → ∀ w', w' = w.drew.alloc (.cells (cells.toArray ++ news.toArray ++ Builtin.zeroCells z.cells (grownCap w (n + m) old E - (n + m))) E) →
        ∃ r' : Sl, Value.slice (some ⟨w.heap.size, 0, none⟩) (n + m) (grownCap w (n + m) old E) = r'.val (n + m) ∧ r'.Ok (n + m) size (cells ++ news) ∧ Inv w0 (own.set i (r'.ent E (cells ++ news))) w' := by
      intro old ho w' hw'
      subst hw'
      refine ⟨⟨some w.heap.size, grownCap w (n + m) old E, (Builtin.zeroCells z.cells (grownCap w (n + m) old E - (n + m))).toList⟩, rfl, ?_, ?_⟩
      · have hge := grownCap_ge w (n + m) old E
        refine ⟨hlen, hge, grownCap_le_maxLen w (n + m) old E hmax, (fun h => by cases h), fun _ _ => ?_⟩
        rw [hlen, Array.length_toList, size_zeroCells, hzs, ← Nat.add_mul]
        congr 1
        simp only
        omega
      · have hdh : w.drew.heap = w.heap := rfl
        refine hI.replace hi (fun k hk _ => ?_) (fun _ => ?_) (fun _ => .inr (Nat.le_refl _)) (by show _ ≤ (w.heap.push _).size; simp) rfl rfl rfl
        · show (w.drew.heap.push _)[k]? = _
          rw [hdh, Array.getElem?_push_lt hk, Array.getElem?_eq_getElem hk]
        · show (w.drew.heap.push _)[w.heap.size]? = _
          rw [hdh]
          simp only [Array.getElem?_push_size, Sl.ent, Option.isSome_some, cond_true]
          congr 2
          apply Array.ext'
          simp
    by_cases hroom : n + m ≤ r.cap
    · -- there is room
      have hcap : 0 < r.cap := by omega
      obtain ⟨g, hg⟩ : ∃ g, r.blk = some g := by
        cases hblk : r.blk with
        | none => have := hok.nil hblk; omega
        | some g => exact ⟨g, rfl⟩
      have hfull := hok.full g hg
      have hnm : (n + m) * size ≤ r.cap * size := Nat.mul_le_mul_right _ hroom
      have hpos1 : 0 < (cells ++ r.sp).length := by
        rw [List.length_append, hfull]; exact Nat.mul_pos hcap hpos
      have hent : r.ent E cells = (g, .cells ⟨cells ++ r.sp⟩ E (0, 0)) := by simp [Sl.ent, hg]
      rw [hent] at hi
      have hlive : live (g, .cells ⟨cells ++ r.sp⟩ E (0, 0)) = true := live_of_len hpos1
      have hcur := (hI.get hi hlive).2
      simp only at hcur
      have hfit : n * inf.size + news.length ≤ (cells ++ r.sp).toArray.size := by
        simp only [List.size_toArray, List.length_append, hs]; rw [hnl, hfull, ← Nat.add_mul]; exact hnm
      have hr := run_append_room (P := P) w t ty E inf hu hinf g n r.cap (cells ++ r.sp).toArray hcur ⟨b, off, none⟩ m c news (by rw [hs]; exact hnl) hnews' (fun u hu => isOne_one (List.all_eq_true.1 hn1 u hu)) hroom hfit
      refine ⟨⟨some g, r.cap, r.sp.drop news.length⟩, _, by rw [show r.val n = .slice (some ⟨g, 0, none⟩) n r.cap from by simp [Sl.val, Sl.addr, hg]]; exact hr, ⟨hlen, hroom, hok.max, (fun h => by cases h), fun _ _ => ?_⟩, ?_⟩
      · simp only [List.length_append, List.length_drop]
        have := hnl; rw [Nat.add_mul] at hnm; have := hok.len
        omega
      · have hrow : (List.take (n * inf.size) (cells ++ r.sp).toArray.toList ++ news ++ List.drop (n * inf.size + news.length) (cells ++ r.sp).toArray.toList).toArray = (⟨cells ++ news ++ r.sp.drop news.length⟩ : Array Value) := by
          simp only [hs, ← hok.len]
          rw [List.take_left, List.drop_append]
          simp
        rw [hrow]
        refine hI.replace hi (fun k _ hk => setRow_other w g k _ (hk hlive)) (fun _ => ?_) (fun _ => .inl ⟨hlive, by simp [Sl.ent]⟩) (by simp [World.setRow]) rfl rfl rfl
        have := setRow_heap w g (cells ++ r.sp).toArray ⟨cells ++ news ++ r.sp.drop news.length⟩ E (0, 0) hcur
        simpa [Sl.ent] using this
    · have hfits : Builtin.nextslicecap (n + m) r.cap * inf.bytes ≤ 281474976710656 := growslice_fits (by omega) (by rw [hb]; exact hby)
      obtain ⟨r', h1, h2, h3⟩ := grown r.cap (by omega) _ rfl
      refine ⟨r', _, ?_, h2, h3⟩
      rw [← h1]
      cases hblk : r.blk with
      | none =>
        have hc0 := hok.nil hblk
        have hn0 : n = 0 := by have := hok.cap; omega
        subst hn0
        have hc : cells = [] := List.eq_nil_of_length_eq_zero (by simpa using hok.len)
        subst hc
        have := run_append_nil (P := P) w t ty E inf z hu hinf hz ⟨b, off, none⟩ m c news (by rw [hs]; exact hnl) hnews' (by omega) (by omega) (by rw [hb]; simp only [Nat.zero_add] at hby; omega)
        rw [show r.val 0 = .slice none 0 0 from by simp [Sl.val, Sl.addr, hblk, hc0]]
        simp only [Nat.zero_add, hc0]
        rw [this]
        simp
      | some g =>
        have holds : ∀ j v, cells[j]? = some v → w.cell? ((⟨g, 0, none⟩ : Addr).add j) = some v := fun j v hj => by
          have hent : r.ent E cells = (g, .cells ⟨cells ++ r.sp⟩ E (0, 0)) := by simp [Sl.ent, hblk]
          rw [hent] at hi
          have hj' : (cells ++ r.sp)[j]? = some v := by rw [List.getElem?_append_left (List.getElem?_eq_some_iff.1 hj).1]; exact hj
          have hcur := (hI.get hi (live_of_get hj')).2
          simp only at hcur
          rw [addr_add]
          simp [World.cell?, hcur, hj']
        rw [show r.val n = .slice (some ⟨g, 0, none⟩) n r.cap from by simp [Sl.val, Sl.addr, hblk]]
        exact run_append_grow (P := P) w t ty E inf z hu hinf hz ⟨g, 0, none⟩ n r.cap cells (by rw [hs]; exact hok.len) holds ⟨b, off, none⟩ m c news (by rw [hs]; exact hnl) hnews' (by omega) (by omega) hfits

section
variable {C : Cx} {Q : Post} {env : Env} {own : Own} {D : List Deferred} {ops : Array Oper} {rest : List Oper}
variable {d : Nat} {ty : TypeId} {pos : String} {aft : Array Edge} {g : Option (Nat × Bool)} {x y : Operand} {T T' : TypeId}
/-- What is appended: nothing, or cells of which it is known where they lie. -/
def Src (w0 : World) (own : Own) (ao : Option Addr) (m : Nat) (news : List Value) : Prop := m = 0 ∨ ∃ b off, ao = some ⟨b, off, none⟩ ∧ Mem w0 own b off news
theorem SXL.append {n m c size bytes : Nat} {r : Sl} {E : TypeId} {cells news : List Value} {ao : Option Addr} (j : Nat) (hap : apP C.P T = some (E, size, bytes)) (hx : ev env x = some (r.val n)) (hi : own[j]? = some (r.ent E cells)) (hok : r.Ok n size cells)
    (hy : ev env y = some (.slice ao m c)) (hsrc : Src C.w0 own ao m news) (hnl : news.length = m * size) (hn1 : news.all isOne = true) (hmax : n + m ≤ maxLen ∧ (n + m) * bytes ≤ 140737488355328)
    (h : ∀ r' : Sl, r'.Ok (n + m) size (cells ++ news) → SXL C ops rest Q ⟨(d, r'.val (n + m)) :: env, own.set j (r'.ent E (cells ++ news)), D⟩)
    (hd : Nat.blt d C.n = true := by rfl) (hw : Wanted ops g env = some true := by rfl) (hdr : C.dr = false := by rfl) :
    SXL C ops ({ dst := some d, op := .call { callee := .builtin .append, args := ⟨[x, y]⟩, argTypes := ⟨[T, T]⟩ }, type := ty, pos, after := aft, guard := g } :: rest) Q ⟨env, own, D⟩ :=
  SXL.op hw (fun _ e => by cases e) (hdr := hdr) fun a w hc => by
    obtain ⟨r', w', hr, h1, h2⟩ := run_append_sl (P := C.P) (ty := ty) (c := c) (ao := ao) hc.2.2 hap hok hi (hsrc.imp id fun ⟨b, off, h1, h2⟩ => ⟨b, off, h1, fun j v hj => h2 w hc.2.2 j v hj⟩) hnl hn1 hmax.1 hmax.2
    refine ⟨_, w', .inl ?_, ⟨(d, r'.val (n + m)) :: env, own.set j (r'.ent E (cells ++ news)), D⟩, fun a' ha' hD' => ⟨ha'.put hd _, by rw [put_defers]; exact hD', h2⟩, h r' h1⟩
    simp only [execOp]
    simp [resolve, invoke, builtin, hc.1.eval hx, hc.1.eval hy, hr, Result.andThen]
/-- .. onto a slice without room, of which nothing was: a new entry. -/
theorem SXL.appendE {m c size bytes : Nat} (blk : Option Nat) {E : TypeId} {news : List Value} {ao : Option Addr} (hap : apP C.P T = some (E, size, bytes)) (hx : ev env x = some (.slice (Sl.addr ⟨blk, 0, []⟩) 0 0))
    (hy : ev env y = some (.slice ao m c)) (hsrc : Src C.w0 own ao m news) (hnl : news.length = m * size) (hn1 : news.all isOne = true) (hmax : m ≤ maxLen ∧ m * bytes ≤ 140737488355328)
    (h : ∀ r' : Sl, r'.Ok m size news → SXL C ops rest Q ⟨(d, r'.val m) :: env, own ++ [r'.ent E news], D⟩)
    (hd : Nat.blt d C.n = true := by rfl) (hw : Wanted ops g env = some true := by rfl) (hdr : C.dr = false := by rfl) :
    SXL C ops ({ dst := some d, op := .call { callee := .builtin .append, args := ⟨[x, y]⟩, argTypes := ⟨[T, T]⟩ }, type := ty, pos, after := aft, guard := g } :: rest) Q ⟨env, own, D⟩ :=
  SXL.op hw (fun _ e => by cases e) (hdr := hdr) fun a w hc => by
    have hlive : live (Sl.ent ⟨blk, 0, []⟩ E []) = false := by cases blk <;> rfl
    have hok : (Sl.mk blk 0 []).Ok 0 size [] := ⟨by simp, Nat.le_refl _, by simp, fun _ => rfl, fun _ _ => by simp⟩
    have hidx : (own ++ [Sl.ent ⟨blk, 0, []⟩ E []])[own.length]? = some (Sl.ent ⟨blk, 0, []⟩ E []) := by simp
    obtain ⟨r', w', hr, h1, h2⟩ := run_append_sl (P := C.P) (ty := ty) (c := c) (ao := ao) (hc.2.2.pad hlive) hap hok hidx (hsrc.imp id fun ⟨b, off, h1, h2⟩ => ⟨b, off, h1, fun j v hj => h2 w hc.2.2 j v hj⟩) hnl hn1 (by simpa using hmax.1) (by simpa using hmax.2)
    rw [List.nil_append, Nat.zero_add] at h1
    rw [Nat.zero_add] at hr
    rw [List.nil_append, List.set_append_right _ _ (Nat.le_refl _), Nat.sub_self, List.set_cons_zero] at h2
    refine ⟨_, w', .inl ?_, ⟨(d, r'.val m) :: env, own ++ [r'.ent E news], D⟩, fun a' ha' hD' => ⟨ha'.put hd _, by rw [put_defers]; exact hD', h2⟩, h r' h1⟩
    simp only [execOp]
    have hv : (Sl.mk blk 0 []).val 0 = .slice (Sl.addr ⟨blk, 0, []⟩) 0 0 := rfl
    rw [hv] at hr
    simp [resolve, invoke, builtin, hc.1.eval hx, hc.1.eval hy, hr, Result.andThen]
/-- An entry for a slice that is nil, or empty. -/
theorem SX.pad {c : Code} (p : Nat × Obj) (hp : live p = false) (h : SX C c Q ⟨env, own ++ [p], D⟩) : SX C c Q ⟨env, own, D⟩ :=
  fun a w hc => h a w ⟨hc.1, hc.2.1, hc.2.2.pad hp⟩
theorem SXL.pad {l : List Oper} (p : Nat × Obj) (hp : live p = false) (h : SXL C ops l Q ⟨env, own ++ [p], D⟩) (hdr : C.dr = false := by rfl) : SXL C ops l Q ⟨env, own, D⟩ :=
  SXL.ofn hdr fun a w hc => h.ton hdr a w ⟨hc.1, hc.2.1, hc.2.2.pad hp⟩

theorem takeAt_append {l l2 : List Value} : ∀ {k off : Nat} {vs : List Value}, takeAt l off k = some vs → takeAt (l ++ l2) off k = some vs
  | 0, _, _, h => h
  | k + 1, off, vs, h => by
    simp only [takeAt] at h ⊢
    split at h
    · rename_i v r hv hr
      rw [List.getElem?_append_left (List.getElem?_eq_some_iff.1 hv).1, hv, takeAt_append hr]
      exact h
    · cases h
/-- The elements of a slice of the call's own, in memory. -/
theorem Sl.mem {w0 : World} {r : Sl} {E : TypeId} {cells vs : List Value} {i n size off : Nat} (hok : r.Ok n size cells) (hi : own[i]? = some (r.ent E cells)) (hn : 0 < n) (hv : takeAt cells off size = some vs) :
    ∃ b, r.blk = some b ∧ Mem w0 own b off vs := by
  obtain ⟨b, hb⟩ := hok.some hn
  refine ⟨b, hb, ?_⟩
  have hent : r.ent E cells = (b, .cells ⟨cells ++ r.sp⟩ E (0, 0)) := by simp [Sl.ent, hb]
  rw [hent] at hi
  refine Mem.own (k := size) hi ?_
  exact takeAt_append hv
/-- .. as rows. -/
theorem flatten_at {k : Nat} : ∀ {rows : List (List Value)}, (∀ r ∈ rows, r.length = k) → ∀ {i : Nat} {r : List Value}, rows[i]? = some r → ∀ {j : Nat} {u : Value}, r[j]? = some u → rows.flatten[i * k + j]? = some u
  | [], _, i, r, hi, _, _, _ => by simp at hi
  | q :: rows, hk, 0, r, hi, j, u, hj => by
    simp at hi; subst hi
    rw [List.flatten_cons, Nat.zero_mul, Nat.zero_add, List.getElem?_append_left (List.getElem?_eq_some_iff.1 hj).1]
    exact hj
  | q :: rows, hk, i + 1, r, hi, j, u, hj => by
    have hq := hk q (by simp)
    have := flatten_at (k := k) (rows := rows) (fun r hr => hk r (by simp [hr])) (i := i) (by simpa using hi) hj
    rw [List.flatten_cons, List.getElem?_append_right (by rw [hq, Nat.add_mul]; omega), hq]
    rw [show (i + 1) * k + j - k = i * k + j by rw [Nat.add_mul]; omega]
    exact this
theorem length_flatten {k : Nat} : ∀ {rows : List (List Value)}, (∀ r ∈ rows, r.length = k) → rows.flatten.length = rows.length * k
  | [], _ => by simp
  | q :: rows, h => by
    rw [List.flatten_cons, List.length_append, length_flatten (fun r hr => h r (by simp [hr])), h q (by simp), List.length_cons, Nat.add_mul]
    omega
theorem flatten_inv {k : Nat} (hk : 0 < k) : ∀ {rows : List (List Value)}, (∀ r ∈ rows, r.length = k) → ∀ {j : Nat} {u : Value}, rows.flatten[j]? = some u → ∃ r, rows[j / k]? = some r ∧ r[j % k]? = some u
  | [], _, j, u, h => by simp at h
  | q :: rows, hr, j, u, h => by
    have hq := hr q (by simp)
    rw [List.flatten_cons] at h
    by_cases hj : j < k
    · rw [List.getElem?_append_left (by omega)] at h
      exact ⟨q, by rw [Nat.div_eq_of_lt hj]; rfl, by rw [Nat.mod_eq_of_lt hj]; exact h⟩
    · rw [List.getElem?_append_right (by omega), hq] at h
      obtain ⟨r, h1, h2⟩ := flatten_inv hk (rows := rows) (fun r h' => hr r (by simp [h'])) h
      have e1 : j / k = (j - k) / k + 1 := by rw [← Nat.sub_add_cancel (Nat.le_of_not_lt hj)]; simp [Nat.add_div_right _ hk]
      have e2 : j % k = (j - k) % k := by rw [Nat.mod_eq_sub_mod (Nat.le_of_not_lt hj)]
      exact ⟨r, by rw [e1]; simpa using h1, by rw [e2]; exact h2⟩
theorem Sl.rows {w0 w : World} (hI : Inv w0 own w) {r : Sl} {E : TypeId} {i n k : Nat} (hk0 : 0 < k) {rows : List (List Value)} (hok : r.Ok n k rows.flatten) (hi : own[i]? = some (r.ent E rows.flatten)) (hk : ∀ q ∈ rows, q.length = k) : RowsAt w r.addr k rows := by
  cases hb : r.blk with
  | none =>
    have h1 := hok.nil hb
    have h2 := hok.cap
    have h3 := hok.len
    rw [length_flatten hk] at h3
    have hn : n = 0 := by omega
    subst hn
    have : rows.length = 0 := by
      rw [Nat.zero_mul] at h3
      exact (Nat.mul_eq_zero.1 h3).resolve_right (by omega)
    exact .inl (List.eq_nil_of_length_eq_zero this)
  | some b =>
    have hent : r.ent E rows.flatten = (b, .cells ⟨rows.flatten ++ r.sp⟩ E (0, 0)) := by simp [Sl.ent, hb]
    rw [hent] at hi
    have := RowsAt.ofOwn (rows := rows) hI hi (k := k) fun i q hq j u hj => by
      have := flatten_at hk hq hj
      rw [List.getElem?_append_left (List.getElem?_eq_some_iff.1 this).1]; exact this
    simpa [Sl.addr, hb] using this
/-- All the elements of a slice, to append. -/
theorem RowsAt.src {w0 : World} {ao : Option Addr} {k : Nat} {rows : List (List Value)} (h : RowsAt w0 ao k rows) (hk0 : 0 < k) (hk : ∀ q ∈ rows, q.length = k) (own : Own) : Src w0 own ao rows.length rows.flatten := by
  rcases h with rfl | ⟨b, o, h1, h2⟩
  · exact .inl rfl
  · refine .inr ⟨b, o, h1, Mem.out fun j v hj => ?_⟩
    obtain ⟨r, h3, h4⟩ := flatten_inv hk0 hk hj
    have := h2 _ _ h3 _ _ h4
    rwa [Nat.add_assoc, Nat.mul_comm, Nat.div_add_mod] at this
end
end Go.X
namespace Go.X
open Go Go.RowKit
/-- Only some blocks are handed back. -/
theorem retQ.sel {C : Cx} {rs : List ResultVar} {R : Value → Own → Prop} {env : Env} {own o : Own} (is : List Nat) (hs : selI own is = some o) (hd : distinct is = true) (h : retQ C rs (fun v _ => R v o) .ret ⟨env, own, []⟩) : retQ C rs R .ret ⟨env, own, []⟩ := by
  obtain ⟨own0, h1, vs, h2, own', h3, h4⟩ := h
  cases h1
  exact ⟨own, .nil _, vs, h2, o, fun w0 w hI => hI.sel hs hd, h4⟩
/-- Nothing is handed back but entries that stand for no block. -/
theorem retQ.dead {C : Cx} {rs : List ResultVar} {R : Value → Own → Prop} {s : St} (l : Own) (hl : l.all (fun p => !live p) = true) (h : retQ C rs (fun v _ => R v l) .ret s) : retQ C rs R .ret s := by
  obtain ⟨own0, h1, vs, h2, own', h3, h4⟩ := h
  refine ⟨own0, h1, vs, h2, l, fun w0 w hI => ?_, h4⟩
  have hd : ∀ p ∈ l, live p = false := fun p hp => by simpa using List.all_eq_true.1 hl p hp
  refine ⟨(h3 w0 w hI).below, fun p hp hlp => absurd hlp (by rw [hd p hp]; exact Bool.false_ne_true), ?_⟩
  rw [List.filter_eq_nil_iff.2 fun p hp => by rw [hd p hp]; exact Bool.false_ne_true]
  exact List.nodup_nil
theorem ints_snoc (l : List Int) (x : Int) : ints (l ++ [x]) = ints l ++ [.int .i64 x] := by simp [ints]
/-- A list of numbers, handed back. -/
structure IsInts (E : TypeId) (l : List Int) (v : Value) (p : Nat × Obj) : Prop where
  ex : ∃ r : Sl, r.Ok l.length 1 (ints l) ∧ v = r.val l.length ∧ p = r.ent E (ints l)
/-- Rows of k cells, handed back. -/
structure IsRows (E : TypeId) (k : Nat) (rows : List (List Value)) (v : Value) (p : Nat × Obj) : Prop where
  ex : ∃ r : Sl, r.Ok rows.length k rows.flatten ∧ v = r.val rows.length ∧ p = r.ent E rows.flatten
end Go.X
namespace Go.X
open Go Go.RowKit
theorem bld_one {zs vs : List Value} {v : Value} {sz : Nat} (hv : cellsO v = some vs) (hn : vs.length = sz) : bld (fun i => some (i * sz, sz)) (rowOf zs (1 * sz)) [(0, v)] = some vs := by
  have h1 : putAt (rowOf zs (1 * sz)) 0 vs = some vs := putAt_all _ _ (by simp [rowOf, hn])
  rw [Nat.one_mul] at h1
  simp [bld, hv, hn, h1]
end Go.X

/- '==' on structs and arrays of whole numbers. Nothing of the program stands here. -/
namespace Go.X
open Go Go.RowKit

def eqFs (eq : TypeId → Option Nat) : List Field → Nat → Option Nat
  | [], off => some off
  | f :: fs, off => bif f.name == "_" then none else bif Nat.beq f.offset off then (match eq f.type with | some k => eqFs eq fs (off + k) | none => none) else none
/-- How many whole numbers a value of a type is made of. -/
def eqP (P : Program) : Nat → TypeId → Option Nat
  | 0, _ => none
  | n + 1, t => match P.underlying t with
    | some (.int .i64) => some 1
    | some (.struct fs) => bif P.stoodInHeld t then none else (match eqFs (eqP P n) fs.toList 0 with
      | some k => (match shapeT P t with | some (some k') => bif Nat.beq k k' then some k else none | _ => none)
      | none => none)
    | some (.array len e) => (match eqP P n e with
      | some k => (match shapeT P t, sizeP P e with | some (some k'), some k'' => bif Nat.beq (len * k) k' && Nat.beq k k'' then some (len * k) else none | _, _ => none)
      | none => none)
    | _ => none
def tv (P : Program) (t : TypeId) (xs : List Int) : Value := match P.underlying t with
  | some (.int _) => .int .i64 (G xs 0)
  | _ => .agg ⟨ints xs⟩
theorem ints_take_drop (xs : List Int) (a k : Nat) : List.take k (List.drop a (ints xs)) = ints (List.take k (List.drop a xs)) := by simp [ints, List.map_drop, List.map_take]
section
variable {P : Program}
theorem run_part_tv {n : Nat} {t : TypeId} {k : Nat} (h : eqP P n t = some k) {xs : List Int} {off : Nat} (hk : off + k ≤ xs.length) (w : World) :
    (part t ⟨ints xs⟩ off).run P w = .ok (tv P t ((xs.drop off).take k)) w := by
  cases n with
  | zero => cases h
  | succ n =>
    unfold eqP at h
    split at h
    · rename_i hu
      simp at h; subst h
      have hs : shapeT P t = some none := by simp [shapeT, hu]
      have hlt : off < xs.length := by omega
      simp [part, run_isAgg hs, ints, hlt, tv, hu, Result.andThen, G]
    · rename_i fs hu
      cases hst : P.stoodInHeld t <;> rw [hst] at h <;> simp only [cond_true, cond_false] at h
      · split at h
        · rename_i k1 h1
          split at h
          · rename_i k' hs
            cases hb : Nat.beq k1 k' <;> rw [hb] at h <;> simp only [cond_true, cond_false] at h
            · cases h
            · have := Nat.eq_of_beq_eq_true hb
              subst this
              simp at h; subst h
              simp [part, run_isAgg hs, run_sizeOf (shape_size hs), tv, hu, Result.andThen, ints_take_drop]
          · cases h
        · cases h
      · cases h
    · rename_i len e hu
      split at h
      · rename_i k1 h1
        split at h
        · rename_i k' k'' hs hz
          cases hb : (Nat.beq (len * k1) k' && Nat.beq k1 k'') <;> rw [hb] at h <;> simp only [cond_true, cond_false] at h
          · cases h
          · simp only [Bool.and_eq_true] at hb
            have := Nat.eq_of_beq_eq_true hb.1
            subst this
            simp at h; subst h
            simp [part, run_isAgg hs, run_sizeOf (shape_size hs), tv, hu, Result.andThen, ints_take_drop]
        · cases h
      · cases h
    · cases h
theorem drop_split {xs ys : List Int} (off k : Nat) (_h : xs.length = ys.length) : (xs.drop off = ys.drop off) ↔ ((xs.drop off).take k = (ys.drop off).take k ∧ xs.drop (off + k) = ys.drop (off + k)) := by
  constructor
  · intro e
    refine ⟨by rw [e], ?_⟩
    rw [← List.drop_drop, ← List.drop_drop, e]
  · rintro ⟨e1, e2⟩
    rw [← List.take_append_drop k (xs.drop off), ← List.take_append_drop k (ys.drop off), e1, List.drop_drop, List.drop_drop, e2]
theorem run_eqFields {eq : TypeId → Option Nat} {d : Nat} (heq : ∀ t k, eq t = some k → (∀ (zs : List Int) off, off + k ≤ zs.length → ∀ w, (part t ⟨ints zs⟩ off).run P w = .ok (tv P t ((zs.drop off).take k)) w) ∧
      ∀ xs ys : List Int, xs.length = k → ys.length = k → ∀ w, (Op.equalIn d t (tv P t xs) (tv P t ys)).run P w = .ok (decide (xs = ys)) w) :
    ∀ (fs : List Field) (off K : Nat), eqFs eq fs off = some K → off ≤ K ∧ ∀ xs ys : List Int, xs.length = K → ys.length = K → ∀ w, (Op.eqFields d ⟨ints xs⟩ ⟨ints ys⟩ fs).run P w = .ok (decide (xs.drop off = ys.drop off)) w
  | [], off, K, h => by
    simp [eqFs] at h; subst h
    refine ⟨Nat.le_refl _, fun xs ys hx hy w => ?_⟩
    simp [Op.eqFields, List.drop_of_length_le (Nat.le_of_eq hx), List.drop_of_length_le (Nat.le_of_eq hy)]
  | f :: fs, off, K, h => by
    simp only [eqFs] at h
    cases hn : f.name == "_" <;> rw [hn] at h <;> simp only [cond_true, cond_false] at h
    · cases ho : Nat.beq f.offset off <;> rw [ho] at h <;> simp only [cond_true, cond_false] at h
      · cases h
      · have ho := Nat.eq_of_beq_eq_true ho
        split at h
        · rename_i k hk
          obtain ⟨h1, h2⟩ := heq f.type k hk
          obtain ⟨h3, h4⟩ := run_eqFields heq fs (off + k) K h
          refine ⟨by omega, fun xs ys hx hy w => ?_⟩
          have hne : f.name ≠ "_" := by simpa using hn
          have e1 := h1 xs off (by omega) w
          have e2 := h1 ys off (by omega) w
          have e3 := h2 ((xs.drop off).take k) ((ys.drop off).take k) (by simp; omega) (by simp; omega) w
          have e4 := h4 xs ys hx hy w
          subst ho
          simp only [Op.eqFields, if_pos hne, Sem.run_bind, e1, e2, e3, Result.andThen_ok]
          have hs := drop_split f.offset k (hx.trans hy.symm)
          by_cases hc : (xs.drop f.offset).take k = (ys.drop f.offset).take k
          · simp only [hc, decide_true, Bool.not_true, Bool.false_eq_true, if_false, e4]
            congr 1
            exact decide_eq_decide.2 ⟨fun e => hs.2 ⟨hc, e⟩, fun e => (hs.1 e).2⟩
          · simp only [hc, decide_false, Bool.not_false, if_true, Sem.run_pure]
            congr 1
            exact (decide_eq_false fun e => hc (hs.1 e).1).symm
        · cases h
    · cases h
theorem run_eqArr {d : Nat} {e : TypeId} {k : Nat} (h1 : ∀ (zs : List Int) (off : Nat), off + k ≤ zs.length → ∀ w, (part e ⟨ints zs⟩ off).run P w = .ok (tv P e ((zs.drop off).take k)) w)
      (h2 : ∀ xs ys : List Int, xs.length = k → ys.length = k → ∀ w, (Op.equalIn d e (tv P e xs) (tv P e ys)).run P w = .ok (decide (xs = ys)) w) {xs ys : List Int} {len : Nat} (hx : xs.length = len * k) (hy : ys.length = len * k) :
    ∀ (m i : Nat), i + m = len → ∀ w, ((do
      let r ← forIn (List.range' i m) ((none, ()) : Option Bool × Unit) fun i _ => do
        if (!(← Op.equalIn d e (← part e ⟨ints xs⟩ (i * k)) (← part e ⟨ints ys⟩ (i * k)))) = true then pure (ForInStep.done (some false, ())) else pure (ForInStep.yield (none, ()))
      match r.1 with
      | some a => pure a
      | none => pure true : Sem Bool)).run P w = .ok (decide (xs.drop (i * k) = ys.drop (i * k))) w
  | 0, i, hi, w => by
    have : i = len := by omega
    subst this
    simp [List.drop_of_length_le (Nat.le_of_eq hx), List.drop_of_length_le (Nat.le_of_eq hy)]
  | m + 1, i, hi, w => by
    have hb : i * k + k ≤ len * k := by rw [← Nat.succ_mul]; exact Nat.mul_le_mul_right _ (by omega)
    have e1 := h1 xs (i * k) (by omega) w
    have e2 := h1 ys (i * k) (by omega) w
    have e3 := h2 ((xs.drop (i * k)).take k) ((ys.drop (i * k)).take k) (by simp; omega) (by simp; omega) w
    have e4 := run_eqArr h1 h2 hx hy m (i + 1) (by omega) w
    have hs := drop_split (i * k) k (hx.trans hy.symm)
    rw [List.range'_succ]
    simp only [List.forIn_cons, Sem.run_bind, e1, e2, e3, Result.andThen_ok] at e4 ⊢
    by_cases hc : (xs.drop (i * k)).take k = (ys.drop (i * k)).take k
    · simp only [hc, decide_true, Bool.not_true, Bool.false_eq_true, if_false, Sem.run_pure, Result.andThen_ok]
      rw [e4]
      congr 1
      rw [Nat.add_mul, Nat.one_mul]
      exact decide_eq_decide.2 ⟨fun e => hs.2 ⟨hc, e⟩, fun e => (hs.1 e).2⟩
    · simp only [hc, decide_false, Bool.not_false, if_true, Sem.run_pure, Result.andThen_ok]
      congr 1
      exact (decide_eq_false fun e => hc (hs.1 e).1).symm
theorem run_equalIn_tv : ∀ (n : Nat) (t : TypeId) (k : Nat), eqP P n t = some k → ∀ d, ∀ xs ys : List Int, xs.length = k → ys.length = k → ∀ w,
    (Op.equalIn (n + d) t (tv P t xs) (tv P t ys)).run P w = .ok (decide (xs = ys)) w
  | 0, t, k, h, _, _, _, _, _, _ => by cases h
  | n + 1, t, k, h, d, xs, ys, hx, hy, w => by
    have heq : ∀ t k, eqP P n t = some k → (∀ (zs : List Int) off, off + k ≤ zs.length → ∀ w, (part t ⟨ints zs⟩ off).run P w = .ok (tv P t ((zs.drop off).take k)) w) ∧
      ∀ xs ys : List Int, xs.length = k → ys.length = k → ∀ w, (Op.equalIn (n + d) t (tv P t xs) (tv P t ys)).run P w = .ok (decide (xs = ys)) w :=
      fun t k h => ⟨fun zs off ho w => run_part_tv h ho w, fun xs ys hx hy w => run_equalIn_tv n t k h d xs ys hx hy w⟩
    rw [show n + 1 + d = (n + d) + 1 by omega]
    unfold eqP at h
    split at h
    · rename_i hu
      simp at h; subst h
      match xs, ys, hx, hy with
      | [a], [b], _, _ =>
        simp [tv, hu, run_equalIn_int w (n + d) t .i64 .i64 a b hu, G, int_beq]
    · rename_i fs hu
      cases hst : P.stoodInHeld t <;> rw [hst] at h <;> simp only [cond_true, cond_false] at h
      · split at h
        · rename_i k1 h1
          split at h
          · rename_i k' hs
            cases hb : Nat.beq k1 k' <;> rw [hb] at h <;> simp only [cond_true, cond_false] at h
            · cases h
            · simp at h; subst h
              have hf : P.fieldsOf t = fs := by simp [Program.fieldsOf, hu]
              have := run_equalIn_struct (P := P) w (n + d) t ⟨ints xs⟩ ⟨ints ys⟩ (by rw [hf]; exact hu) hst
              rw [hf] at this
              simp only [tv, hu]
              rw [this, (run_eqFields heq fs.toList 0 k1 h1).2 xs ys hx hy w]
              simp
          · cases h
        · cases h
      · cases h
    · rename_i len e hu
      split at h
      · rename_i k1 h1
        split at h
        · rename_i k' k'' hs hz
          cases hb : (Nat.beq (len * k1) k' && Nat.beq k1 k'') <;> rw [hb] at h <;> simp only [cond_true, cond_false] at h
          · cases h
          · simp only [Bool.and_eq_true] at hb
            have hk := Nat.eq_of_beq_eq_true hb.2
            subst hk
            simp at h; subst h
            obtain ⟨q1, q2⟩ := heq e k1 h1
            have := run_eqArr q1 q2 hx hy len 0 (by omega) w
            simp only [tv, hu, Op.equalIn, Sem.run_bind, run_underlying hu, Result.andThen_ok, run_sizeOf hz]
            simp only [Std.Legacy.Range.forIn_eq_forIn_range', Std.Legacy.Range.size]
            simp at this ⊢
            refine Eq.trans ?_ this
            congr 1
            funext a w'
            obtain ⟨_ | _, _⟩ := a <;> rfl
        · cases h
      · cases h
    · cases h
/-- What the walk asks. -/
theorem run_eql_ints {T : TypeId} {k : Nat} {x y : Operand} {xs ys : List Int} (h : eqP P 5 T = some k) (hg : P.eqGuardType P.depth T = false) (hs : shapeT P T = some (some k)) (hx : xs.length = k) (hy : ys.length = k) :
    ∀ w, (do eqGuard .eql T x y (.agg ⟨ints xs⟩) (.agg ⟨ints ys⟩); binOp .eql T (.agg ⟨ints xs⟩) (.agg ⟨ints ys⟩) : Sem Value).run P w = .ok (.bool (decide (xs = ys))) w := by
  intro w
  have e : tv P T xs = .agg ⟨ints xs⟩ ∧ tv P T ys = .agg ⟨ints ys⟩ := by
    unfold tv
    unfold shapeT at hs
    split at hs <;> simp_all
  have := run_equalIn_tv 5 T k h 9995 xs ys hx hy w
  rw [e.1, e.2] at this
  simp [Sem.run_bind, run_eqGuard_agg w .eql T x y ⟨ints xs⟩ ⟨ints ys⟩ hg, Result.andThen, run_eql_struct, this]
theorem run_neq_ints {T : TypeId} {k : Nat} {x y : Operand} {xs ys : List Int} (h : eqP P 5 T = some k) (hg : P.eqGuardType P.depth T = false) (hs : shapeT P T = some (some k)) (hx : xs.length = k) (hy : ys.length = k) :
    ∀ w, (do eqGuard .neq T x y (.agg ⟨ints xs⟩) (.agg ⟨ints ys⟩); binOp .neq T (.agg ⟨ints xs⟩) (.agg ⟨ints ys⟩) : Sem Value).run P w = .ok (.bool (decide (xs ≠ ys))) w := by
  intro w
  have e : tv P T xs = .agg ⟨ints xs⟩ ∧ tv P T ys = .agg ⟨ints ys⟩ := by
    unfold tv
    unfold shapeT at hs
    split at hs <;> simp_all
  have := run_equalIn_tv 5 T k h 9995 xs ys hx hy w
  rw [e.1, e.2] at this
  simp [Sem.run_bind, run_eqGuard_agg w .neq T x y ⟨ints xs⟩ ⟨ints ys⟩ hg, Result.andThen, run_neq_struct, this]
end
end Go.X

/- The calculus' rules: parts of values; segments that make blocks; what a call finds. Nothing of the program stands here. -/
namespace Go.X
open Go Go.RowKit
def arrE (P : Program) (t : TypeId) : Option (TypeId × Nat × Nat) := match P.underlying t with
  | some (.array n e) => (sizeP P e).map fun s => (e, n, s)
  | _ => none
theorem takeAt_drop : ∀ {k off : Nat} {l vs : List Value}, takeAt l off k = some vs → (l.drop off).take k = vs
  | 0, off, l, vs, h => by simp [takeAt] at h; simp [h]
  | k + 1, off, l, vs, h => by
    simp only [takeAt] at h
    split at h
    · rename_i v r hv hr
      simp at h; subst h
      have ih := takeAt_drop hr
      obtain ⟨hlt, he⟩ := List.getElem?_eq_some_iff.1 hv
      rw [List.drop_eq_getElem_cons hlt, List.take_succ_cons, ih, he]
    · cases h
section
variable {C : Cx} {Q : Post} {env : Env} {own : Own} {D : List Deferred} {ops : Array Oper} {rest : List Oper}
variable {d : Nat} {ty : TypeId} {pos : String} {aft : Array Edge} {g : Option (Nat × Bool)} {x y : Operand} {T T' : TypeId}
theorem SXL.indexV {cs vs : List Value} {n s : Nat} {e : TypeId} {k : IntKind} {i : Int} (he : arrE C.P T = some (e, n, s)) (hs : shapeT C.P e = some (some s)) (hx : ev env x = some (.agg ⟨cs⟩)) (hy : ev env y = some (.int k i)) (hb : 0 ≤ i ∧ i < n)
    (ht : takeAt cs (i.toNat * s) s = some vs)
    (h : SXL C ops rest Q ⟨(d, .agg ⟨vs⟩) :: env, own, D⟩) (hd : Nat.blt d C.n = true := by rfl) (hw : Wanted ops g env = some true := by rfl) :
    SXL C ops ({ dst := some d, op := .index T x y, type := ty, pos, after := aft, guard := g } :: rest) Q ⟨env, own, D⟩ :=
  SXL.val rfl hd hw (fun _ e => by cases e) (fun a w ha hI => by
    unfold arrE at he
    split at he
    · rename_i n' e' hu
      cases hz : sizeP C.P e' with
      | none => simp [hz] at he
      | some s' =>
        simp [hz] at he
        obtain ⟨rfl, rfl, rfl⟩ := he
        simp only [execOp, ha.eval hx, ha.eval hy]
        refine run_val ?_
        simp [Instr.index, asIntOf, run_underlying hu, run_sizeOf hz, hb, part, run_isAgg hs, Result.andThen, takeAt_drop ht]
    · cases he) h
/-- An array of parts. -/
theorem SXL.buildA {e : TypeId} {n sz : Nat} {parts : List (Nat × Operand)} {zs l : List Value} {ps : List (Nat × Value)} (hT : arrE C.P T = some (e, n, sz)) (hz : zeroP C.P T = some zs)
    (hx : evp env parts = some ps) (hb : bld (fun i => some (i * sz, sz)) zs ps = some l)
    (h : SXL C ops rest Q ⟨(d, .agg ⟨l⟩) :: env, own, D⟩) (hd : Nat.blt d C.n = true := by rfl) (hw : Wanted ops g env = some true := by rfl) :
    SXL C ops ({ dst := some d, op := .build T ⟨parts⟩, type := ty, pos, after := aft, guard := g } :: rest) Q ⟨env, own, D⟩ :=
  SXL.val rfl hd hw (fun _ e => by cases e) (fun a w ha hI => by
    have hm := evp_map ha hx
    unfold arrE at hT
    split at hT
    · rename_i n' e' hu
      cases hs : sizeP C.P e' with
      | none => simp [hs] at hT
      | some s =>
        simp [hs] at hT
        obtain ⟨rfl, rfl, rfl⟩ := hT
        unfold zeroP at hz
        cases hi : C.P.info? T with
        | none => simp [hi] at hz
        | some inf =>
          simp only [hi, Option.bind_some] at hz
          cases hzz : inf.zero with
          | none => simp [hzz] at hz
          | some zv =>
            simp only [hzz, Option.bind_some] at hz
            simp only [execOp]
            refine run_val ?_
            have hf := fill_bld hb
            rw [← hm] at hf
            have e : (Array.mk parts).map (fun (i, x) => (i, a.eval x)) = ⟨parts.map fun (i, x) => (i, a.eval x)⟩ := by simp
            rw [e]
            simp [Instr.build, zeroValue, typeInfo, hi, hzz, cellsO_cells hz, run_underlying hu, run_sizeOf hs, Result.andThen]
            have hf' : Instr.fill (fun x => some (x * s, s)) { toList := zs } (List.map (fun x => (x.fst, a.eval x.snd)) parts) = some ⟨l⟩ := hf
            rw [hf']
            simp
    · cases hT) h
/-- A slice of an array. -/
theorem SXL.sliceAH {b off n s : Nat} {k' : IntKind} {B : Int} (he : elemP C.P T = some (some n, s)) (hx : ev env x = some (.pointer (some ⟨b, off, none⟩))) (hz : ev env y = some (.int k' B)) (hb : 0 ≤ B ∧ B ≤ n)
    (h : SXL C ops rest Q ⟨(d, .slice (some ⟨b, off, none⟩) B.toNat n) :: env, own, D⟩) (hd : Nat.blt d C.n = true := by rfl) (hw : Wanted ops g env = some true := by rfl) :
    SXL C ops ({ dst := some d, op := .slice T x none (some y) none, type := ty, pos, after := aft, guard := g } :: rest) Q ⟨env, own, D⟩ :=
  SXL.val rfl hd hw (fun _ e => by cases e) (fun a w ha hI => by
    unfold elemP at he
    split at he
    · rename_i e hu
      cases hs : sizeP C.P e <;> simp [hs] at he
    · rename_i n' e hu
      cases hs : sizeP C.P e <;> simp [hs] at he
      obtain ⟨rfl, rfl⟩ := he
      simp only [execOp, ha.eval hx, ha.eval hz, Option.map_some, Option.map_none]
      exact run_val (by simp [Instr.sliceAt, Instr.sureAddr, Instr.sliceBounds, Instr.sliceBound, asIntOf, run_underlying hu, run_sizeOf hs, hb.1, hb.2, Result.andThen, addr_add])
    · cases he) h
/-- The new blocks of a segment are forgotten at its end. -/
theorem SXL.ownPre {l : List Oper} {own' t : Own} (h : SXL C ops l Q ⟨env, own', D⟩) (e : own' ++ t = own) : SXL C ops l Q ⟨env, own, D⟩ :=
  SXL.le (s' := ⟨env, own', D⟩) ⟨EnvSub.refl _, by rw [← e]; exact Sel.pre _ _, rfl⟩ h
/-- A call of whose blocks nothing is wanted. -/
theorem SXL.callP {f : FuncId} {xs : List Operand} {ats : Array TypeId} {args : List Value} (R : Value → Prop) (hf : fnOk C.P f = true) (hx : evl env xs = some args)
    (hc : ∀ w, Inv C.w0 own w → CallsR C.P f args w fun v _ => R v)
    (h : ∀ v, R v → SXL C ops rest Q ⟨(d, v) :: env, own, D⟩) (hd : Nat.blt d C.n = true := by rfl) (hw : Wanted ops g env = some true := by rfl) (hdr : C.dr = false := by rfl) :
    SXL C ops ({ dst := some d, op := .call { callee := .value (.func f), args := ⟨xs⟩, argTypes := ats }, type := ty, pos, after := aft, guard := g } :: rest) Q ⟨env, own, D⟩ :=
  SXL.callF (fun v _ => R v) hf hx hc (fun v _own' hv => SXL.le (s' := ⟨(d, v) :: env, own, D⟩) ⟨EnvSub.refl _, Sel.pre _ _, rfl⟩ (h v hv)) hd hw hdr
/-- Calls that hand back one value say it in other words. -/
theorem CallsR.eqv {P : Program} {f : FuncId} {args : List Value} {w : World} {v v' : Value} (h : CallsR P f args w fun u _ => u = v) (e : v = v') : CallsR P f args w fun u _ => u = v' := e ▸ h
theorem CallsR.iff {P : Program} {f : FuncId} {args : List Value} {w : World} {p q : Prop} {ip : Decidable p} {iq : Decidable q} (h : CallsR P f args w fun u _ => u = .bool (decide p)) (e : p ↔ q) : CallsR P f args w fun u _ => u = .bool (decide q) :=
  h.eqv (congrArg Value.bool (decide_eq_decide.2 e))
/-- The first that is so, or -1. -/
def idxF (p : Nat → Prop) [DecidablePred p] (n : Nat) : Int := match (List.range n).find? (fun k => decide (p k)) with
  | some k => k
  | none => -1
theorem idxF_some {p : Nat → Prop} [DecidablePred p] {n k : Nat} (hk : k < n) (hp : p k) (hn : ∀ i, i < k → ¬p i) : idxF p n = k := by
  have : (List.range n).find? (fun k => decide (p k)) = some k := by
    rw [List.find?_range_eq_some]
    exact ⟨by simpa using hp, by simpa using hk, fun i hi => by simpa using hn i hi⟩
  simp [idxF, this]
theorem idxF_none {p : Nat → Prop} [DecidablePred p] {n : Nat} (hn : ∀ i, i < n → ¬p i) : idxF p n = -1 := by
  have : (List.range n).find? (fun k => decide (p k)) = none := by
    rw [List.find?_range_eq_none]
    exact fun i hi => by simpa using hn i hi
  simp [idxF, this]
theorem idxF_nonneg {p : Nat → Prop} [DecidablePred p] {n : Nat} : 0 ≤ idxF p n ↔ ∃ k, k < n ∧ p k := by
  constructor
  · intro h
    refine Decidable.byContradiction fun hne => ?_
    rw [idxF_none fun i hi hp => hne ⟨i, hi, hp⟩] at h
    omega
  · rintro ⟨k, hk, hp⟩
    unfold idxF
    split
    · omega
    · rename_i hf
      rw [List.find?_range_eq_none] at hf
      have := hf k hk
      simp [hp] at this
end
end Go.X

/- The calculus' rules: a range over a function, walked in place: the function's own frame, and a round's frame within it. Nothing of the program stands here. -/
namespace Go.X
open Go Go.RowKit

/-- The loop's record. -/
abbrev LR (fn : FuncId) (T : Array Value) (ps : Array Tmp) (assign body : Code) (r : Nat) (st : LoopState) : Obj := .loop { state := st, pending := none, fn, tmps := T, params := ps, assign, body, defers := r }
/-- What the caller's frame held when the loop began. -/
def Held (n : Nat) (env : Env) (T : Array Value) : Prop := T.size = n ∧ ∀ t v, get env t = some v → T[t]? = some v
/-- What is asked when the function that is ranged over ends. -/
def rfQ (Q : Post) (env : Env) (D : List Deferred) (ob : LoopState → Obj) (r l : Nat) (own : Own) : Prop :=
  ∃ i, own[i]? = some (l, ob .ready) ∧ Q .normal ⟨env, own.set i (l, ob .exhausted), { target := .collected r, args := #[] } :: D⟩
/-- A scope of labels to which nothing jumps. -/
def scopeQ (Q : Post) : Post
  | .goto _, _ => False
  | e, s => Q e s
theorem scopeQ.normal {Q : Post} {s : St} (h : Q .normal s) : scopeQ Q .normal s := h
theorem scopeQ.ret {Q : Post} {s : St} (h : Q .ret s) : scopeQ Q .ret s := h
theorem scopeQ.exit {Q : Post} {s : St} {i : Nat} (h : Q (.exit i) s) : scopeQ Q (.exit i) s := h
theorem SX.scope {C : Cx} {Q : Post} {s : St} {c : Code} (h : SX C c (scopeQ Q) s) (hrd : C.rd = none := by rfl) : SX C (.scope c) Q s := by
  intro a w hc
  have h1 := h a w hc
  have e : FW C.rd = Fence.wide := by rw [hrd]; rfl
  rw [e] at h1 ⊢
  refine wpIn_wide.2 (wp_scope_straight (wp_mono (wpIn_wide.1 h1) ?_))
  rintro e a' w' ⟨s', hc', hq⟩
  cases e <;> first | exact hq.elim | exact ⟨s', hc', hq⟩
theorem SX.label {C : Cx} {Q : Post} {s : St} {l : Nat} (h : Q .normal s) : SX C (.label l) Q s := fun _ _ hc => wpIn_label ⟨s, hc, h⟩
section
variable {C : Cx} {Q : Post} {env : Env} {own : Own} {D : List Deferred} {ops : Array Oper} {rest : List Oper}
variable {d : Nat} {ty : TypeId} {pos : String} {aft : Array Edge} {gd : Option (Nat × Bool)} {y : Operand}
theorem SX.rangeFunc {g : Operand} {ps : Array Tmp} {assign body : Code} {f nf : Nat} {fnc : Func} {cf : Code} {first capt : List Value} {rs : List ResultVar}
    (hg : ev env g = some (.func (.func f) ⟨first⟩ ⟨capt⟩)) (hok : fnOk C.P f = true) (hf : C.P.funcs[f]? = some fnc) (hb : fnc.body = some cf) (hn : fnc.ntmps = nf) (hr : fnc.results.toList = rs) (hl : Nat.ble (first.length + 1 + capt.length) nf = true)
    (h : ∀ fn T r l (ob : LoopState → Obj), Held C.n env T → (∀ st, ob st = LR fn T ps assign body r st) → SX ⟨C.P, none, nf, C.w0, false⟩ cf (retQ ⟨C.P, none, nf, C.w0, false⟩ rs fun _ o => rfQ Q env D ob r l o)
      ⟨envOf (first ++ [.func (.yield l) ⟨[]⟩ ⟨[]⟩] ++ capt) 0, own ++ [(r, .deferred (some [])), (l, ob .ready)], []⟩) (hrd : C.rd = none := by rfl) : SX C (.rangeFunc g ps assign body) Q ⟨env, own, D⟩ := by
  intro a w hc
  refine wpIn_rangeFunc fun fn _ => ?_
  have hro : (FW C.rd).round = none := hrd
  rw [hro]
  obtain ⟨W1, hW1⟩ : ∃ W1, (w.alloc (.deferred (some []))).alloc (LR fn a.tmps ps assign body w.heap.size .ready) = W1 := ⟨_, rfl⟩
  have hI1 : Inv C.w0 (own ++ [(w.heap.size, .deferred (some [])), (w.heap.size + 1, LR fn a.tmps ps assign body w.heap.size .ready)]) W1 := by
    rw [← hW1]
    have h1 := hc.2.2.append (Inv.alloc1 w (.deferred (some [])))
    have h2 := h1.append (Inv.alloc1 (w.alloc (.deferred (some []))) (LR fn a.tmps ps assign body w.heap.size .ready))
    rw [List.append_assoc] at h2
    simpa using h2
  refine ⟨w.heap.size + 1, [{ target := .collected w.heap.size, args := #[] }], W1, { target := .fn (.func f) ⟨capt⟩, args := ⟨first⟩ ++ #[.func (.yield (w.heap.size + 1)) #[] #[]] }, W1, f, ⟨first ++ [.func (.yield (w.heap.size + 1)) ⟨[]⟩ ⟨[]⟩] ++ capt⟩, W1, ?_, ?_, fun _ _ => trivial, ?_, fun hx => (by cases hx), ?_⟩
  · rw [← hW1]; exact run_enterLoop_outer _ _ _ _ _
  · simp only [resolve, Deferred.ofValue, hc.1.eval hg]
    simp [Act.eval]
  · simp [invoke, run_callFunc hok]
  · refine callsIn_FW (Calls.mono (Calls.of_SX hI1 hf hb hn hr (by rw [Nat.ble_eq] at hl ⊢; simp only [List.length_append, List.length_singleton]; exact hl) (h fn a.tmps w.heap.size (w.heap.size + 1) (LR fn a.tmps ps assign body w.heap.size) hc.1 (fun _ => rfl))) ?_)
    rintro e w' ⟨v, own', rfl, hI', i, hi, hQ⟩
    have hb2 := (hI'.get hi rfl).2
    exact ⟨none, _, run_endLoop hb2 (by simp), ⟨env, own'.set i (w.heap.size + 1, LR fn a.tmps ps assign body w.heap.size .exhausted), { target := .collected w.heap.size, args := #[] } :: D⟩, ⟨hc.1, by simp [hc.2.1], hI'.putObj hi rfl⟩, hQ⟩

/-- What is asked at a round's end: it ends behind its last statement. -/
def roundQ (C : Cx) (ops : Array Oper) (rest : List Oper) (Q : Post) (env : Env) (D : List Deferred) (d : Nat) (ob : LoopState → Obj) (l i : Nat) : Post
  | .normal, s => s.own[i]? = some (l, ob .busy) ∧ SXL C ops rest Q ⟨(d, .bool (decide True)) :: env, s.own.set i (l, ob .ready), D⟩
  | _, _ => False
def assignQ (nx : St → Prop) (ob : LoopState → Obj) (l i : Nat) : Post
  | .normal, s => s.own[i]? = some (l, ob .ready) ∧ nx ⟨s.env, s.own.set i (l, ob .busy), s.D⟩
  | _, _ => False
/-- yield's arguments in the loop's parameters. -/
def zipE : List Nat → List Value → Env → Env
  | t :: ts, v :: vs, e => zipE ts vs ((t, v) :: e)
  | _, _, e => e
theorem agree_zip : ∀ {ts : List Nat} {vs : List Value} {n : Nat} {e : Env} {T : Array Value}, (ts.all fun t => Nat.blt t n) = true → Held n e T → Held n (zipE ts vs e) ((ts.zip vs).foldl (fun tmps (p : Nat × Value) => tmps.setIfInBounds p.1 p.2) T)
  | [], _, _, _, _, _, h => h
  | _ :: _, [], _, _, _, _, h => h
  | t :: ts, v :: vs, n, e, T, hb, h => by
    simp only [List.all_cons, Bool.and_eq_true] at hb
    simp only [zipE, List.zip_cons_cons, List.foldl_cons]
    refine agree_zip hb.2 ⟨by simp [h.1], fun t' u hu => ?_⟩
    have := (Agree.put (a := { tmps := T, defers := [] }) (n := n) (env := e) ⟨h.1, h.2⟩ hb.1 v).2 t' u hu
    simpa [Act.put] using this
/-- A call of yield: a round, in place. -/
theorem SXL.yield {xs : List Operand} {ats : Array TypeId} {vs : List Value} {l r m : Nat} {fn : FuncId} {T : Array Value} {ps : List Nat} {assign body : Code} {envT : Env}
    {ob : LoopState → Obj} (hT : Held m envT T) (hob : ∀ st, ob st = LR fn T ⟨ps⟩ assign body r st) (i : Nat) (hy : ev env y = some (.func (.yield l) ⟨[]⟩ ⟨[]⟩)) (hx : evl env xs = some vs) (hi : own[i]? = some (l, ob .ready)) (hlen : Nat.beq vs.length ps.length = true) (hps : (ps.all fun t => Nat.blt t m) = true)
    (h : SX ⟨C.P, some l, m, C.w0, false⟩ assign (assignQ (fun s => SX ⟨C.P, some l, m, C.w0, false⟩ body (roundQ C ops rest Q env D d ob l i) s) ob l i) ⟨zipE ps vs envT, own, []⟩)
    (hd : Nat.blt d C.n = true := by rfl) (hw : Wanted ops gd env = some true := by rfl) (hdr : C.dr = false := by rfl) :
    SXL C ops ({ dst := some d, op := .call { callee := .value y, args := ⟨xs⟩, argTypes := ats }, type := ty, pos, after := aft, guard := gd } :: rest) Q ⟨env, own, D⟩ := by
  refine SXL.ofn hdr ?_
  intro a w hc
  have hw' : Region.wanted ({ dst := some d, op := .call { callee := .value y, args := ⟨xs⟩, argTypes := ats }, type := ty, pos, after := aft, guard := gd } : Oper) (yielded ops a.tmps) = true := hc.1.wanted hw
  simp only [wpListIn, hw', if_true]
  refine ⟨about_true rfl, ?_⟩
  obtain rfl : ob = LR fn T ⟨ps⟩ assign body r := funext hob
  have hlr := (hc.2.2.get hi rfl).2
  have h1 := evl_map hc.1 hx
  have hyr := run_yield (P := C.P) (args := ⟨vs⟩) hlr (by simpa using Nat.eq_of_beq_eq_true hlen)
  have hrun : (execOp a.eval { dst := some d, op := .call { callee := .value y, args := ⟨xs⟩, argTypes := ats }, type := ty, pos, after := aft, guard := gd }).run C.P w = .ok (.round l fn ((ps.zip vs).foldl (fun tmps (p : Nat × Value) => tmps.setIfInBounds p.1 p.2) T) assign body) w := by
    simp only [execOp, resolve, Deferred.ofValue, hc.1.eval hy]
    simp only [List.map_toArray, h1, invoke]
    simp [hyr]
  rw [Oper.semAt_eq _ _ _ (fun _ e => by cases e), hrun]
  refine ⟨fun hx => (by cases hx), ?_⟩
  refine roundIn_of_wpIn trivial (wpIn_mono (h { tmps := _, defers := [] } w ⟨agree_zip hps hT, rfl, hc.2.2⟩) ?_)
  rintro e a1 w1 ⟨s1, hc1, hq1⟩
  cases e <;> first | exact hq1.elim | skip
  obtain ⟨hi1, hq1⟩ := hq1
  have hl1 := (hc1.2.2.get hi1 rfl).2
  refine ⟨_, run_beginRound hl1 rfl, wpIn_mono (hq1 a1 _ ⟨hc1.1, hc1.2.1, hc1.2.2.putObj hi1 rfl⟩) ?_⟩
  rintro e a2 w2 ⟨s2, hc2, hq2⟩
  cases e <;> first | exact hq2.elim | skip
  obtain ⟨hi2, hq2⟩ := hq2
  have hl2 := (hc2.2.2.get hi2 rfl).2
  refine ⟨_, _, run_endRound none hl2, ?_⟩
  exact hq2.ton hdr _ _ ⟨hc.1.put hd _, by rw [put_defers]; exact hc.2.1, hc2.2.2.putObj hi2 rfl⟩
end
theorem retQ.zeroN {C : Cx} {env : Env} {own : Own} {R : Value → Own → Prop} (hR : R (.tuple ⟨[]⟩) own) : retQ C [] R .normal ⟨env, own, []⟩ := ⟨own, .nil _, [], trivial, own, fun _ _ h => h, hR⟩
end Go.X

/- The calculus' rules: sums that may turn over. Nothing of the program stands here. -/
namespace Go.X
open Go Go.RowKit
section
variable {C : Cx} {Q : Post} {env : Env} {own : Own} {D : List Deferred} {ops : Array Oper} {rest : List Oper}
variable {d : Nat} {ty : TypeId} {pos : String} {aft : Array Edge} {g : Option (Nat × Bool)} {x y : Operand} {T T' : TypeId} {A B : Int}
theorem SXL.subW (hx : ev env x = some (.int .i64 A)) (hy : ev env y = some (.int .i64 B))
    (h : SXL C ops rest Q ⟨(d, .int .i64 (IntKind.i64.wrap (A - B))) :: env, own, D⟩) (hd : Nat.blt d C.n = true := by rfl) (hw : Wanted ops g env = some true := by rfl) :
    SXL C ops ({ dst := some d, op := .binOp .sub T x y T', type := ty, pos, after := aft, guard := g } :: rest) Q ⟨env, own, D⟩ :=
  SXL.bin hx hy (r := .int .i64 (IntKind.i64.wrap (A - B))) (fun _w => rfl) hd hw h
theorem wrap_in {A : Int} (h : -9223372036854775808 ≤ A ∧ A ≤ 9223372036854775807) : IntKind.i64.wrap A = A := IntWalk.i64_in _ h
end
end Go.X

/- Springs, lines, readings: the plain words. Nothing of Go stands here. -/
namespace Go.S
structure Ln where
  (r0 r1 wk g0 g1 : Int)
  deriving DecidableEq, Inhabited
structure Rd where
  (num wk bu s0 s1 : Int)
  deriving DecidableEq, Inhabited
structure Sp where
  (weeks most fall a0 a1 w0 w1 : Int)
  book : List Ln
  reads : List Rd
  deriving DecidableEq, Inhabited

abbrev Wi (n lo hi : Int) : Prop := lo ≤ n ∧ n ≤ hi
/-- A span (a, b) of numbers from lo to hi. -/
abbrev Spn (a b lo hi : Int) : Prop := Wi b lo hi ∧ Wi a lo b
abbrev RdP (x : Rd) (weeks : Int) : Prop := (((Wi x.num 1 9999 ∧ Wi x.wk 0 (weeks - 1)) ∧ Wi x.bu 1 40) ∧ Spn x.s0 x.s1 0 99) ∧ 0 < x.s1
abbrev LnP (x : Ln) (weeks : Int) : Prop := (Spn x.r0 x.r1 0 20 ∧ Wi x.wk 0 (weeks - 1)) ∧ Spn x.g0 x.g1 0 100
def HeadP (s : Sp) : Prop := Wi s.weeks 1 10 ∧ Wi s.most 0 100 ∧ Wi s.fall 0 100 ∧ Spn s.a0 s.a1 1 600 ∧ Spn s.w0 s.w1 0 20 ∧ s.book.length ≤ 8 ∧ s.reads.length ≤ 12
def BookP (s : Sp) : Prop := ∀ i, (h : i < s.book.length) → LnP s.book[i] s.weeks
def ReadsP (s : Sp) : Prop := ∀ i, (h : i < s.reads.length) → RdP s.reads[i] s.weeks ∧ (0 < i → (s.reads.getD (i - 1) default).num < s.reads[i].num)
instance (s : Sp) : Decidable (HeadP s) := by unfold HeadP; infer_instance
instance (s : Sp) : Decidable (BookP s) := by unfold BookP; infer_instance
instance (s : Sp) : Decidable (ReadsP s) := by unfold ReadsP; infer_instance
/-- A valid spring. -/
def SpP (s : Sp) : Prop := HeadP s ∧ BookP s ∧ ReadsP s
instance (s : Sp) : Decidable (SpP s) := by unfold SpP; infer_instance
/-- A reading is true if it gives so much. -/
abbrev Right (s : Sp) (x : Rd) (n : Int) : Prop := (0 < n ∧ x.s0 * s.a0 * n ≤ 3600 * x.bu) ∧ 3600 * x.bu ≤ x.s1 * s.a1 * n
theorem mul3 {a b c A B D : Int} (h0 : 0 ≤ a) (h1 : a ≤ A) (h2 : 0 ≤ b) (h3 : b ≤ B) (h4 : 0 ≤ c) (h5 : c ≤ D) : 0 ≤ a * b ∧ a * b ≤ A * B ∧ 0 ≤ a * b * c ∧ a * b * c ≤ A * B * D := by
  have e1 : 0 ≤ a * b := Int.mul_nonneg h0 h2
  have e2 : a * b ≤ A * B := Int.mul_le_mul h1 h3 h2 (by omega)
  exact ⟨e1, e2, Int.mul_nonneg e1 h4, Int.mul_le_mul e2 h5 h4 (by omega)⟩
end Go.S

/- Springs, lines, readings in memory. -/
namespace Go.S
open Go Go.X
def Ln.cells (x : Ln) : List Value := [.int .i64 x.r0, .int .i64 x.r1, .int .i64 x.wk, .int .i64 x.g0, .int .i64 x.g1]
def Rd.cells (x : Rd) : List Value := [.int .i64 x.num, .int .i64 x.wk, .int .i64 x.bu, .int .i64 x.s0, .int .i64 x.s1]
theorem _root_.Go.X.Mem.sub {w0 : World} {own : X.Own} {b off j k : Nat} {vs us : List Value} (h : Mem w0 own b off vs) (hj : takeAt vs j k = some us) : Mem w0 own b (off + j) us := by
  intro w hI i v hi
  obtain ⟨h1, h2⟩ := takeAt_spec hj
  have hik : i < k := by
    have := (List.getElem?_eq_some_iff.1 hi).1
    omega
  have := h w hI (j + i) v (by rw [h2 i hik]; exact hi)
  rwa [show off + (j + i) = off + j + i by omega] at this
/-- A spring's two slices in memory. -/
structure SpAt (w : World) (s : Sp) (bo ro : Option Addr) : Prop where
  book : RowsAt w bo 5 (s.book.map Ln.cells)
  reads : RowsAt w ro 5 (s.reads.map Rd.cells)
variable {w0 w : World} {own : X.Own} {s : Sp} {bo ro : Option Addr}
theorem SpAt.inv (h : SpAt w0 s bo ro) (hI : Inv w0 own w) : SpAt w s bo ro := ⟨h.book.inv hI, h.reads.inv hI⟩
theorem SpAt.line (h : SpAt w s bo ro) {i : Nat} (hi : i < s.book.length) :
    ∃ b o, bo = some ⟨b, o, none⟩ ∧ ∀ own, Mem w own b (o + i * 5) s.book[i].cells := h.book.get (by simp [hi])
theorem SpAt.read (h : SpAt w s bo ro) {i : Nat} (hi : i < s.reads.length) :
    ∃ b o, ro = some ⟨b, o, none⟩ ∧ ∀ own, Mem w own b (o + i * 5) s.reads[i].cells := h.reads.get (by simp [hi])
theorem SpAt.readI (h : SpAt w s bo ro) {i : Int} (h0 : 0 ≤ i) (hi : i < s.reads.length) :
    ∃ b o, ro = some ⟨b, o, none⟩ ∧ ∀ own, Mem w own b (o + i.toNat * 5) (s.reads.getD i.toNat default).cells := by
  have hn : i.toNat < s.reads.length := by omega
  obtain ⟨b, o, h1, h2⟩ := h.read hn
  refine ⟨b, o, h1, fun own => ?_⟩
  have := h2 own
  rwa [show s.reads[i.toNat] = s.reads.getD i.toNat default from by simp [hn]] at this
end Go.S

/- What readings and lines leave of each week: the plain words, step by step as the reference goes. Nothing of Go stands here. -/
namespace Go.S
open Go.X (G)
/-- Twenty numbers of bounded size. -/
def Bd (L : List Int) : Prop := L.length = 20 ∧ ∀ i, i < 20 → -1000 ≤ G L i ∧ G L i ≤ 1000
theorem G_set {L : List Int} {i j : Nat} {x : Int} (hi : i < L.length) : G (L.set i x) j = if i = j then x else G L j := by
  simp only [G, List.getD, List.getElem?_set]
  split
  · rename_i h; subst h; simp
  · rfl
theorem Bd.set {L : List Int} (h : Bd L) {i : Nat} {x : Int} (hx : -1000 ≤ x ∧ x ≤ 1000) : Bd (L.set i x) := by
  refine ⟨by simp [h.1], fun j hj => ?_⟩
  by_cases hi : i < L.length
  · rw [G_set hi]
    split
    · exact hx
    · exact h.2 j hj
  · rw [List.set_eq_of_length_le (by omega)]
    exact h.2 j hj
theorem Bd.len {L : List Int} (h : Bd L) : L.length = 20 := h.1
theorem Bd.zero : Bd (List.replicate 20 0) := ⟨by simp, by decide⟩

/-! ### base -/
def OkP (s : Sp) (w : Nat) (n : Int) : Prop := ∀ i, (h : i < s.reads.length) → s.reads[i].wk ≠ w ∨ Right s s.reads[i] n
def OkTo (s : Sp) (w : Nat) (n : Int) (k : Nat) : Prop := ∀ i, i < k → (h : i < s.reads.length) → s.reads[i].wk ≠ w ∨ Right s s.reads[i] n
instance (s : Sp) (w : Nat) (n : Int) : Decidable (OkP s w n) := by unfold OkP; infer_instance
instance (s : Sp) (w : Nat) (n : Int) (k : Nat) : Decidable (OkTo s w n k) := by unfold OkTo; infer_instance
def bstep (s : Sp) (w : Nat) (L : List Int) (n : Nat) : List Int := if OkP s w n then (L.set w (min (G L w) n)).set (10 + w) n else L
def weekTo (s : Sp) (L : List Int) (w : Nat) : Nat → List Int
  | 0 => (L.set w (s.most + 1)).set (10 + w) (-1)
  | j + 1 => bstep s w (weekTo s L w j) j
def baseTo (s : Sp) : Nat → List Int
  | 0 => List.replicate 20 0
  | k + 1 => weekTo s (baseTo s k) k (s.most.toNat + 1)
def baseL (s : Sp) : List Int := baseTo s s.weeks.toNat
theorem Bd.week {s : Sp} {L : List Int} (h : Bd L) (hm : Wi s.most 0 100) {w : Nat} (hw : w < 10) : ∀ j, j ≤ s.most.toNat + 1 → Bd (weekTo s L w j)
  | 0, _ => (h.set (by omega)).set (by omega)
  | j + 1, hj => by
    have ih := Bd.week h hm hw j (by omega)
    simp only [weekTo, bstep]
    split
    · have := ih.2 w (by omega)
      exact (ih.set (by omega)).set (by omega)
    · exact ih
theorem Bd.base {s : Sp} (hm : Wi s.most 0 100) : ∀ k, k ≤ 10 → Bd (baseTo s k)
  | 0, _ => Bd.zero
  | k + 1, hk => (Bd.base hm k (by omega)).week hm (by omega) _ (Nat.le_refl _)

/-! ### leaves -/
def lineStep (rain : Int) (x : Ln) (L : List Int) : List Int :=
  if Wi rain x.r0 x.r1 then (L.set x.wk.toNat (max (G L x.wk.toNat) x.g0)).set (10 + x.wk.toNat) (min (G L (10 + x.wk.toNat)) x.g1) else L
def linesTo (s : Sp) (L : List Int) (rain : Int) : Nat → List Int
  | 0 => L
  | k + 1 => match s.book[k]? with
    | some x => lineStep rain x (linesTo s L rain k)
    | none => linesTo s L rain k
def fwdTo (fall : Int) (L : List Int) : Nat → List Int
  | 0 => L
  | j + 1 => let M := fwdTo fall L j
    (M.set (j + 1) (max (G M (j + 1)) (G M j - fall))).set (10 + (j + 1)) (min (G M (10 + (j + 1))) (G M (10 + j)))
def bwdAt (fall : Int) (M : List Int) (w : Nat) : List Int := (M.set w (max (G M w) (G M (w + 1)))).set (10 + w) (min (G M (10 + w)) (G M (10 + (w + 1)) + fall))
/-- From week n - 1 down: j weeks. -/
def bwdTo (fall : Int) (n : Nat) (L : List Int) : Nat → List Int
  | 0 => L
  | j + 1 => bwdAt fall (bwdTo fall n L j) (n - 1 - j)
def lvL (s : Sp) (L : List Int) (rain : Int) : List Int := bwdTo s.fall (s.weeks.toNat - 1) (fwdTo s.fall (linesTo s L rain s.book.length) (s.weeks.toNat - 1)) (s.weeks.toNat - 1)
def lvB (s : Sp) (L : List Int) (rain : Int) : Prop := ∀ w, w < s.weeks.toNat → G (lvL s L rain) w ≤ G (lvL s L rain) (10 + w)
instance (s : Sp) (L : List Int) (rain : Int) : Decidable (lvB s L rain) := by unfold lvB; infer_instance
theorem Bd.lines {s : Sp} {L : List Int} (h : Bd L) (hb : BookP s) (hw : Wi s.weeks 1 10) (rain : Int) : ∀ k, Bd (linesTo s L rain k)
  | 0 => h
  | k + 1 => by
    have ih := Bd.lines h hb hw rain k
    simp only [linesTo]
    split
    · rename_i x hx
      obtain ⟨hk, rfl⟩ := List.getElem?_eq_some_iff.1 hx
      have hl := hb k hk
      simp only [lineStep]
      split
      · have h1 := ih.2 s.book[k].wk.toNat (by omega)
        have h2 := ih.2 (10 + s.book[k].wk.toNat) (by omega)
        exact (ih.set (by omega)).set (by omega)
      · exact ih
    · exact ih
theorem Bd.fwd {fall : Int} {L : List Int} (h : Bd L) (hf : Wi fall 0 100) : ∀ j, j ≤ 9 → Bd (fwdTo fall L j)
  | 0, _ => h
  | j + 1, hj => by
    have ih := Bd.fwd h hf j (by omega)
    have h1 := ih.2 j (by omega); have h2 := ih.2 (j + 1) (by omega); have h3 := ih.2 (10 + j) (by omega); have h4 := ih.2 (10 + (j + 1)) (by omega)
    exact (ih.set (by omega)).set (by omega)
theorem Bd.bwdAt {fall : Int} {M : List Int} (ih : Bd M) (hf : Wi fall 0 100) {w : Nat} (hw : w ≤ 8) : Bd (bwdAt fall M w) := by
  have h1 := ih.2 w (by omega); have h2 := ih.2 (w + 1) (by omega); have h3 := ih.2 (10 + w) (by omega); have h4 := ih.2 (10 + (w + 1)) (by omega)
  exact (ih.set (by omega)).set (by omega)
theorem Bd.bwd {fall : Int} {L : List Int} (h : Bd L) (hf : Wi fall 0 100) {n : Nat} (hn : n ≤ 9) : ∀ j, j ≤ n → Bd (bwdTo fall n L j)
  | 0, _ => h
  | j + 1, hj => (Bd.bwd h hf hn j (by omega)).bwdAt hf (by omega)
theorem Bd.lv {s : Sp} {L : List Int} (h : Bd L) (hs : SpP s) (rain : Int) : Bd (lvL s L rain) := by
  have h1 := hs.1; unfold HeadP at h1
  exact (((h.lines hs.2.1 h1.1 rain _).fwd h1.2.2.1 _ (by omega)).bwd h1.2.2.1 (by omega) _ (Nat.le_refl _))
end Go.S

/- Rains, and what they leave; the hull: the plain words, step by step as the reference goes. Nothing of Go stands here. -/
namespace Go.S
open Go.X (G)
def rnsTo (s : Sp) (L : List Int) : Nat → List Int
  | 0 => []
  | k + 1 => if lvB s L (s.w0 + k) then rnsTo s L k ++ [s.w0 + (k : Int)] else rnsTo s L k
def rnN (s : Sp) : Nat := (s.w1 + 1 - s.w0).toNat
def rnsL (s : Sp) (L : List Int) : List Int := rnsTo s L (rnN s)
def lvsL (s : Sp) (L : List Int) (rs : List Int) : List (List Int) := rs.map (lvL s L)
theorem rnsTo_yes {s : Sp} {L : List Int} {k : Nat} (h : lvB s L (s.w0 + k)) : rnsTo s L (k + 1) = rnsTo s L k ++ [s.w0 + (k : Int)] := if_pos h
theorem rnsTo_no {s : Sp} {L : List Int} {k : Nat} (h : ¬lvB s L (s.w0 + k)) : rnsTo s L (k + 1) = rnsTo s L k := if_neg h
theorem rnsTo_len (s : Sp) (L : List Int) : ∀ k, (rnsTo s L k).length ≤ k
  | 0 => Nat.le_refl _
  | k + 1 => by
    have := rnsTo_len s L k
    simp only [rnsTo]
    split <;> simp <;> omega
/-- The error of a spring and a week. -/
def toldE (s : Sp) (week : Int) : Int := if ¬SpP s then 10 else if ¬Wi week 0 (s.weeks - 1) then 11 else if rnsL s (baseL s) = [] then 8 else 0
def toldL (s : Sp) (week : Int) : List Int := if toldE s week = 0 then rnsL s (baseL s) else []
def toldA (s : Sp) (week : Int) : List (List Int) := lvsL s (baseL s) (toldL s week)
def hLoTo (A : List (List Int)) (w : Nat) : Nat → Int
  | 0 => G (A.getD 0 []) w
  | k + 1 => min (hLoTo A w k) (G (A.getD k []) w)
def hHiTo (A : List (List Int)) (w : Nat) : Nat → Int
  | 0 => G (A.getD 0 []) (10 + w)
  | k + 1 => max (hHiTo A w k) (G (A.getD k []) (10 + w))
def hLo (A : List (List Int)) (w : Nat) : Int := hLoTo A w A.length
def hHi (A : List (List Int)) (w : Nat) : Int := hHiTo A w A.length
end Go.S
namespace Go.S
open Go.X (G)
theorem lvsL_len {s : Sp} {L : List Int} (hL : Bd L) (hv : SpP s) (rs : List Int) : ∀ x ∈ lvsL s L rs, x.length = 20 := by
  intro x hx
  obtain ⟨r, _, rfl⟩ := List.mem_map.1 hx
  exact (hL.lv hv r).len
theorem baseL_Bd {s : Sp} (hv : SpP s) : Bd (baseL s) := by
  have h := hv.1; unfold HeadP at h
  exact Bd.base h.2.1 _ (by omega)
theorem toldA_len {s : Sp} (week : Int) : ∀ x ∈ toldA s week, x.length = 20 := by
  unfold toldA toldL
  by_cases h : toldE s week = 0
  · rw [if_pos h]
    have hv : SpP s := by
      by_cases hv : SpP s
      · exact hv
      · rw [toldE, if_pos hv] at h; cases h
    exact lvsL_len (baseL_Bd hv) hv _
  · rw [if_neg h]; intro x hx; simp [lvsL] at hx
theorem toldE_bad {s : Sp} {week : Int} (h : ¬SpP s) : toldE s week = 10 := if_pos h
theorem toldE_week {s : Sp} {week : Int} (h : SpP s) (h2 : ¬Wi week 0 (s.weeks - 1)) : toldE s week = 11 := by rw [toldE, if_neg (by simpa using h), if_pos h2]
theorem toldE_none {s : Sp} {week : Int} (h : SpP s) (h2 : Wi week 0 (s.weeks - 1)) (h3 : rnsL s (baseL s) = []) : toldE s week = 8 := by rw [toldE, if_neg (by simpa using h), if_neg (by simpa using h2), if_pos h3]
theorem toldE_ok {s : Sp} {week : Int} (h : SpP s) (h2 : Wi week 0 (s.weeks - 1)) (h3 : rnsL s (baseL s) ≠ []) : toldE s week = 0 := by rw [toldE, if_neg (by simpa using h), if_neg (by simpa using h2), if_neg h3]
theorem toldL_bad {s : Sp} {week e : Int} (h : toldE s week = e) (he : e ≠ 0) : toldL s week = [] := if_neg (by rw [h]; exact he)
theorem toldL_ok {s : Sp} {week : Int} (h : toldE s week = 0) : toldL s week = rnsL s (baseL s) := if_pos h
theorem toldE_valid {s : Sp} {week : Int} (h : toldE s week = 0) : SpP s ∧ Wi week 0 (s.weeks - 1) ∧ rnsL s (baseL s) ≠ [] := by
  unfold toldE at h
  split at h
  · cases h
  split at h
  · cases h
  split at h
  · cases h
  rename_i h1 h2 h3
  exact ⟨by simpa using h1, by simpa using h2, h3⟩
end Go.S
namespace Go.S
abbrev TrueP (s : Sp) : Prop := rnsL s (baseL s) ≠ []
theorem len_pos_iff {α : Type} (l : List α) : (0 : Int) < (l.length : Int) ↔ l ≠ [] := by
  cases l <;> simp
def givesE (s : Sp) (week : Int) : Int := toldE s week
def givesLo (s : Sp) (week : Int) : Int := if toldE s week = 0 then hLo (toldA s week) week.toNat else 0
def givesHi (s : Sp) (week : Int) : Int := if toldE s week = 0 then hHi (toldA s week) week.toNat else 0
def knownV (s : Sp) (week need : Int) : Int := if toldE s week ≠ 0 then 0 else if need ≤ givesLo s week then 2 else if givesHi s week < need then 0 else 1
end Go.S
namespace Go.S
theorem rnsL_max {s : Sp} (hv : SpP s) (L : List Int) : (rnsL s L).length ≤ 21 := by
  have h := hv.1; unfold HeadP at h
  have := rnsTo_len s L (rnN s)
  have e : rnN s = (s.w1 + 1 - s.w0).toNat := rfl
  unfold rnsL
  omega
theorem toldA_max {s : Sp} {week : Int} (h : toldE s week = 0) : (toldA s week).length ≤ 21 := by
  obtain ⟨hv, _, _⟩ := toldE_valid h
  rw [toldA, toldL_ok h, lvsL, List.length_map]
  exact rnsL_max hv _
end Go.S
