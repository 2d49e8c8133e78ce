/- The walk's own calculus: a frame is a list of known slots, a world is the first world with a list of blocks of the call's own. Nothing of the program stands here. -/
import Derived.WalkKit
import Derived.WalkLawsBesides
import Derived.RangeFuncNested
import Derived.OrdersIn
namespace Go.X
open Go Go.RowKit

/-- The fence that lets everything in, in a round or not. -/
def FW (rd : Option Nat) : Fence := { fn := fun _ => True, depth := none, alive := false, round := rd }

abbrev Env := List (Nat × Value)
def get : Env → Nat → Option Value
  | [], _ => none
  | (d, v) :: r, t => bif Nat.beq d t then some v else get r t
abbrev Own := List (Nat × Obj)

structure St where
  env : Env
  own : Own
  D : List Deferred

structure Cx where
  P : Program
  rd : Option Nat
  n : Nat
  w0 : World
  dr : Bool

def Agree (n : Nat) (env : Env) (a : Act) : Prop := a.tmps.size = n ∧ ∀ t v, get env t = some v → a.tmps[t]? = some v

/-- An entry without cells stands for no block. -/
def live : Nat × Obj → Bool
  | (_, .cells ⟨[]⟩ _ _) => false
  | _ => true
theorem live_of_get {b : Nat} {l : List Value} {E : TypeId} {fz : Nat × Nat} {j : Nat} {u : Value} (h : l[j]? = some u) : live (b, .cells ⟨l⟩ E fz) = true := by
  cases l with
  | nil => simp at h
  | cons x l => rfl
theorem live_of_len {b : Nat} {l : List Value} {E : TypeId} {fz : Nat × Nat} (h : 0 < l.length) : live (b, .cells ⟨l⟩ E fz) = true := by
  cases l with
  | nil => simp at h
  | cons x l => rfl
structure Inv (w0 : World) (own : Own) (w : World) : Prop where
  below : Below w0.heap.size w0 w
  mem : ∀ p ∈ own, live p = true → w0.heap.size ≤ p.1 ∧ w.heap[p.1]? = some p.2
  nodup : ((own.filter live).map (·.1)).Nodup

def Conc (n : Nat) (w0 : World) (s : St) (a : Act) (w : World) : Prop := Agree n s.env a ∧ a.defers = s.D ∧ Inv w0 s.own w

abbrev Post := Exit → St → Prop
def lift (C : Cx) (Q : Post) : Exit → Act → World → Prop := fun e a w => ∃ s, Conc C.n C.w0 s a w ∧ Q e s

def SX (C : Cx) (c : Code) (Q : Post) (s : St) : Prop := ∀ a w, Conc C.n C.w0 s a w → c.wpIn (FW C.rd) 0 C.P (lift C Q) a w
/-- An operation that yields the one value v in every world of S, and keeps all that there was. -/
def QOp (C : Cx) (ops : Array Oper) (S : World → Prop) (o : Oper) (a : Act) (v : Value) : Prop :=
  ∀ w, S w → ∀ K : Act → World → Prop, (∀ w', Below w.heap.size w w' → K (a.put o.dst v) w') →
    if Region.wanted o (yielded ops a.tmps) then o.wpIn (FW C.rd) 0 C.P a w K (fun _ _ _ => False) else (∀ f, o.about C.P w a.eval = some f → (FW C.rd).fn f) ∧ K (a.put o.dst undef) w
/-- Such operations, one behind the other. -/
def QList (C : Cx) (ops : Array Oper) (S : World → Prop) : List Oper → (Act → Prop) → Act → Prop
  | [], K, a => K a
  | o :: rest, K, a => ∃ v, QOp C ops S o a v ∧ QList C ops S rest K (a.put o.dst v)
def SXLn (C : Cx) (ops : Array Oper) (l : List Oper) (Q : Post) (s : St) : Prop :=
  ∀ a w, Conc C.n C.w0 s a w → wpListIn (FW C.rd) 0 C.P ops (lift C Q) l a w
def SXLq (C : Cx) (ops : Array Oper) (l : List Oper) (Q : Post) (s : St) : Prop :=
  ∀ a, Agree C.n s.env a → a.defers = s.D → QList C ops (Inv C.w0 s.own) l (fun a' => ∃ s', Agree C.n s'.env a' ∧ a'.defers = s'.D ∧ (∀ w, Inv C.w0 s.own w → Inv C.w0 s'.own w) ∧ Q .normal s') a
/-- A list of operations; where 'dr' is set each is asked to be quiet. -/
def SXL (C : Cx) (ops : Array Oper) (l : List Oper) (Q : Post) (s : St) : Prop :=
  match C.dr with
  | false => SXLn C ops l Q s
  | true => SXLq C ops l Q s
theorem SXL.ofn {C : Cx} {ops : Array Oper} {l : List Oper} {Q : Post} {s : St} (hd : C.dr = false) (h : SXLn C ops l Q s) : SXL C ops l Q s := by unfold SXL; rw [hd]; exact h
theorem SXL.ofq {C : Cx} {ops : Array Oper} {l : List Oper} {Q : Post} {s : St} (hd : C.dr = true) (h : SXLq C ops l Q s) : SXL C ops l Q s := by unfold SXL; rw [hd]; exact h
theorem SXL.ton {C : Cx} {ops : Array Oper} {l : List Oper} {Q : Post} {s : St} (h : SXL C ops l Q s) (hd : C.dr = false) : SXLn C ops l Q s := by unfold SXL at h; rw [hd] at h; exact h
theorem SXL.toq {C : Cx} {ops : Array Oper} {l : List Oper} {Q : Post} {s : St} (h : SXL C ops l Q s) (hd : C.dr = true) : SXLq C ops l Q s := by unfold SXL at h; rw [hd] at h; exact h
theorem SXL.ofb {C : Cx} {ops : Array Oper} {l : List Oper} {Q : Post} {s : St} (hn : C.dr = false → SXLn C ops l Q s) (hq : C.dr = true → SXLq C ops l Q s) : SXL C ops l Q s := by
  cases hd : C.dr
  · exact .ofn hd (hn hd)
  · exact .ofq hd (hq hd)
theorem QList.mono {C : Cx} {ops : Array Oper} {S S' : World → Prop} (hS : ∀ w, S' w → S w) : ∀ {l : List Oper} {K K' : Act → Prop} {a : Act}, (∀ a, K a → K' a) → QList C ops S l K a → QList C ops S' l K' a
  | [], _, _, _, hK, h => hK _ h
  | _ :: _, _, _, _, hK, ⟨v, h1, h2⟩ => ⟨v, fun w hw => h1 w (hS w hw), QList.mono hS hK h2⟩
theorem QList.append {C : Cx} {ops : Array Oper} {S : World → Prop} : ∀ {l l' : List Oper} {K : Act → Prop} {a : Act}, QList C ops S l (QList C ops S l' K) a → QList C ops S (l ++ l') K a
  | [], _, _, _, h => h
  | _ :: _, _, _, _, ⟨v, h1, h2⟩ => ⟨v, h1, QList.append h2⟩

/-! ### frames -/
theorem Agree.put {n : Nat} {env : Env} {a : Act} (h : Agree n env a) {d : Nat} (hd : Nat.blt d n = true) (v : Value) : Agree n ((d, v) :: env) (a.put (some d) v) := by
  have hd' : d < n := by simpa [Nat.blt_eq] using hd
  refine ⟨by simp [Act.put, h.1], fun t u ht => ?_⟩
  simp only [get] at ht
  simp only [Act.put]
  by_cases hdt : d = t
  · subst hdt
    simp at ht
    subst ht
    simp [h.1, hd']
  · rw [show Nat.beq d t = false from by rw [← Bool.not_eq_true]; intro hh; exact hdt (Nat.eq_of_beq_eq_true hh)] at ht
    simp only [cond_false] at ht
    have := h.2 t u ht
    rw [Array.getElem?_setIfInBounds, if_neg hdt]
    exact this
theorem Agree.put_none {n : Nat} {env : Env} {a : Act} (h : Agree n env a) (v : Value) : Agree n env (a.put none v) := h
@[simp] theorem put_defers (a : Act) (d : Option Tmp) (v : Value) : (a.put d v).defers = a.defers := by cases d <;> rfl

/-- What an operand is, as far as it is known. -/
def ev (env : Env) : Operand → Option Value
  | .tmp t => get env t
  | .const v => some v
  | .global g => some (.pointer (some ⟨g, 0, none⟩))
  | .func f => some (.func (.func f) #[] #[])
theorem Agree.eval {n : Nat} {env : Env} {a : Act} (h : Agree n env a) {x : Operand} {v : Value} (hx : ev env x = some v) : a.eval x = v := by
  cases x with
  | tmp t =>
    have := h.2 t v hx
    simp [Act.eval, this]
  | const u => simpa [ev, Act.eval] using hx
  | global g => simpa [ev, Act.eval] using hx
  | func f => simpa [ev, Act.eval] using hx

/-- Is an operation wanted, as far as is known? -/
def Wanted (ops : Array Oper) (g : Option (Nat × Bool)) (env : Env) : Option Bool :=
  match g with
  | none => some true
  | some (j, want) =>
    match (ops[j]?).bind (·.dst) with
    | some t => match get env t with
      | some (.bool b) => some (b == want)
      | some (.tuple _) => some false
      | _ => none
    | none => none
theorem Agree.wanted {n : Nat} {env : Env} {a : Act} (h : Agree n env a) {ops : Array Oper} {o : Oper} {b : Bool} (hw : Wanted ops o.guard env = some b) :
    Region.wanted o (yielded ops a.tmps) = b := by
  unfold Wanted at hw
  unfold Region.wanted
  split at hw
  · rename_i hg; rw [hg]; simpa using hw
  · rename_i j want hg
    rw [hg]
    split at hw
    · rename_i t ht
      split at hw
      · rename_i c hc
        have := h.2 t _ hc
        simp only [Option.some.injEq] at hw
        subst hw
        simp [yielded, ht, this, BEq.comm]
      · rename_i vs hc
        have := h.2 t _ hc
        simp only [Option.some.injEq] at hw
        subst hw
        simp [yielded, ht, this]
      · cases hw
    · cases hw

/-! ### worlds -/
theorem Inv.start (w : World) : Inv w [] w := ⟨Below.refl _ _, fun _ h => (by cases h), List.nodup_nil⟩
theorem Inv.get {w0 w : World} {own : Own} (h : Inv w0 own w) {i : Nat} {p : Nat × Obj} (hi : own[i]? = some p) (hl : live p = true) : w0.heap.size ≤ p.1 ∧ w.heap[p.1]? = some p.2 :=
  h.mem p (List.mem_of_getElem? hi) hl
theorem Inv.lt {w0 w : World} {own : Own} (h : Inv w0 own w) {p : Nat × Obj} (hp : p ∈ own) (hl : live p = true) : p.1 < w.heap.size :=
  (Array.getElem?_eq_some_iff.1 (h.mem p hp hl).2).1
/-- What is below the first world's end, or of the call's own, is kept by whatever keeps all that there was. -/
theorem Inv.ext {w0 w w' : World} {own : Own} (h : Inv w0 own w) (hb : Below w.heap.size w w') : Inv w0 own w' :=
  ⟨h.below.trans (hb.mono h.below.size), fun p hp hl => ⟨(h.mem p hp hl).1, by rw [hb.block _ (h.lt hp hl)]; exact (h.mem p hp hl).2⟩, h.nodup⟩
theorem Inv.weaken {w0 w : World} {own own' : Own} (h : Inv w0 own w) (hs : own'.Sublist own) : Inv w0 own' w :=
  ⟨h.below, fun p hp => h.mem p (hs.subset hp), h.nodup.sublist ((hs.filter _).map _)⟩
theorem Inv.perm {w0 w : World} {own own' : Own} (h : Inv w0 own w) (hs : own'.Perm own) : Inv w0 own' w :=
  ⟨h.below, fun p hp => h.mem p (hs.subset hp), ((hs.filter _).map _).nodup_iff.2 h.nodup⟩
/-- An entry that stands for no block. -/
theorem Inv.pad {w0 w : World} {own : Own} (h : Inv w0 own w) {p : Nat × Obj} (hp : live p = false) : Inv w0 (own ++ [p]) w :=
  ⟨h.below, fun q hq hl => by
    rcases List.mem_append.1 hq with hq | hq
    · exact h.mem q hq hl
    · have : q = p := by simpa using hq
      subst this
      exact absurd hl (by rw [hp]; exact Bool.false_ne_true), by
    rw [List.filter_append, show [p].filter live = [] from by simp [hp], List.append_nil]
    exact h.nodup⟩
/-- New blocks behind all. -/
theorem Inv.append {w0 w w' : World} {own own' : Own} (h : Inv w0 own w) (h' : Inv w own' w') : Inv w0 (own ++ own') w' := by
  have he := h.ext h'.below
  refine ⟨he.below, fun p hp hl => ?_, ?_⟩
  · rcases List.mem_append.1 hp with hp | hp
    · exact he.mem p hp hl
    · exact ⟨Nat.le_trans h.below.size (h'.mem p hp hl).1, (h'.mem p hp hl).2⟩
  · rw [List.filter_append, List.map_append, List.nodup_append]
    refine ⟨h.nodup, h'.nodup, fun x hx y hy hxy => ?_⟩
    obtain ⟨p, hp, rfl⟩ := List.mem_map.1 hx
    obtain ⟨q, hq, rfl⟩ := List.mem_map.1 hy
    have hp := List.mem_filter.1 hp
    have hq := List.mem_filter.1 hq
    have h1 := h.lt hp.1 hp.2
    have h2 := (h'.mem q hq.1 hq.2).1
    omega
theorem below_alloc (w : World) (o : Obj) : Below w.heap.size w (w.alloc o) := (Below.refl _ _).alloc (Nat.le_refl _) _
theorem Inv.alloc1 (w : World) (o : Obj) : Inv w [(w.heap.size, o)] (w.alloc o) :=
  ⟨below_alloc w o, fun p hp _ => by
    have : p = (w.heap.size, o) := by simpa using hp
    subst this
    exact ⟨Nat.le_refl _, by show (w.heap.push o)[w.heap.size]? = some o; simp⟩, by
    cases h : live (w.heap.size, o) <;> simp [List.filter, h]⟩

theorem mem_set_split {α : Type} {l : List α} {i : Nat} {x p : α} (h : p ∈ l.set i x) : p = x ∨ ∃ j, j ≠ i ∧ l[j]? = some p := by
  obtain ⟨j, hj, hjp⟩ := List.getElem_of_mem h
  rw [List.getElem_set] at hjp
  by_cases hij : i = j
  · rw [if_pos hij] at hjp; exact .inl hjp.symm
  · rw [if_neg hij] at hjp
    exact .inr ⟨j, fun e => hij e.symm, by rw [← hjp]; exact List.getElem?_eq_getElem _⟩
theorem nodup_fst_ne {own : Own} (h : ((own.filter live).map (·.1)).Nodup) {i j : Nat} {p q : Nat × Obj} (hi : own[i]? = some p) (hj : own[j]? = some q) (hp : live p = true) (hq : live q = true) (hij : i ≠ j) : p.1 ≠ q.1 := by
  induction own generalizing i j with
  | nil => simp at hi
  | cons x own ih =>
    have hsub : ((own.filter live).map (·.1)).Nodup := by
      simp only [List.filter] at h
      split at h
      · exact (List.nodup_cons.1 (by simpa using h)).2
      · exact h
    have hd : live x = true → ∀ (k : Nat) (y : Nat × Obj), own[k]? = some y → live y = true → x.1 ≠ y.1 := by
      intro hx k y hk hy
      simp only [List.filter, hx, List.map_cons, List.nodup_cons] at h
      intro e
      exact h.1 (List.mem_map.2 ⟨y, List.mem_filter.2 ⟨List.mem_of_getElem? hk, hy⟩, e.symm⟩)
    cases i with
    | zero =>
      cases j with
      | zero => exact absurd rfl hij
      | succ j =>
        simp at hi hj
        subst hi
        exact hd hp j q hj hq
    | succ i =>
      cases j with
      | zero =>
        simp at hi hj
        subst hj
        exact (hd hq i p hi hp).symm
      | succ j => exact ih hsub (by simpa using hi) (by simpa using hj) (by omega)
theorem nodup_set {own : Own} {i : Nat} {p' : Nat × Obj} (h : ((own.filter live).map (·.1)).Nodup) (hne : ∀ j q, j ≠ i → own[j]? = some q → live q = true → q.1 ≠ p'.1) : (((own.set i p').filter live).map (·.1)).Nodup := by
  induction own generalizing i with
  | nil => exact h
  | cons x own ih =>
    have hsub : ((own.filter live).map (·.1)).Nodup := by
      simp only [List.filter] at h
      split at h
      · exact (List.nodup_cons.1 (by simpa using h)).2
      · exact h
    cases i with
    | zero =>
      simp only [List.set_cons_zero, List.filter]
      split
      · rw [List.map_cons, List.nodup_cons]
        refine ⟨fun hm => ?_, hsub⟩
        obtain ⟨q, hq, he⟩ := List.mem_map.1 hm
        obtain ⟨hq1, hq2⟩ := List.mem_filter.1 hq
        obtain ⟨j, hj⟩ := List.getElem?_of_mem hq1
        exact hne (j + 1) q (by omega) (by simpa using hj) hq2 he
      · exact hsub
    | succ i =>
      have ih' := ih (i := i) hsub (fun j q hji hj hq => hne (j + 1) q (by omega) (by simpa using hj) hq)
      simp only [List.set_cons_succ, List.filter]
      split
      · rename_i hx
        rw [List.map_cons, List.nodup_cons]
        refine ⟨fun hm => ?_, ih'⟩
        obtain ⟨q, hq, he⟩ := List.mem_map.1 hm
        obtain ⟨hq1, hq2⟩ := List.mem_filter.1 hq
        rcases mem_set_split hq1 with rfl | ⟨j, hji, hj⟩
        · exact hne 0 x (by omega) (by simp) hx he.symm
        · exact nodup_fst_ne h (i := 0) (j := j + 1) (by simp) (by simpa using hj) hx hq2 (by omega) he.symm
      · exact ih'
theorem nodup_set_dead {own : Own} {i : Nat} {p' : Nat × Obj} (h : ((own.filter live).map (·.1)).Nodup) (hd : live p' = false) : (((own.set i p').filter live).map (·.1)).Nodup := by
  refine h.sublist (List.Sublist.map _ ?_)
  clear h
  induction own generalizing i with
  | nil => simp
  | cons x own ih =>
    cases i with
    | zero =>
      simp only [List.set_cons_zero, List.filter, hd]
      split
      · exact List.sublist_cons_self _ _
      · exact .refl _
    | succ i =>
      simp only [List.set_cons_succ, List.filter]
      split
      · exact (ih (i := i)).cons_cons x
      · exact ih (i := i)
/-- The objects of the call's own, one of them turned, or another block in its place. -/
theorem Inv.replace {w0 w w' : World} {own : Own} (h : Inv w0 own w) {i : Nat} {p p' : Nat × Obj} (hi : own[i]? = some p)
    (hb : ∀ k, k < w.heap.size → (live p = true → k ≠ p.1) → w'.heap[k]? = w.heap[k]?) (hn : live p' = true → w'.heap[p'.1]? = some p'.2)
    (hp : live p' = true → (live p = true ∧ p'.1 = p.1) ∨ w.heap.size ≤ p'.1) (hs : w.heap.size ≤ w'.heap.size) (h1 : w'.os = w.os) (h2 : w'.tape = w.tape) (h3 : w'.output = w.output) :
    Inv w0 (own.set i p') w' := by
  have hsz := h.below.size
  refine ⟨h.below.trans ⟨h1, h2, h3, by omega, fun k hk => hb k (by omega) fun hl => by have := (h.get hi hl).1; omega⟩, fun q hq hl => ?_, ?_⟩
  · rcases mem_set_split hq with rfl | ⟨j, hji, hj⟩
    · refine ⟨?_, hn hl⟩
      rcases hp hl with ⟨h4, h5⟩ | h4
      · rw [h5]; exact (h.get hi h4).1
      · omega
    · have hm := h.get hj hl
      have hlt := h.lt (List.mem_of_getElem? hj) hl
      exact ⟨hm.1, by rw [hb _ hlt fun hpl => nodup_fst_ne h.nodup hj hi hl hpl hji]; exact hm.2⟩
  · cases hl' : live p'
    · -- the entry goes
      refine nodup_set_dead h.nodup hl'
    · refine nodup_set h.nodup fun j q hji hj hq => ?_
      rcases hp hl' with ⟨h4, h5⟩ | h4
      · rw [h5]; exact nodup_fst_ne h.nodup hj hi hq h4 hji
      · have := h.lt (List.mem_of_getElem? hj) hq
        omega
theorem Inv.set {w0 w w' : World} {own : Own} (h : Inv w0 own w) {i b : Nat} {o o' : Obj} (hi : own[i]? = some (b, o)) (hl : live (b, o) = true)
    (hb : ∀ k, k ≠ b → w'.heap[k]? = w.heap[k]?) (hn : w'.heap[b]? = some o') (hs : w'.heap.size = w.heap.size) (h1 : w'.os = w.os) (h2 : w'.tape = w.tape) (h3 : w'.output = w.output) :
    Inv w0 (own.set i (b, o')) w' :=
  h.replace hi (fun k _ hk => hb k (hk hl)) (fun _ => hn) (fun _ => .inl ⟨hl, rfl⟩) (by omega) h1 h2 h3
/-! ### some of the blocks -/
def selI (own : Own) : List Nat → Option Own
  | [] => some []
  | i :: is => match own[i]?, selI own is with
    | some p, some r => some (p :: r)
    | _, _ => none
def distinct : List Nat → Bool
  | [] => true
  | i :: is => !is.contains i && distinct is
theorem selI_mem {own : Own} : ∀ {is : List Nat} {o : Own}, selI own is = some o → ∀ {q}, q ∈ o → ∃ j, j ∈ is ∧ own[j]? = some q
  | [], o, h, q, hq => by simp [selI] at h; subst h; cases hq
  | i :: is, o, h, q, hq => by
    simp only [selI] at h
    split at h
    · rename_i p r hp hr
      simp at h; subst h
      rcases List.mem_cons.1 hq with rfl | hq
      · exact ⟨i, by simp, hp⟩
      · obtain ⟨j, h1, h2⟩ := selI_mem hr hq
        exact ⟨j, by simp [h1], h2⟩
    · cases h
theorem Inv.sel {w0 w : World} {own : Own} (hI : Inv w0 own w) : ∀ {is : List Nat} {o : Own}, selI own is = some o → distinct is = true → Inv w0 o w
  | [], o, h, _ => by simp [selI] at h; subst h; exact hI.weaken (List.nil_sublist _)
  | i :: is, o, h, hd => by
    simp only [distinct, Bool.and_eq_true, Bool.not_eq_true'] at hd
    simp only [selI] at h
    split at h
    · rename_i p r hp hr
      simp at h; subst h
      have ih := Inv.sel hI hr hd.2
      refine ⟨hI.below, fun q hq hl => ?_, ?_⟩
      · rcases List.mem_cons.1 hq with rfl | hq
        · exact hI.get hp hl
        · exact ih.mem q hq hl
      · simp only [List.filter]
        split
        · rename_i hl
          rw [List.map_cons, List.nodup_cons]
          refine ⟨fun hm => ?_, ih.nodup⟩
          obtain ⟨q, hq, he⟩ := List.mem_map.1 hm
          obtain ⟨hq1, hq2⟩ := List.mem_filter.1 hq
          obtain ⟨j, h1, h2⟩ := selI_mem hr hq1
          refine nodup_fst_ne hI.nodup h2 hp hq2 hl (fun e => ?_) he
          subst e
          have := hd.1
          simp at this
          exact this h1
        · exact ih.nodup
    · cases h
/-- Of blocks of the call's own some are looked at. -/
def Sel (own' own : Own) : Prop := ∀ w0 w, Inv w0 own w → Inv w0 own' w
theorem Sel.refl (own : Own) : Sel own own := fun _ _ h => h
theorem Sel.sub {own' own : Own} (h : own'.Sublist own) : Sel own' own := fun _ _ hI => hI.weaken h
theorem Sel.pre (own t : Own) : Sel own (own ++ t) := .sub (List.sublist_append_left _ _)
theorem Sel.of {own o : Own} (is : List Nat) (hs : selI own is = some o) (hd : distinct is = true) : Sel o own := fun _ _ hI => hI.sel hs hd
end Go.X
