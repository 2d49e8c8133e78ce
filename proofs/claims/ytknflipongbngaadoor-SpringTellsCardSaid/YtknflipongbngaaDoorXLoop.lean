/- The calculus' rules: loops and cuts in the form that the generator prints. Nothing of the program stands here. -/
import Derived.Test.YtknflipongbngaaDoorXCall
namespace Go.X
open Go Go.RowKit

def selE (env : Env) : List Nat → Option Env
  | [] => some []
  | t :: ts => match get env t, selE env ts with
    | some v, some r => some ((t, v) :: r)
    | _, _ => none
theorem selE_le {env : Env} : ∀ {ts : List Nat} {K : Env}, selE env ts = some K → EnvLe K env
  | [], K, h => by simp [selE] at h; subst h; trivial
  | t :: ts, K, h => by
    simp only [selE] at h
    split at h
    · rename_i v r hv hr
      simp at h
      subst h
      exact ⟨hv, selE_le hr⟩
    · cases h
def setAll : Own → List (Nat × (Nat × Obj)) → Own
  | o, [] => o
  | o, (i, p) :: r => setAll (o.set i p) r
theorem EnvLe.append {a b e : Env} (h : EnvLe a e) (k : EnvLe b e) : EnvLe (a ++ b) e := by
  induction a with
  | nil => exact k
  | cons p r ih => obtain ⟨t, v⟩ := p; exact ⟨h.1, ih h.2⟩
theorem segQ.mk {env : Env} {own : Own} {D : List Deferred} {what : Env → Prop} {s : St} (h1 : EnvSub env s.env) (h2 : s.own = own) (h3 : s.D = D) (h4 : what s.env) : segQ env own D what .normal s := ⟨h1, h2, h3, h4⟩

section
variable {C : Cx} {Q : Post} {env : Env} {own : Own} {D : List Deferred} {α : Type}

/-- What stands at a head: the slots that are named anew, those that are kept, the blocks of which some are turned. -/
def At (K : Env) (E : α → Env) (own0 : Own) (U : α → List (Nat × (Nat × Obj))) (D : List Deferred) (x : α) : St := ⟨E x ++ K, setAll own0 (U x), D⟩
def Meets (K : Env) (E : α → Env) (own0 : Own) (U : α → List (Nat × (Nat × Obj))) (D : List Deferred) (x : α) (s : St) : Prop :=
  EnvLe (E x) s.env ∧ EnvLe K s.env ∧ Sel (setAll own0 (U x)) s.own ∧ s.D = D
theorem Meets.le {K : Env} {E : α → Env} {own0 : Own} {U : α → List (Nat × (Nat × Obj))} {x : α} {s : St} (h : Meets K E own0 U D x s) : Le (At K E own0 U D x) s := by
  obtain ⟨h1, h2, h3, h4⟩ := h
  exact ⟨(h1.append h2).sub, h3, h4.symm⟩
theorem Meets.mk {K : Env} {E : α → Env} {own0 : Own} {U : α → List (Nat × (Nat × Obj))} {x : α} {env' : Env} {own' : Own} (t : Own) (h1 : EnvLe (E x) env') (h2 : EnvLe K env') (h3 : setAll own0 (U x) ++ t = own') : Meets K E own0 U D x ⟨env', own', D⟩ :=
  ⟨h1, h2, h3 ▸ Sel.pre _ t, rfl⟩
/-- .. where blocks have changed their places. -/
theorem Meets.mkS {K : Env} {E : α → Env} {own0 : Own} {U : α → List (Nat × (Nat × Obj))} {x : α} {env' : Env} {own' : Own} (is : List Nat) (h1 : EnvLe (E x) env') (h2 : EnvLe K env') (h3 : selI own' is = some (setAll own0 (U x))) (h4 : distinct is = true := by rfl) : Meets K E own0 U D x ⟨env', own', D⟩ :=
  ⟨h1, h2, Sel.of is h3 h4, rfl⟩
/-- A loop. -/
theorem SX.loopG {c : Code} (ks : List Nat) {K : Env} (hK : selE env ks = some K) (E : α → Env) (U : α → List (Nat × (Nat × Obj))) (F : α → Prop) (μ : α → Nat) (x0 : α) (hF0 : F x0)
    (hE : EnvLe (E x0) env) (hU : setAll own (U x0) = own)
    (round : ∀ x, F x → SX C c (thenQ (fun s' => ∃ x', Meets K E own U D x' s' ∧ F x' ∧ μ x' < μ x) Q) (At K E own U D x)) : SX C (.loop c) Q ⟨env, own, D⟩ :=
  SX.loop (At K E own U D) F μ x0 hF0 (Meets.le ⟨hE, selE_le hK, by rw [hU]; exact Sel.refl _, rfl⟩) fun x hx =>
    (round x hx).mono fun e s hq => by
      cases e
      case normal => obtain ⟨x', h1, h2, h3⟩ := hq; exact ⟨x', h1.le, h2, h3⟩
      all_goals exact hq
/-- The ways through 'x' meet again. -/
theorem SX.cutG {x y : Code} (ks : List Nat) {K : Env} (hK : selE env ks = some K) (E : α → Env) (U : α → List (Nat × (Nat × Obj))) (F : α → Prop)
    (h : SX C x (thenQ (fun s' => ∃ z, Meets K E own U D z s' ∧ F z) Q) ⟨env, own, D⟩)
    (h' : ∀ z, F z → SX C y Q (At K E own U D z)) : SX C (.seq x y) Q ⟨env, own, D⟩ :=
  (fun (_ : selE env ks = some K) => SX.cut (At K E own U D) F (h.mono fun e s hq => by
      cases e
      case normal => obtain ⟨x', h1, h2⟩ := hq; exact ⟨x', h1.le, h2⟩
      all_goals exact hq) h') hK
end
end Go.X
