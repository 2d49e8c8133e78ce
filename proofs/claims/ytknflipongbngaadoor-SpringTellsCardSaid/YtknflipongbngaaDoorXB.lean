/- The calculus' rules: '==' on bools. Nothing of the program stands here. -/
import Derived.Test.YtknflipongbngaaDoorXRange
namespace Go.X
open Go Go.RowKit
def isBoolP (P : Program) (t : TypeId) : Bool := match P.underlying t with | some .bool => true | _ => false
theorem run_equal_bool {P : Program} {T : TypeId} {w : World} (h : isBoolP P T = true) (a b : Bool) : (Op.equal T (.bool a) (.bool b)).run P w = .ok (a == b) w := by
  unfold isBoolP at h
  split at h
  · rename_i hu
    show (Op.equalIn (9999 + 1) T (.bool a) (.bool b)).run P w = _
    unfold Op.equalIn
    simp [run_underlying hu, Result.andThen]
  · cases h
section
variable {C : Cx} {Q : Post} {env : Env} {own : Own} {D : List Deferred} {ops : Array Oper} {rest : List Oper}
variable {d : Nat} {ty : TypeId} {pos : String} {aft : Array Edge} {g : Option (Nat × Bool)} {x y : Operand} {T T' : TypeId} {p q : Prop} [Decidable p] [Decidable q]
theorem SXL.eqlB (hT : isBoolP C.P T = true) (hx : ev env x = some (.bool (decide p))) (hy : ev env y = some (.bool (decide q)))
    (h : SXL C ops rest Q ⟨(d, .bool (decide (p ↔ q))) :: env, own, D⟩) (hd : Nat.blt d C.n = true := by rfl) (hw : Wanted ops g env = some true := by rfl) :
    SXL C ops ({ dst := some d, op := .binOp .eql T x y T', type := ty, pos, after := aft, guard := g } :: rest) Q ⟨env, own, D⟩ :=
  SXL.bin hx hy (r := .bool (decide (p ↔ q))) (fun w => by by_cases hp : p <;> by_cases hq : q <;> simp [eqGuard, binOp, hp, hq, run_equal_bool hT, Result.andThen]) hd hw h
theorem SXL.neqB (hT : isBoolP C.P T = true) (hx : ev env x = some (.bool (decide p))) (hy : ev env y = some (.bool (decide q)))
    (h : SXL C ops rest Q ⟨(d, .bool (decide (¬(p ↔ q)))) :: env, own, D⟩) (hd : Nat.blt d C.n = true := by rfl) (hw : Wanted ops g env = some true := by rfl) :
    SXL C ops ({ dst := some d, op := .binOp .neq T x y T', type := ty, pos, after := aft, guard := g } :: rest) Q ⟨env, own, D⟩ :=
  SXL.bin hx hy (r := .bool (decide (¬(p ↔ q)))) (fun w => by by_cases hp : p <;> by_cases hq : q <;> simp [eqGuard, binOp, hp, hq, run_equal_bool hT, Result.andThen]) hd hw h
end
end Go.X
