/- The calculus' rules: sums that may turn over. Nothing of the program stands here. -/
import Derived.Test.YtknflipongbngaaDoorXRange
namespace Go.X
open Go Go.RowKit
section
variable {C : Cx} {Q : Post} {env : Env} {own : Own} {D : List Deferred} {ops : Array Oper} {rest : List Oper}
variable {d : Nat} {ty : TypeId} {pos : String} {aft : Array Edge} {g : Option (Nat × Bool)} {x y : Operand} {T T' : TypeId} {A B : Int}
theorem SXL.subW (hx : ev env x = some (.int .i64 A)) (hy : ev env y = some (.int .i64 B))
    (h : SXL C ops rest Q ⟨(d, .int .i64 (IntKind.i64.wrap (A - B))) :: env, own, D⟩) (hd : Nat.blt d C.n = true := by rfl) (hw : Wanted ops g env = some true := by rfl) :
    SXL C ops ({ dst := some d, op := .binOp .sub T x y T', type := ty, pos, after := aft, guard := g } :: rest) Q ⟨env, own, D⟩ :=
  SXL.bin hx hy (r := .int .i64 (IntKind.i64.wrap (A - B))) (fun w => rfl) hd hw h
theorem wrap_in {A : Int} (h : -9223372036854775808 ≤ A ∧ A ≤ 9223372036854775807) : IntKind.i64.wrap A = A := IntWalk.i64_in _ h
end
end Go.X
