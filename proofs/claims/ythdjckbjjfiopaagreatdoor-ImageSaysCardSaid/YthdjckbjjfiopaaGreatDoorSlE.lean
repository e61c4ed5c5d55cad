/- The layer, part E: bits, strings as bytes, what a strings.Builder does, pointers turned. No condition. -/
import Derived.Test.YthdjckbjjfiopaaGreatDoorSlD
import Derived.Lib.UnsafeStr
namespace Go.Sl
set_option linter.unusedVariables false
set_option linter.unusedSimpArgs false
section
variable {c : Cx} {g : Option (Nat × Bool)} {E : Env} {L L' : List HProp} {d : Option Tmp} {ty : TypeId} {pos : String} {af : Array Edge} {gu : Option (Nat × Bool)} {K : List KI}
variable {x y z : Operand} {t u e : TypeId} {k : IntKind} {v v1 v2 : Value} {s : Option Addr} {b o i j n sz cap off : Nat}
theorem v_pnnil {p : Option Addr} (hu : c.P.underlying t = some (.pointer e)) (hx : ev g E x = some (.pointer p)) : OpV c g E L ⟨d, .binOp .neq t x (.const (.pointer none)) u, ty, pos, af, gu⟩ (Bo (!p.isNone)) := .mk fun a w hE hg hS => by
  have h3 : a.eval (.const (.pointer none)) = .pointer none := rfl
  have h4 := run_pnil (P := c.P) (w := w) (p := p) hu
  simp only [execOp, hE.ev hg hx, h3, eqGuard, binOp] at h4 ⊢
  simp [h4, Sem.run]
end
end Go.Sl
