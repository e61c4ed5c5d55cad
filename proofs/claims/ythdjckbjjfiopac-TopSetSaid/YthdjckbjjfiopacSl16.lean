/- What single operations do (10): pointers compared with nil. No condition. -/
import Derived.Test.YthdjckbjjfiopacSl15
namespace Go.Sl
set_option linter.unusedVariables false
set_option linter.unusedSimpArgs false
section
variable {c : Cx} {g : Option (Nat × Bool)} {E : Env} {L L' : List HProp} {d : Option Tmp} {ty : TypeId} {pos : String} {af : Array Edge} {gu : Option (Nat × Bool)}
variable {x y : Operand} {t u e : TypeId} {p : Option Addr}
theorem run_pnil {P : Program} {w : World} (hu : P.underlying t = some (.pointer e)) : (Op.equal t (.pointer p) (.pointer none)).run P w = .ok p.isNone w := by
  show (Op.equalIn (9999 + 1) _ _ _).run _ _ = _
  unfold Op.equalIn
  cases p <;> simp [underlying, program, Sem.run, hu]
theorem v_pnil (hu : c.P.underlying t = some (.pointer e)) (hx : ev g E x = some (.pointer p)) : OpV c g E L ⟨d, .binOp .eql t x (.const (.pointer none)) u, ty, pos, af, gu⟩ (Bo p.isNone) := .mk fun a w hE hg hS => by
  have h3 : a.eval (.const (.pointer none)) = .pointer none := rfl
  have h4 := run_pnil (P := c.P) (w := w) (p := p) hu
  simp only [execOp, hE.ev hg hx, h3, eqGuard, binOp] at h4 ⊢
  simp [h4, Sem.run]
end
end Go.Sl
