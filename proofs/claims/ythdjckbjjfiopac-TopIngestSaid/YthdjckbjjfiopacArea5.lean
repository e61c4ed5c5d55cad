/- What the statements ask of errors (in a seat without areas). No condition. -/
import Derived.Test.YthdjckbjjfiopacSlB
import Derived.Test.YthdjckbjjfiopacTypes
import Derived.KernelRfl
namespace Go.Proofs.Ythdjckbjjfiopac
open Go.Sl Go.Proofs
set_option linter.unusedVariables false
set_option linter.unusedSimpArgs false
abbrev tErr : Nat := 94
abbrev errV (f : Int) : Value := errT tErr f
def ok64 (n : Int) : Prop := -9223372036854775808 ≤ n ∧ n ≤ 9223372036854775807

-- counterfoil/counterfoillaw.same is not in this seat
end Go.Proofs.Ythdjckbjjfiopac
