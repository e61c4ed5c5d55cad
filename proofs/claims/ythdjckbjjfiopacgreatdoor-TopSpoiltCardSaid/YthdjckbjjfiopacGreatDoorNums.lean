/- Walks through the reference's comparison of numbers. No condition. -/
import Derived.Test.YthdjckbjjfiopacGreatDoorPartA
import Derived.Test.YthdjckbjjfiopacGreatDoorProg
import Derived.KernelRfl
namespace Go.Proofs.YthdjckbjjfiopacGreatDoor
open Go.Sl Go.Proofs
set_option linter.unusedVariables false
set_option linter.unusedSimpArgs false
def intR (l : List Int) : List (List Value) := l.map fun n => [I n]
theorem intR_len (l : List Int) : (intR l).length = l.length := by simp [intR]
theorem intR_at {l : List Int} {k : Nat} {n : Int} (h : l[k]? = some n) : (intR l)[k]? = some [I n] := by simp [intR, h]
end Go.Proofs.YthdjckbjjfiopacGreatDoor
