/- Walks through the reference's comparison of numbers. No condition. -/
import Derived.Test.YthdjckbjjfiopacGreatDoorPartA
import Derived.Test.YthdjckbjjfiopacGreatDoorProg
import Derived.KernelRfl
set_option linter.unusedSimpArgs false
set_option linter.unusedVariables false
namespace Go.Proofs.YthdjckbjjfiopacGreatDoor
open Go.Sl Go.Proofs
def yU (l:List Int):List (List Value):=l.map fun n=>[I n]
theorem ws (l:List Int):(yU l).length=l.length:=by simp[yU]
theorem zcB {l:List Int}{k:Nat}{n:Int}(h:l[k]? =some n):(yU l)[k]? =some [I n]:=by simp[yU,h]
end Go.Proofs.YthdjckbjjfiopacGreatDoor
