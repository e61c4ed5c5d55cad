/- Walks through the reference's comparison of numbers. No condition. -/
import Derived.Test.YthdjckbjjfiopacGreatDoorPartA
import Derived.Test.YthdjckbjjfiopacGreatDoorProg
import Derived.KernelRfl
set_option linter.unusedSimpArgs false
set_option linter.unusedVariables false
namespace Go.Proofs.YthdjckbjjfiopacGreatDoor
open Go.Sl Go.Proofs
def yW (l:List Int):List (List Value):=l.map fun n=>[I n]
theorem wj (l:List Int):(yW l).length=l.length:=by simp[yW]
theorem zbO {l:List Int}{k:Nat}{n:Int}(h:l[k]? =some n):(yW l)[k]? =some [I n]:=by simp[yW,h]
end Go.Proofs.YthdjckbjjfiopacGreatDoor
