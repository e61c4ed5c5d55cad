/- Walks through the reference's comparison of numbers. No condition. -/
import Derived.Test.YthdjckbjjfiopacGreatDoorPartA
import Derived.Test.YthdjckbjjfiopacGreatDoorProg
import Derived.KernelRfl
set_option linter.unusedSimpArgs false
set_option linter.unusedVariables false
namespace Go.Proofs.YthdjckbjjfiopacGreatDoor
open Go.Sl Go.Proofs
def yV (l:List Int):List (List Value):=l.map fun n=>[I n]
theorem wq (l:List Int):(yV l).length=l.length:=by simp[yV]
theorem zcw {l:List Int}{k:Nat}{n:Int}(h:l[k]? =some n):(yV l)[k]? =some [I n]:=by simp[yV,h]
end Go.Proofs.YthdjckbjjfiopacGreatDoor
