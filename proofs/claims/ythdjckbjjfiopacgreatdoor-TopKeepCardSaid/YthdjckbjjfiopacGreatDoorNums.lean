/- Walks through the reference's comparison of numbers. No condition. -/
import Derived.Test.YthdjckbjjfiopacGreatDoorPartA
import Derived.Test.YthdjckbjjfiopacGreatDoorProg
import Derived.KernelRfl
set_option linter.unusedSimpArgs false
set_option linter.unusedVariables false
namespace Go.Proofs.YthdjckbjjfiopacGreatDoor
open Go.Sl Go.Proofs
def yS (l:List Int):List (List Value):=l.map fun n=>[I n]
theorem wl (l:List Int):(yS l).length=l.length:=by simp[yS]
theorem zca {l:List Int}{k:Nat}{n:Int}(h:l[k]? =some n):(yS l)[k]? =some [I n]:=by simp[yS,h]
end Go.Proofs.YthdjckbjjfiopacGreatDoor
