/- Walks through the reference's comparison of numbers. No condition. -/
import Derived.Test.YthdjckbjjfiopadGreatDoorPartA
import Derived.Test.YthdjckbjjfiopadGreatDoorProg
import Derived.KernelRfl
set_option linter.unusedSimpArgs false
set_option linter.unusedVariables false
namespace Go.Proofs.YthdjckbjjfiopadGreatDoor
open Go.Sl Go.Proofs
def wc (l:List Int):List (List Value):=l.map fun n=>[I n]
theorem wO (l:List Int):(wc l).length=l.length:=by simp[wc]
theorem zer {l:List Int}{k:Nat}{n:Int}(h:l[k]? =some n):(wc l)[k]? =some [I n]:=by simp[wc,h]
end Go.Proofs.YthdjckbjjfiopadGreatDoor
