/- Walks through the reference's comparison of numbers. No condition. -/
import Derived.Test.YthdjckbjjfiopadGreatDoorPartA
import Derived.Test.YthdjckbjjfiopadGreatDoorProg
import Derived.KernelRfl
set_option linter.unusedSimpArgs false
set_option linter.unusedVariables false
namespace Go.Proofs.YthdjckbjjfiopadGreatDoor
open Go.Sl Go.Proofs
def yY (l:List Int):List (List Value):=l.map fun n=>[I n]
theorem wu (l:List Int):(yY l).length=l.length:=by simp[yY]
theorem zcK {l:List Int}{k:Nat}{n:Int}(h:l[k]? =some n):(yY l)[k]? =some [I n]:=by simp[yY,h]
theorem zvV {α:Type}{a b:List α}{k:Nat}{x y:α}(h:a.take k=b.take k)(ha:a[k]? =some x)(hb:b[k]? =some y)(e:x=y):a.take (k+1)=b.take (k+1):=by
  obtain ⟨h1,h2⟩:=List.getElem?_eq_some_iff.1 ha;obtain ⟨h3,h4⟩:=List.getElem?_eq_some_iff.1 hb;rw[List.take_succ_eq_append_getElem h1,List.take_succ_eq_append_getElem h3,h,h2,h4,e]
-- counterfoil/counterfoilref.SameNumbers is not in this seat
end Go.Proofs.YthdjckbjjfiopadGreatDoor
