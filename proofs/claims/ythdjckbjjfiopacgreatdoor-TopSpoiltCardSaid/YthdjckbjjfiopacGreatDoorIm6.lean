/- The walk through image.Changes. No condition. -/
import Derived.Test.YthdjckbjjfiopacGreatDoorImC
import Derived.Test.YthdjckbjjfiopacGreatDoorImS
import Derived.Test.YthdjckbjjfiopacGreatDoorIm
namespace Go.Proofs.YthdjckbjjfiopacGreatDoor
open Go.Sl Go.Proofs
set_option linter.unusedVariables false
set_option linter.unusedSimpArgs false
end Go.Proofs.YthdjckbjjfiopacGreatDoor
