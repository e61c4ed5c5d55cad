/- The walks through image.kinds and image.counted. No condition. -/
import Derived.Test.YthdjckbjjfiopacGreatDoorImK
import Derived.Test.YthdjckbjjfiopacGreatDoorIm
namespace Go.Proofs.YthdjckbjjfiopacGreatDoor
open Go.Sl Go.Proofs
set_option linter.unusedVariables false
set_option linter.unusedSimpArgs false
end Go.Proofs.YthdjckbjjfiopacGreatDoor
