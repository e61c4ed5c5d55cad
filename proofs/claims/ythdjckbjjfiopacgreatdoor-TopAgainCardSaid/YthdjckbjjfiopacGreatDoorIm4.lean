/- The walks through image.within, image.whole and image.Parse. No condition but the library's tables. -/
import Derived.Test.YthdjckbjjfiopacGreatDoorIm2
import Derived.Test.YthdjckbjjfiopacGreatDoorIm3
namespace Go.Proofs.YthdjckbjjfiopacGreatDoor
open Go.Sl Go.Proofs
set_option linter.unusedVariables false
set_option linter.unusedSimpArgs false
section
variable {c : Cx} {E : Env} {L : List HProp} {K : List KI}
end
section
variable {c : Cx} {E : Env} {L : List HProp} {K : List KI}
end
end Go.Proofs.YthdjckbjjfiopacGreatDoor
