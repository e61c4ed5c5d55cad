/- The walk through image.row: a row is read into a vault in the making. No condition but the library's tables. -/
import Derived.Test.YthdjckbjjfiopacGreatDoorIm
namespace Go.Proofs.YthdjckbjjfiopacGreatDoor
open Go.Sl Go.Proofs
set_option linter.unusedVariables false
set_option linter.unusedSimpArgs false
section
variable {c : Cx} {E : Env} {L : List HProp} {K : List KI}
end
end Go.Proofs.YthdjckbjjfiopacGreatDoor
