/- Changes from rows to rows: plain laws. No condition. -/
import Derived.Test.YthdjckbjjfiopacGreatDoorRowLib
namespace Go.Proofs.YthdjckbjjfiopacGreatDoor
open Go.Sl Go.Proofs
set_option linter.unusedVariables false
set_option linter.unusedSimpArgs false
end Go.Proofs.YthdjckbjjfiopacGreatDoor
