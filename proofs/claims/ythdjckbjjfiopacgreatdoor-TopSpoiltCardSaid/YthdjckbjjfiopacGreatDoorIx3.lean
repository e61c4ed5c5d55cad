/- The walk through package index: Diff. No condition. -/
import Derived.Test.YthdjckbjjfiopacGreatDoorIx2
namespace Go.Proofs.YthdjckbjjfiopacGreatDoor
open Go.Sl Go.Proofs
set_option linter.unusedVariables false
set_option linter.unusedSimpArgs false
end Go.Proofs.YthdjckbjjfiopacGreatDoor
