/- The walk through package index: Diff. No condition. -/
import Derived.Test.YthdjckbjjfiopaaGreatDoorIx2
namespace Go.Proofs.YthdjckbjjfiopaaGreatDoor
open Go.Sl Go.Proofs
set_option linter.unusedVariables false
set_option linter.unusedSimpArgs false
end Go.Proofs.YthdjckbjjfiopaaGreatDoor
