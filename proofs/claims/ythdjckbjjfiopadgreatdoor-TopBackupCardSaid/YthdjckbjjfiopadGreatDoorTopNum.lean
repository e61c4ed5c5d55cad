/- The walk through the number of an error. No condition. -/
import Derived.Test.YthdjckbjjfiopadGreatDoorPartA
set_option linter.unusedSimpArgs false
set_option linter.unusedVariables false
namespace Go.Proofs.YthdjckbjjfiopadGreatDoor
open Go.Sl Go.Proofs
end Go.Proofs.YthdjckbjjfiopadGreatDoor
