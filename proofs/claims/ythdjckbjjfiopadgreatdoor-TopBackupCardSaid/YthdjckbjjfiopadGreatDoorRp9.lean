/- The walks through Do and played: a repo after acts. No condition but the library's tables. -/
import Derived.Test.YthdjckbjjfiopadGreatDoorRpD
import Derived.Test.YthdjckbjjfiopadGreatDoorNums
set_option linter.unusedSimpArgs false
set_option linter.unusedVariables false
namespace Go.Proofs.YthdjckbjjfiopadGreatDoor
open Go.Sl Go.Proofs
end Go.Proofs.YthdjckbjjfiopadGreatDoor
