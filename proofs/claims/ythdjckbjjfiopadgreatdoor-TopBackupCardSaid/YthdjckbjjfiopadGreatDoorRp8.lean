/- The walk through the laws' Do: one act on a repo. No condition but the library's tables. -/
import Derived.Test.YthdjckbjjfiopadGreatDoorRp7
import Derived.Test.YthdjckbjjfiopadGreatDoorPartD
set_option linter.unusedSimpArgs false
set_option linter.unusedVariables false
namespace Go.Proofs.YthdjckbjjfiopadGreatDoor
open Go.Sl Go.Proofs
end Go.Proofs.YthdjckbjjfiopadGreatDoor
