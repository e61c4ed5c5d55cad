/- Disks of package vdisk: plain laws. No condition. -/
import Derived.Test.YthdjckbjjfiopacGreatDoorVd4
import Derived.Test.YthdjckbjjfiopacGreatDoorPartB
set_option linter.unusedSimpArgs false
set_option linter.unusedVariables false
namespace Go.Proofs.YthdjckbjjfiopacGreatDoor
open Go.Sl Go.Proofs
end Go.Proofs.YthdjckbjjfiopacGreatDoor
