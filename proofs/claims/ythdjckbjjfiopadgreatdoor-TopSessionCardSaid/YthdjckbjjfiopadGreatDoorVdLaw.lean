/- Disks of package vdisk: plain laws. No condition. -/
import Derived.Test.YthdjckbjjfiopadGreatDoorVd4
import Derived.Test.YthdjckbjjfiopadGreatDoorPartB
set_option linter.unusedSimpArgs false
set_option linter.unusedVariables false
namespace Go.Proofs.YthdjckbjjfiopadGreatDoor
open Go.Sl Go.Proofs
end Go.Proofs.YthdjckbjjfiopadGreatDoor
