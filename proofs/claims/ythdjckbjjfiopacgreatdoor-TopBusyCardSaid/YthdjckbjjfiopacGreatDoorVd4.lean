/- Walks through package vdisk: dropping snapshots, what changed. No condition. -/
import Derived.Test.YthdjckbjjfiopacGreatDoorVd3
set_option linter.unusedSimpArgs false
set_option linter.unusedVariables false
namespace Go.Proofs.YthdjckbjjfiopacGreatDoor
open Go.Sl Go.Proofs
end Go.Proofs.YthdjckbjjfiopacGreatDoor
