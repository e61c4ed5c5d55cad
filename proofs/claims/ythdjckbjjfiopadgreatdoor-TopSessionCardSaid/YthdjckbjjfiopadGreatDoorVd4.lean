/- Walks through package vdisk: dropping snapshots, what changed. No condition. -/
import Derived.Test.YthdjckbjjfiopadGreatDoorVd3
set_option linter.unusedSimpArgs false
set_option linter.unusedVariables false
namespace Go.Proofs.YthdjckbjjfiopadGreatDoor
open Go.Sl Go.Proofs
end Go.Proofs.YthdjckbjjfiopadGreatDoor
