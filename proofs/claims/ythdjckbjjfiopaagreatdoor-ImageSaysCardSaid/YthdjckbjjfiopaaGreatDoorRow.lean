/- Walks through the checks, bytes and parsing of a row, of the program and of the reference. No condition. -/
import Derived.Test.YthdjckbjjfiopaaGreatDoorPartA
import Derived.Test.YthdjckbjjfiopaaGreatDoorSlC
namespace Go.Proofs.YthdjckbjjfiopaaGreatDoor
open Go.Sl Go.Proofs
set_option linter.unusedVariables false
set_option linter.unusedSimpArgs false
end Go.Proofs.YthdjckbjjfiopaaGreatDoor
