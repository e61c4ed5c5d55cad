/- What was forgotten is not guessed: plain laws. No condition. -/
import Derived.Test.YthdjckbjjfiopadGreatDoorVdTop
set_option linter.unusedSimpArgs false
set_option linter.unusedVariables false
namespace Go.Proofs.YthdjckbjjfiopadGreatDoor
open Go.Sl Go.Proofs
theorem zqv {D:VdM}(h:iok D):inv D.snaps:=zqA h
end Go.Proofs.YthdjckbjjfiopadGreatDoor
