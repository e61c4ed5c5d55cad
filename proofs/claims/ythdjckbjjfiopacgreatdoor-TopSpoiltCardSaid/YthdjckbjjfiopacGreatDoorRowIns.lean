/- The walk through Go's Insert for rows. No condition. -/
import Derived.Test.YthdjckbjjfiopacGreatDoorRowLib
import Derived.Test.YthdjckbjjfiopacGreatDoorSlC
namespace Go.Proofs.YthdjckbjjfiopacGreatDoor
open Go Go.Sl Go.Proofs
set_option linter.unusedVariables false
set_option linter.unusedSimpArgs false
section
variable {c : Cx} {g : Option (Nat × Bool)} {E : Env} {L : List HProp} {d : Option Tmp} {ty : TypeId} {pos : String} {af : Array Edge} {gu : Option (Nat × Bool)} {x : Operand} {t e : TypeId} {s : Option Addr} {n cap : Nat}
end
section
variable {l : List ChangeM} {i : Nat} {c : ChangeM}
end

end Go.Proofs.YthdjckbjjfiopacGreatDoor
