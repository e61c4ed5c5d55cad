/- The layer, part E: bits, strings as bytes, what a strings.Builder does, pointers turned. No condition. -/
import Derived.Test.YthdjckbjjfiopacGreatDoorSlD
import Derived.Lib.UnsafeStr
namespace Go.Sl
set_option linter.unusedVariables false
set_option linter.unusedSimpArgs false
section
variable {c : Cx} {g : Option (Nat × Bool)} {E : Env} {L L' : List HProp} {d : Option Tmp} {ty : TypeId} {pos : String} {af : Array Edge} {gu : Option (Nat × Bool)} {K : List KI}
variable {x y z : Operand} {t u e : TypeId} {k : IntKind} {v v1 v2 : Value} {s : Option Addr} {b o i j n sz cap off : Nat}
end
end Go.Sl
