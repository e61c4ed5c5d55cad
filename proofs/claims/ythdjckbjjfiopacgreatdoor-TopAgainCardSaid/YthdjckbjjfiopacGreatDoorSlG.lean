/- The layer, part G: an error's value held against nil; an array taken out of a slice; maps from int to int. No condition. -/
import Derived.Test.YthdjckbjjfiopacGreatDoorSlF
namespace Go.Sl
set_option linter.unusedVariables false
set_option linter.unusedSimpArgs false
section
variable {c : Cx} {g : Option (Nat × Bool)} {E : Env} {L L' : List HProp} {d : Option Tmp} {ty : TypeId} {pos : String} {af : Array Edge} {gu : Option (Nat × Bool)} {K : List KI}
variable {x y z : Operand} {t u e : TypeId} {k : IntKind} {v : Value} {s : Option Addr} {b o i j n m sz cap off : Nat}
end
section
variable {c : Cx} {E : Env} {L : List HProp} {d : Nat} {ty : TypeId} {pos : String} {af : Array Edge} {K : List KI} {all : List Oper} {op : Op} {N : Value → List HProp → Prop} {Lf : List HProp} {pl : List (Nat × Bool)}
end
/-! ### Maps from int to int -/
abbrev IM := List (Int × Int)
def li : IM → Int → Option Int
  | [], _ => none
  | p :: F, q => if p.1 = q then some p.2 else li F q
/-- what is summed up over a list of pairs -/
def sumM (f : Int × Value → Int) : MM → Int
  | [] => 0
  | p :: M => f p + sumM f M
end Go.Sl
