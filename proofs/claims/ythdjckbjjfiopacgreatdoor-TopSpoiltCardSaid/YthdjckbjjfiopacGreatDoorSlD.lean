/- The layer, part D: regions that draw, where several operations may come up that do things: a plan that branches. No condition. -/
import Derived.Test.YthdjckbjjfiopacGreatDoorSlC
namespace Go.Sl
set_option linter.unusedVariables false
set_option linter.unusedSimpArgs false
/-- Our order, with branches: q a quiet operation, l a loud one, alt two choices, c a smaller class from here on. -/
inductive PT where
  | nil
  | q (i : Nat) (t : PT)
  | l (i : Nat) (t : PT)
  | alt (s t : PT)
  | c (t : PT)
def PT.heads : PT → List Nat
  | .l i _ => [i]
  | .alt s t => s.heads ++ t.heads
  | _ => []
section
variable {P : Program} {ops : Array Oper} {Q : Post}
def PT.ok (ops : Array Oper) : PT → Bool → Nat → Array Bool → Bool
  | .nil, top, n, listed => top && Nat.beq n 0 && (Region.ready .any ops listed).isEmpty
  | .q i t, top, n, listed => top && (match n with | 0 => false | m + 1 => (Region.ready .any ops listed).contains i && Region.free .any ops listed i && t.ok ops true m (listed.setIfInBounds i true))
  | .l i t, top, n, listed => (!top || Region.ready .any ops listed == [i]) && (match n with | 0 => false | m + 1 => t.ok ops true m (listed.setIfInBounds i true))
  | .alt s t, top, n, listed => (!top || (!(Region.ready .any ops listed).isEmpty && (Region.ready .any ops listed).all fun j => (s.heads ++ t.heads).contains j)) && s.ok ops false n listed && t.ok ops false n listed
  | .c t, top, n, listed => top && t.ok ops true n listed
end
section
variable {c : Cx} {E : Env} {L Lf Lf' : List HProp} {d : Nat} {ty : TypeId} {pos : String} {af : Array Edge} {K : List KI} {all : List Oper} {op : Op} {v : Value} {N : Value → List HProp → Prop} {t s : PT}
end
end Go.Sl
