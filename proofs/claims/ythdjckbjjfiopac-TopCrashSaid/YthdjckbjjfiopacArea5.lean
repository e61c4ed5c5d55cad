/- What the statements ask of errors (in a seat without areas). No condition. -/
import Derived.Test.YthdjckbjjfiopacSlB
import Derived.Test.YthdjckbjjfiopacTypes
import Derived.KernelRfl
namespace Go.Proofs.Ythdjckbjjfiopac
open Go.Sl Go.Proofs
set_option linter.unusedVariables false
set_option linter.unusedSimpArgs false
abbrev tErr : Nat := 94
abbrev errV (f : Int) : Value := errT tErr f
def ok64 (n : Int) : Prop := -9223372036854775808 ≤ n ∧ n ≤ 9223372036854775807
theorem splice_all {cs : Array Value} {vs : List Value} (h : vs.length = cs.size) : splice cs 0 vs = vs.toArray := by
  apply Array.ext_getElem?
  intro i
  rw [splice_at _ _ _ (by omega)]
  by_cases hi : i < vs.length
  · simp [hi]
  · have h1 : cs[i]? = none := by simp; omega
    simp [hi, h1]
theorem take_at {α : Type} {l : List α} {k : Nat} {a : α} (h : l[k]? = some a) : l.take (k + 1) = l.take k ++ [a] := by
  obtain ⟨h1, h2⟩ := List.getElem?_eq_some_iff.1 h
  rw [List.take_succ_eq_append_getElem h1, h2]
theorem take_eq_of {α : Type} {a b : List α} {k : Nat} {x y : α} (h : a.take k = b.take k) (ha : a[k]? = some x) (hb : b[k]? = some y) (e : x = y) : a.take (k + 1) = b.take (k + 1) := by
  rw [take_at ha, take_at hb, h, e]

-- counterfoil/counterfoillaw.same is not in this seat
end Go.Proofs.Ythdjckbjjfiopac
