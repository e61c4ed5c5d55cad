/- What image.kinds and image.counted compute: plain laws of their loops. No condition. -/
import Derived.Test.YthdjckbjjfiopacGreatDoorImL
namespace Go.Proofs.YthdjckbjjfiopacGreatDoor
open Go.Sl Go.Proofs
set_option linter.unusedVariables false
set_option linter.unusedSimpArgs false
/-- after so many points -/
structure K1 (N : NdT) (L : List Pt) (o : Bool) (F : IM) : Prop where
  o : o = true ↔ ∀ q, isR L q → (N q).isSome = true
  f : ∀ q, li F q = if isR L q then some 1 else none
/-- the leaves seen so far: below the roots that are done, and the first kids of another -/
def dn (N : NdT) (L : List Pt) (done : List Int) (ks : List Int) (q : Int) : Prop := q ≠ 0 ∧ ((∃ r m, r ∈ done ∧ isR L r ∧ N r = some m ∧ q ∈ kd m) ∨ q ∈ ks)
structure KP (N : NdT) (L : List Pt) : Prop where
  r : ∀ q, isR L q → (N q).isSome = true
  l : ∀ q, isL N L q → (N q).isSome = true
  dj : ∀ q, isR L q → ¬ isL N L q
structure K2 (N : NdT) (L : List Pt) (done ks : List Int) (o : Bool) (F : IM) : Prop where
  no : o = false → ¬ KP N L
  r : o = true → ∀ q, isR L q → (N q).isSome = true
  l : o = true → ∀ q, dn N L done ks q → (N q).isSome = true ∧ ¬ isR L q
  f1 : o = true → ∀ q, isR L q → li F q = some 1
  f2 : o = true → ∀ q, ¬ isR L q → dn N L done ks q → li F q = some 2
  f0 : o = true → ∀ q, ¬ isR L q → ¬ dn N L done ks q → li F q = none
def cA (l : List Int) (q : Int) : Int := (l.count q : Int)
/-- what the kids from the i-th on count -/
def kR (m : Nd) (i : Nat) (q : Int) : Int := cA ((kd m).drop i) q
def fR (N : NdT) (L : List Pt) (q : Int) (p : Int × Value) : Int := if isR L p.1 then occ (N p.1) q else 0
def fL (N : NdT) (L : List Pt) (q : Int) (p : Int × Value) : Int := if isR L p.1 then 0 else occ (N p.1) q
/-- counted so far: this much, and what is left makes the whole -/
structure Cnt (N : NdT) (L : List Pt) (rest : MM) (c1 c2 : Int → Int) : Prop where
  r : ∀ q, c1 q + sumM (fR N L q) rest = cA (L.map (·.root)) q + tot (rOf N L) q
  l : ∀ q, c2 q + sumM (fL N L q) rest = tot (lOf N L) q
/-- .. within a node -/
structure Cni (N : NdT) (L : List Pt) (rest : MM) (id : Int) (m : Nd) (i : Nat) (c1 c2 : Int → Int) : Prop where
  r : ∀ q, c1 q + (if isR L id then kR m i q else 0) + sumM (fR N L q) rest = cA (L.map (·.root)) q + tot (rOf N L) q
  l : ∀ q, c2 q + (if isR L id then 0 else kR m i q) + sumM (fL N L q) rest = tot (lOf N L) q
end Go.Proofs.YthdjckbjjfiopacGreatDoor
