/- Vaults as rows: what is computed, in plain words. No condition. -/
import Derived.Test.YthdjckbjjfiopacGreatDoorVaM
import Derived.Test.YthdjckbjjfiopacGreatDoorImA
import Derived.Test.YthdjckbjjfiopacGreatDoorRowLaw
namespace Go.Proofs.YthdjckbjjfiopacGreatDoor
open Go.Sl Go.Proofs
set_option linter.unusedVariables false
set_option linter.unusedSimpArgs false
/-! ### Rows of a vault -/
def gB (B : BkT) (q : Int) : Bk := (B q).getD ([], 0)
def bRow (id : Int) (x : Bk) : ChangeM := ⟨98 :: thr id, thr x.2 ++ x.1, false⟩
def nVal (n : Nd) : Bytes := thr n.refs ++ (kd n).flatMap thr
def nRow (id : Int) (n : Nd) : ChangeM := ⟨110 :: thr id, nVal n, false⟩
def pRow (p : Pt) : ChangeM := ⟨112 :: thr p.id, thr p.disk ++ thr p.size ++ thr p.root, false⟩
def xRow (n : Int) : ChangeM := ⟨[120], thr n, false⟩
def bRows (m : Nat) (B : BkT) : List ChangeM := (ids m B).map fun q => bRow q (gB B q)
def nRows (m : Nat) (N : NdT) : List ChangeM := (ids m N).map fun q => nRow q (gN N q)
def rowsF (S : SI) (L : List Pt) (n : Int) : List ChangeM := bRows 40 S.B ++ nRows 24 S.N ++ L.map pRow ++ [xRow n]
/-- all numbers have three digits (the next one may have four) -/
structure Sm (S : SI) (L : List Pt) (n : Int) : Prop where
  ok : okS 999 S
  dat : ∀ q x, S.B q = some x → x.1.length ≤ 6
  kid : ∀ q m, S.N q = some m → ∀ k ∈ kd m, 0 ≤ k ∧ k ≤ 999
  pts : ∀ p ∈ L, (0 ≤ p.id ∧ p.id ≤ 999) ∧ (0 ≤ p.disk ∧ p.disk ≤ 999) ∧ (0 ≤ p.size ∧ p.size ≤ 999) ∧ (0 ≤ p.root ∧ p.root ≤ 999)
  len : L.length ≤ 6
  n1 : 0 ≤ n ∧ n ≤ 1000
theorem rowsF_len (S : SI) (L : List Pt) (n : Int) : (rowsF S L n).length = (ids 40 S.B).length + (ids 24 S.N).length + L.length + 1 := by
  simp [rowsF, bRows, nRows]; omega
theorem rowsF_le {S : SI} {L : List Pt} {n : Int} (h : L.length ≤ 6) : (rowsF S L n).length ≤ 71 := by
  rw [rowsF_len]
  have := ids_len_le 40 S.B
  have := ids_len_le 24 S.N
  omega
/-! ### A vault in the making -/
structure PS where
  B : BkT
  N : NdT
  L : List Pt
  n : Int
def isX (c : ChangeM) : Prop := c.key = [120]
instance (c : ChangeM) : Decidable (isX c) := by unfold isX; infer_instance
/-! ### Whether all goes together -/
def isR (L : List Pt) (q : Int) : Prop := q ≠ 0 ∧ ∃ p ∈ L, p.root = q
def isL (N : NdT) (L : List Pt) (q : Int) : Prop := q ≠ 0 ∧ ∃ r m, isR L r ∧ N r = some m ∧ q ∈ kd m
instance (L : List Pt) (q : Int) : Decidable (isR L q) := by unfold isR; infer_instance
structure KindsP (N : NdT) (L : List Pt) : Prop where
  r : ∀ q, isR L q → (N q).isSome = true
  l : ∀ q, isL N L q → (N q).isSome = true
  dj : ∀ q, isR L q → ¬ isL N L q
  all : ∀ q, (N q).isSome = true → isR L q ∨ isL N L q
def rOf (N : NdT) (L : List Pt) : NdT := fun q => if isR L q then N q else none
def lOf (N : NdT) (L : List Pt) : NdT := fun q => if isR L q then none else N q
def cN (N : NdT) (L : List Pt) (q : Int) : Int := cnt (L.map (·.root)) q + tot (rOf N L) q
structure CountP (B : BkT) (N : NdT) (L : List Pt) : Prop where
  nz : ∀ q m, N q = some m → ¬ noKids m
  n : ∀ q m, N q = some m → cN N L q = m.refs
  b : ∀ q x, B q = some x → tot (lOf N L) q = x.2
  all : ∀ q, q ≠ 0 → tot (lOf N L) q ≠ 0 → (B q).isSome = true
structure WholeP (st : PS) : Prop where
  len : st.L.length ≤ 6
  n1 : 1 ≤ st.n
  last : ∀ p, st.L.getLast? = some p → p.id < st.n
  sN : sup 24 st.N
  sB : sup 40 st.B
  kinds : KindsP st.N st.L
  counted : CountP st.B st.N st.L
  within : Top ⟨st.B, st.N⟩ st.L
/-- what a vault in the making has at all times -/
structure Pok (st : PS) : Prop where
  sB : sup 999 st.B
  sN : sup 999 st.N
  b : ∀ q x, st.B q = some x → (0 < x.2 ∧ x.2 ≤ 999) ∧ x.1 ≠ [] ∧ x.1.length ≤ 6
  n : ∀ q m, st.N q = some m → (0 < m.refs ∧ m.refs ≤ 999) ∧ ∀ k ∈ kd m, -99 ≤ k ∧ k ≤ 999
  p : ∀ p ∈ st.L, (1 ≤ p.id ∧ p.id ≤ 999) ∧ (0 < p.disk ∧ p.disk ≤ 999) ∧ (0 < p.size ∧ p.size ≤ 16) ∧ (-99 ≤ p.root ∧ p.root ≤ 999)
  n1 : st.n ≤ 1000 ∧ -99 ≤ st.n
theorem kd_kat {n : Nd} : ∀ {i : Nat}, i < 4 → kat n i ∈ kd n
  | 0, _ => by simp [kd, kat]
  | 1, _ => by simp [kd, kat]
  | 2, _ => by simp [kd, kat]
  | 3, _ => by simp [kd, kat]
  | i + 4, h => absurd h (by omega)
end Go.Proofs.YthdjckbjjfiopacGreatDoor
