/- Vaults as rows: what is computed, in plain words. No condition. -/
import Derived.Test.YthdjckbjjfiopacGreatDoorVaM
import Derived.Test.YthdjckbjjfiopacGreatDoorImA
import Derived.Test.YthdjckbjjfiopacGreatDoorRowLaw
namespace Go.Proofs.YthdjckbjjfiopacGreatDoor
open Go.Sl Go.Proofs
set_option linter.unusedVariables false
set_option linter.unusedSimpArgs false
/-! ### Rows of a vault -/
def gB (B : BkT) (q : Int) : Bk := (B q).getD ([], 0)
def bRow (id : Int) (x : Bk) : ChangeM := ⟨98 :: thr id, thr x.2 ++ x.1, false⟩
def nVal (n : Nd) : Bytes := thr n.refs ++ (kd n).flatMap thr
def nRow (id : Int) (n : Nd) : ChangeM := ⟨110 :: thr id, nVal n, false⟩
def pRow (p : Pt) : ChangeM := ⟨112 :: thr p.id, thr p.disk ++ thr p.size ++ thr p.root, false⟩
def xRow (n : Int) : ChangeM := ⟨[120], thr n, false⟩
def bRows (m : Nat) (B : BkT) : List ChangeM := (ids m B).map fun q => bRow q (gB B q)
def nRows (m : Nat) (N : NdT) : List ChangeM := (ids m N).map fun q => nRow q (gN N q)
def rowsF (S : SI) (L : List Pt) (n : Int) : List ChangeM := bRows 40 S.B ++ nRows 24 S.N ++ L.map pRow ++ [xRow n]
/-- all numbers have three digits (the next one may have four) -/
structure Sm (S : SI) (L : List Pt) (n : Int) : Prop where
  ok : okS 999 S
  dat : ∀ q x, S.B q = some x → x.1.length ≤ 6
  kid : ∀ q m, S.N q = some m → ∀ k ∈ kd m, 0 ≤ k ∧ k ≤ 999
  pts : ∀ p ∈ L, (0 ≤ p.id ∧ p.id ≤ 999) ∧ (0 ≤ p.disk ∧ p.disk ≤ 999) ∧ (0 ≤ p.size ∧ p.size ≤ 999) ∧ (0 ≤ p.root ∧ p.root ≤ 999)
  len : L.length ≤ 6
  n1 : 0 ≤ n ∧ n ≤ 1000
theorem rowsF_len (S : SI) (L : List Pt) (n : Int) : (rowsF S L n).length = (ids 40 S.B).length + (ids 24 S.N).length + L.length + 1 := by
  simp [rowsF, bRows, nRows]; omega
theorem rowsF_le {S : SI} {L : List Pt} {n : Int} (h : L.length ≤ 6) : (rowsF S L n).length ≤ 71 := by
  rw [rowsF_len]
  have := ids_len_le 40 S.B
  have := ids_len_le 24 S.N
  omega
/-! ### A vault in the making -/
structure PS where
  B : BkT
  N : NdT
  L : List Pt
  n : Int
def ps0 : PS := ⟨fun _ => none, fun _ => none, [], 0⟩
def numsG (k : Nat) (s : Bytes) : Option (List Int) := if s.length < 3 * k then none else numsF k s
def isX (c : ChangeM) : Prop := c.key = [120]
instance (c : ChangeM) : Decidable (isX c) := by unfold isX; infer_instance
def xF (st : PS) (c : ChangeM) : Option PS := if c.val = [49, 48, 48, 48] then some { st with n := 1000 } else match numsG 1 c.val with
  | some [v] => if c.val.length = 3 then some { st with n := v } else none
  | _ => none
def bF (st : PS) (id : Int) (c : ChangeM) : Option PS := match numsG 1 c.val with
  | some [r] => if 0 < r ∧ 3 < c.val.length ∧ c.val.length ≤ 9 then some { st with B := pset st.B id (some (c.val.drop 3, r)) } else none
  | _ => none
def nF (st : PS) (id : Int) (c : ChangeM) : Option PS := match numsG 5 c.val with
  | some [r, k0, k1, k2, k3] => if 0 < r ∧ c.val.length = 15 then some { st with N := pset st.N id (some ⟨k0, k1, k2, k3, r⟩) } else none
  | _ => none
def pF (st : PS) (id : Int) (c : ChangeM) : Option PS := match numsG 3 c.val with
  | some [d, s, r] => if c.val.length = 9 ∧ 0 < d ∧ 0 < s ∧ s ≤ 16 then some { st with L := st.L ++ [⟨id, d, s, r⟩] } else none
  | _ => none
def kF (st : PS) (id : Int) (c : ChangeM) : Option PS := if c.key.head? = some 98 then bF st id c else if c.key.head? = some 110 then nF st id c else if c.key.head? = some 112 then pF st id c else none
def rowF (st : PS) (c : ChangeM) : Option PS := if c.key = [120] then xF st c else if c.key.length ≠ 4 ∨ c.gone = true then none else match numsG 1 (c.key.drop 1) with
  | some [id] => if id < 1 then none else kF st id c
  | _ => none
def badK (pv : Option Bytes) (c : ChangeM) : Bool := match pv with
  | none => false
  | some p => Op.bytesLess c.key p || decide (c.key = p)
def parsF : Option Bytes → PS → List ChangeM → Option PS
  | _, st, [] => some st
  | pv, st, c :: l => if badK pv c = true ∨ c.gone = true then none else match rowF st c with
    | none => none
    | some st' => parsF (some c.key) st' l
/-! ### Whether all goes together -/
def isR (L : List Pt) (q : Int) : Prop := q ≠ 0 ∧ ∃ p ∈ L, p.root = q
def isL (N : NdT) (L : List Pt) (q : Int) : Prop := q ≠ 0 ∧ ∃ r m, isR L r ∧ N r = some m ∧ q ∈ kd m
instance (L : List Pt) (q : Int) : Decidable (isR L q) := by unfold isR; infer_instance
structure KindsP (N : NdT) (L : List Pt) : Prop where
  r : ∀ q, isR L q → (N q).isSome = true
  l : ∀ q, isL N L q → (N q).isSome = true
  dj : ∀ q, isR L q → ¬ isL N L q
  all : ∀ q, (N q).isSome = true → isR L q ∨ isL N L q
def rOf (N : NdT) (L : List Pt) : NdT := fun q => if isR L q then N q else none
def lOf (N : NdT) (L : List Pt) : NdT := fun q => if isR L q then none else N q
def cN (N : NdT) (L : List Pt) (q : Int) : Int := cnt (L.map (·.root)) q + tot (rOf N L) q
structure CountP (B : BkT) (N : NdT) (L : List Pt) : Prop where
  nz : ∀ q m, N q = some m → ¬ noKids m
  n : ∀ q m, N q = some m → cN N L q = m.refs
  b : ∀ q x, B q = some x → tot (lOf N L) q = x.2
  all : ∀ q, q ≠ 0 → tot (lOf N L) q ≠ 0 → (B q).isSome = true
structure WholeP (st : PS) : Prop where
  len : st.L.length ≤ 6
  n1 : 1 ≤ st.n
  last : ∀ p, st.L.getLast? = some p → p.id < st.n
  sN : sup 24 st.N
  sB : sup 40 st.B
  kinds : KindsP st.N st.L
  counted : CountP st.B st.N st.L
  within : Top ⟨st.B, st.N⟩ st.L
/-- what a vault in the making has at all times -/
structure Pok (st : PS) : Prop where
  sB : sup 999 st.B
  sN : sup 999 st.N
  b : ∀ q x, st.B q = some x → (0 < x.2 ∧ x.2 ≤ 999) ∧ x.1 ≠ [] ∧ x.1.length ≤ 6
  n : ∀ q m, st.N q = some m → (0 < m.refs ∧ m.refs ≤ 999) ∧ ∀ k ∈ kd m, -99 ≤ k ∧ k ≤ 999
  p : ∀ p ∈ st.L, (1 ≤ p.id ∧ p.id ≤ 999) ∧ (0 < p.disk ∧ p.disk ≤ 999) ∧ (0 < p.size ∧ p.size ≤ 16) ∧ (-99 ≤ p.root ∧ p.root ≤ 999)
  n1 : st.n ≤ 1000 ∧ -99 ≤ st.n
theorem Pok_0 : Pok ps0 := ⟨sup_none _, sup_none _, (fun q x h => by cases h), (fun q x h => by cases h), (fun p h => by simp [ps0] at h), by simp [ps0]⟩
theorem numsG_len {k : Nat} {s : Bytes} {l : List Int} (h : numsG k s = some l) : l.length = k ∧ 3 * k ≤ s.length := by
  unfold numsG at h
  split at h
  · cases h
  · exact ⟨numsF_len h, by omega⟩
theorem numsG_text {k : Nat} {s : Bytes} {l : List Int} (h : numsG k s = some l) : s = l.flatMap thr ++ s.drop (3 * k) ∧ ∀ v ∈ l, -99 ≤ v ∧ v ≤ 999 := by
  have h1 := (numsG_len h).2
  unfold numsG at h
  rw [if_neg (by omega)] at h
  exact numsF_text h1 h
theorem len1 {l : List Int} (h : l.length = 1) : ∃ a, l = [a] := by
  match l, h with
  | [a], _ => exact ⟨a, rfl⟩
theorem len3 {l : List Int} (h : l.length = 3) : ∃ a b c, l = [a, b, c] := by
  match l, h with
  | [a, b, c], _ => exact ⟨a, b, c, rfl⟩
theorem len5 {l : List Int} (h : l.length = 5) : ∃ a b c d e, l = [a, b, c, d, e] := by
  match l, h with
  | [a, b, c, d, e], _ => exact ⟨a, b, c, d, e, rfl⟩
theorem Pok_set {ρ : Type} {B : Int → Option ρ} {P : ρ → Prop} (h : ∀ q x, B q = some x → P x) {id : Int} {y : ρ} (hy : P y) : ∀ q x, pset B id (some y) q = some x → P x := fun q x e => by
  unfold pset at e
  split at e
  · injection e with e; subst e; exact hy
  · exact h q x e
theorem Pok_row {st st' : PS} {c : ChangeM} (h : Pok st) (e : rowF st c = some st') : Pok st' := by
  unfold rowF at e
  split at e
  · unfold xF at e
    split at e
    · injection e with e; subst e; exact ⟨h.sB, h.sN, h.b, h.n, h.p, by simp⟩
    · split at e
      · rename_i v hv
        split at e
        · injection e with e; subst e
          have := (numsG_text hv).2 v (by simp)
          exact ⟨h.sB, h.sN, h.b, h.n, h.p, by simp only; omega⟩
        · cases e
      · cases e
  · split at e
    · cases e
    · split at e
      · rename_i id hid
        have hr := (numsG_text hid).2 id (by simp)
        split at e
        · cases e
        · have hid1 : 1 ≤ id ∧ id ≤ ((999 : Nat) : Int) := by omega
          unfold kF at e
          split at e
          · unfold bF at e
            split at e
            · rename_i r hv
              have := (numsG_text hv).2 r (by simp)
              split at e
              · injection e with e; subst e
                exact ⟨sup_set h.sB fun _ => hid1, h.sN, Pok_set (P := fun x : Bk => (0 < x.2 ∧ x.2 ≤ 999) ∧ x.1 ≠ [] ∧ x.1.length ≤ 6) h.b ⟨by simp only; omega, by simp only; intro hh; have := congrArg List.length hh; simp at this; omega, by simp; omega⟩, h.n, h.p, h.n1⟩
              · cases e
            · cases e
          · split at e
            · unfold nF at e
              split at e
              · rename_i r k0 k1 k2 k3 hv
                have hv := (numsG_text hv).2
                split at e
                · injection e with e; subst e
                  refine ⟨h.sB, sup_set h.sN fun _ => hid1, h.b, Pok_set (P := fun m : Nd => (0 < m.refs ∧ m.refs ≤ 999) ∧ ∀ k ∈ kd m, -99 ≤ k ∧ k ≤ 999) h.n ⟨?_, ?_⟩, h.p, h.n1⟩
                  · have := hv r (by simp); simp only; omega
                  · intro k hk; exact hv k (by simp [kd] at hk ⊢; rcases hk with h | h | h | h <;> simp [h])
                · cases e
              · cases e
            · split at e
              · unfold pF at e
                split at e
                · rename_i d s r hv
                  have hv := (numsG_text hv).2
                  split at e
                  · injection e with e; subst e
                    refine ⟨h.sB, h.sN, h.b, h.n, fun p hp => ?_, h.n1⟩
                    rcases List.mem_append.1 hp with hp | hp
                    · exact h.p p hp
                    · rw [List.mem_singleton] at hp
                      subst hp
                      have h1 := hv d (by simp); have h2 := hv s (by simp); have h3 := hv r (by simp)
                      simp only
                      omega
                  · cases e
                · cases e
              · cases e
      · cases e
theorem kF_98 {st : PS} {id : Int} {c : ChangeM} (h : c.key.head? = some 98) : kF st id c = bF st id c := by unfold kF; rw [if_pos h]
theorem kF_110 {st : PS} {id : Int} {c : ChangeM} (h : c.key.head? = some 110) : kF st id c = nF st id c := by unfold kF; rw [if_neg (by rw [h]; decide), if_pos h]
theorem kF_112 {st : PS} {id : Int} {c : ChangeM} (h : c.key.head? = some 112) : kF st id c = pF st id c := by unfold kF; rw [if_neg (by rw [h]; decide), if_neg (by rw [h]; decide), if_pos h]
theorem kd_kat {n : Nd} : ∀ {i : Nat}, i < 4 → kat n i ∈ kd n
  | 0, _ => by simp [kd, kat]
  | 1, _ => by simp [kd, kat]
  | 2, _ => by simp [kd, kat]
  | 3, _ => by simp [kd, kat]
  | i + 4, h => absurd h (by omega)
end Go.Proofs.YthdjckbjjfiopacGreatDoor
