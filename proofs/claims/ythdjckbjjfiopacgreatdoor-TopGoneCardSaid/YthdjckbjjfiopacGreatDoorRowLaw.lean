/- Rows in the order of their keys: plain laws. No condition. -/
import Derived.Test.YthdjckbjjfiopacGreatDoorRow
import Derived.Lib.Bytealg
namespace Go.Proofs.YthdjckbjjfiopacGreatDoor
open Go Go.Sl Go.Proofs
set_option linter.unusedVariables false
set_option linter.unusedSimpArgs false
abbrev kl (a b : Bytes) : Bool := Op.bytesLess a b
theorem kl_irr : ∀ a : Bytes, kl a a = false
  | [] => rfl
  | x :: a => by
    show (decide (x < x) || (x == x && Op.bytesLess a a)) = false
    rw [show Op.bytesLess a a = false from kl_irr a]
    simp [UInt8.lt_iff_toNat_lt]
theorem kl_trans : ∀ {a b c : Bytes}, kl a b = true → kl b c = true → kl a c = true
  | a, [], c, h1, h2 => by cases a <;> cases h1
  | a, b, [], h1, h2 => by cases b <;> cases h2
  | [], y :: b, z :: c, h1, h2 => rfl
  | x :: a, y :: b, z :: c, h1, h2 => by
    have e1 : (decide (x < y) || (x == y && Op.bytesLess a b)) = true := h1
    have e2 : (decide (y < z) || (y == z && Op.bytesLess b c)) = true := h2
    show (decide (x < z) || (x == z && Op.bytesLess a c)) = true
    simp only [Bool.or_eq_true, decide_eq_true_eq, Bool.and_eq_true, beq_iff_eq, UInt8.lt_iff_toNat_lt] at e1 e2 ⊢
    rcases e1 with e1 | ⟨rfl, e1⟩
    · rcases e2 with e2 | ⟨rfl, e2⟩
      · left; omega
      · left; exact e1
    · rcases e2 with e2 | ⟨rfl, e2⟩
      · left; exact e2
      · exact .inr ⟨rfl, kl_trans e1 e2⟩
theorem kl_asym {a b : Bytes} (h : kl a b = true) : kl b a = false := by
  cases h2 : kl b a
  · rfl
  · have := kl_trans h h2
    rw [kl_irr] at this
    cases this
theorem kl_ne {a b : Bytes} (h : kl a b = true) : a ≠ b := fun e => by rw [e, kl_irr] at h; cases h
def srt (l : List ChangeM) : Prop := l.Pairwise fun a b => kl a.key b.key = true
/-- which place a key has among rows -/
def lbS (l : List ChangeM) (k : Bytes) : Nat := (l.filter fun r => kl r.key k).length
def isS (l : List ChangeM) (k : Bytes) : Bool := l.any fun r => decide (r.key = k)
theorem fl_all {l : List ChangeM} {p : ChangeM → Bool} (h : ∀ x ∈ l, p x = true) : l.filter p = l := List.filter_eq_self.2 h
theorem fl_no {l : List ChangeM} {p : ChangeM → Bool} (h : ∀ x ∈ l, p x = false) : l.filter p = [] := List.filter_eq_nil_iff.2 fun x hx => by rw [h x hx]; simp
/-- what the parts come to -/
theorem parts {k : Bytes} {A B : List ChangeM} (hA : ∀ a ∈ A, kl a.key k = true) (hB : (∃ b B', B = b :: B' ∧ b.key = k ∧ ∀ x ∈ B', kl k x.key = true) ∨ ∀ x ∈ B, kl k x.key = true) :
    (A ++ B).filter (fun r => kl r.key k) = A ∧ lbS (A ++ B) k = A.length ∧
    ((∃ b B', B = b :: B' ∧ b.key = k ∧ isS (A ++ B) k = true ∧ (A ++ B).filter (fun r => kl k r.key) = B') ∨ (isS (A ++ B) k = false ∧ (A ++ B).filter (fun r => kl k r.key) = B)) := by
  have f1 : A.filter (fun r => kl r.key k) = A := fl_all hA
  have f2 : A.filter (fun r => kl k r.key) = [] := fl_no fun x hx => kl_asym (hA x hx)
  have i1 : A.any (fun r => decide (r.key = k)) = false := List.any_eq_false.2 fun x hx => by simpa using kl_ne (hA x hx)
  rcases hB with ⟨b, B', rfl, hb, hB⟩ | hB
  · have f3 : (b :: B').filter (fun r => kl r.key k) = [] := fl_no fun x hx => by
      rcases List.mem_cons.1 hx with rfl | hx
      · rw [hb]; exact kl_irr k
      · exact kl_asym (hB x hx)
    have f4 : (b :: B').filter (fun r => kl k r.key) = B' := by
      rw [List.filter_cons, hb, kl_irr, if_neg (by simp)]
      exact fl_all hB
    refine ⟨by rw [List.filter_append, f1, f3, List.append_nil], by unfold lbS; rw [List.filter_append, f1, f3, List.append_nil], .inl ⟨b, B', rfl, hb, ?_, by rw [List.filter_append, f2, f4]; rfl⟩⟩
    unfold isS
    rw [List.any_append, List.any_cons, hb]
    simp
  · have f3 : B.filter (fun r => kl r.key k) = [] := fl_no fun x hx => kl_asym (hB x hx)
    have f4 : B.filter (fun r => kl k r.key) = B := fl_all hB
    refine ⟨by rw [List.filter_append, f1, f3, List.append_nil], by unfold lbS; rw [List.filter_append, f1, f3, List.append_nil], .inr ⟨?_, by rw [List.filter_append, f2, f4]; rfl⟩⟩
    unfold isS
    rw [List.any_append, i1]
    exact List.any_eq_false.2 fun x hx => by simpa using (kl_ne (hB x hx)).symm
end Go.Proofs.YthdjckbjjfiopacGreatDoor
