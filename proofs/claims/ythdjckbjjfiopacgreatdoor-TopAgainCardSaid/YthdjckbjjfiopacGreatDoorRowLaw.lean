/- Rows in the order of their keys: plain laws. No condition. -/
import Derived.Test.YthdjckbjjfiopacGreatDoorRow
import Derived.Lib.Bytealg
namespace Go.Proofs.YthdjckbjjfiopacGreatDoor
open Go Go.Sl Go.Proofs
set_option linter.unusedVariables false
set_option linter.unusedSimpArgs false
abbrev kl (a b : Bytes) : Bool := Op.bytesLess a b
theorem kl_irr : ∀ a : Bytes, kl a a = false
  | [] => rfl
  | x :: a => by
    show (decide (x < x) || (x == x && Op.bytesLess a a)) = false
    rw [show Op.bytesLess a a = false from kl_irr a]
    simp [UInt8.lt_iff_toNat_lt]
theorem kl_trans : ∀ {a b c : Bytes}, kl a b = true → kl b c = true → kl a c = true
  | a, [], c, h1, h2 => by cases a <;> cases h1
  | a, b, [], h1, h2 => by cases b <;> cases h2
  | [], y :: b, z :: c, h1, h2 => rfl
  | x :: a, y :: b, z :: c, h1, h2 => by
    have e1 : (decide (x < y) || (x == y && Op.bytesLess a b)) = true := h1
    have e2 : (decide (y < z) || (y == z && Op.bytesLess b c)) = true := h2
    show (decide (x < z) || (x == z && Op.bytesLess a c)) = true
    simp only [Bool.or_eq_true, decide_eq_true_eq, Bool.and_eq_true, beq_iff_eq, UInt8.lt_iff_toNat_lt] at e1 e2 ⊢
    rcases e1 with e1 | ⟨rfl, e1⟩
    · rcases e2 with e2 | ⟨rfl, e2⟩
      · left; omega
      · left; exact e1
    · rcases e2 with e2 | ⟨rfl, e2⟩
      · left; exact e2
      · exact .inr ⟨rfl, kl_trans e1 e2⟩
theorem kl_tri : ∀ (a b : Bytes), kl a b = true ∨ a = b ∨ kl b a = true
  | [], [] => .inr (.inl rfl)
  | [], _ :: _ => .inl rfl
  | _ :: _, [] => .inr (.inr rfl)
  | x :: a, y :: b => by
    show (decide (x < y) || (x == y && Op.bytesLess a b)) = true ∨ x :: a = y :: b ∨ (decide (y < x) || (y == x && Op.bytesLess b a)) = true
    simp only [Bool.or_eq_true, decide_eq_true_eq, Bool.and_eq_true, beq_iff_eq, UInt8.lt_iff_toNat_lt]
    rcases Nat.lt_trichotomy x.toNat y.toNat with h | h | h
    · exact .inl (.inl h)
    · have e : x = y := UInt8.toNat_inj.1 h
      subst e
      rcases kl_tri a b with h2 | h2 | h2
      · exact .inl (.inr ⟨rfl, h2⟩)
      · exact .inr (.inl (by rw [h2]))
      · exact .inr (.inr (.inr ⟨rfl, h2⟩))
    · exact .inr (.inr (.inl h))
theorem kl_asym {a b : Bytes} (h : kl a b = true) : kl b a = false := by
  cases h2 : kl b a
  · rfl
  · have := kl_trans h h2
    rw [kl_irr] at this
    cases this
theorem kl_ne {a b : Bytes} (h : kl a b = true) : a ≠ b := fun e => by rw [e, kl_irr] at h; cases h
theorem cb_lt : ∀ (a b : Bytes), (Lib.compareBytes a b < 0 ↔ kl a b = true) ∧ (Lib.compareBytes a b = 0 ↔ a = b)
  | [], [] => by simp [Lib.compareBytes, kl, Op.bytesLess]
  | [], _ :: _ => by simp [Lib.compareBytes, kl, Op.bytesLess]
  | _ :: _, [] => by simp [Lib.compareBytes, kl, Op.bytesLess]
  | x :: a, y :: b => by
    have ih := cb_lt a b
    have hk : kl (x :: a) (y :: b) = (decide (x < y) || (x == y && Op.bytesLess a b)) := rfl
    rw [hk]
    unfold Lib.compareBytes
    simp only [UInt8.lt_iff_toNat_lt, Bool.or_eq_true, decide_eq_true_eq, Bool.and_eq_true, beq_iff_eq]
    rcases Nat.lt_trichotomy x.toNat y.toNat with h | h | h
    · rw [if_pos h]
      have hne : x ≠ y := fun e => by rw [e] at h; omega
      simp [h, hne]
    · have e : x = y := UInt8.toNat_inj.1 h
      subst e
      rw [if_neg (by omega), if_neg (by omega)]
      simp only [Nat.lt_irrefl, false_or, true_and, List.cons.injEq]
      exact ih
    · rw [if_neg (by omega), if_pos h]
      have hne : x ≠ y := fun e => by rw [e] at h; omega
      have h3 : ¬ x.toNat < y.toNat := by omega
      simp [h3, hne]
def srt (l : List ChangeM) : Prop := l.Pairwise fun a b => kl a.key b.key = true
theorem split3 (k : Bytes) : ∀ {l : List ChangeM}, srt l → ∃ A B, l = A ++ B ∧ (∀ a ∈ A, kl a.key k = true) ∧ ((∃ b B', B = b :: B' ∧ b.key = k ∧ ∀ x ∈ B', kl k x.key = true) ∨ ∀ x ∈ B, kl k x.key = true)
  | [], _ => ⟨[], [], rfl, by simp, .inr (by simp)⟩
  | r :: l, h => by
    have h1 := (List.pairwise_cons.1 h).1
    rcases kl_tri r.key k with h2 | h2 | h2
    · obtain ⟨A, B, rfl, hA, hB⟩ := split3 k (List.pairwise_cons.1 h).2
      exact ⟨r :: A, B, rfl, fun a ha => by rcases List.mem_cons.1 ha with rfl | ha; exact h2; exact hA a ha, hB⟩
    · exact ⟨[], r :: l, rfl, by simp, .inl ⟨r, l, rfl, h2, fun x hx => by rw [← h2]; exact h1 x hx⟩⟩
    · exact ⟨[], r :: l, rfl, by simp, .inr fun x hx => by rcases List.mem_cons.1 hx with rfl | hx; exact h2; exact kl_trans h2 (h1 x hx)⟩
/-- which place a key has among rows -/
def lbS (l : List ChangeM) (k : Bytes) : Nat := (l.filter fun r => kl r.key k).length
def isS (l : List ChangeM) (k : Bytes) : Bool := l.any fun r => decide (r.key = k)
theorem fl_all {l : List ChangeM} {p : ChangeM → Bool} (h : ∀ x ∈ l, p x = true) : l.filter p = l := List.filter_eq_self.2 h
theorem fl_no {l : List ChangeM} {p : ChangeM → Bool} (h : ∀ x ∈ l, p x = false) : l.filter p = [] := List.filter_eq_nil_iff.2 fun x hx => by rw [h x hx]; simp
/-- what the parts come to -/
theorem parts {k : Bytes} {A B : List ChangeM} (hA : ∀ a ∈ A, kl a.key k = true) (hB : (∃ b B', B = b :: B' ∧ b.key = k ∧ ∀ x ∈ B', kl k x.key = true) ∨ ∀ x ∈ B, kl k x.key = true) :
    (A ++ B).filter (fun r => kl r.key k) = A ∧ lbS (A ++ B) k = A.length ∧
    ((∃ b B', B = b :: B' ∧ b.key = k ∧ isS (A ++ B) k = true ∧ (A ++ B).filter (fun r => kl k r.key) = B') ∨ (isS (A ++ B) k = false ∧ (A ++ B).filter (fun r => kl k r.key) = B)) := by
  have f1 : A.filter (fun r => kl r.key k) = A := fl_all hA
  have f2 : A.filter (fun r => kl k r.key) = [] := fl_no fun x hx => kl_asym (hA x hx)
  have i1 : A.any (fun r => decide (r.key = k)) = false := List.any_eq_false.2 fun x hx => by simpa using kl_ne (hA x hx)
  rcases hB with ⟨b, B', rfl, hb, hB⟩ | hB
  · have f3 : (b :: B').filter (fun r => kl r.key k) = [] := fl_no fun x hx => by
      rcases List.mem_cons.1 hx with rfl | hx
      · rw [hb]; exact kl_irr k
      · exact kl_asym (hB x hx)
    have f4 : (b :: B').filter (fun r => kl k r.key) = B' := by
      rw [List.filter_cons, hb, kl_irr, if_neg (by simp)]
      exact fl_all hB
    refine ⟨by rw [List.filter_append, f1, f3, List.append_nil], by unfold lbS; rw [List.filter_append, f1, f3, List.append_nil], .inl ⟨b, B', rfl, hb, ?_, by rw [List.filter_append, f2, f4]; rfl⟩⟩
    unfold isS
    rw [List.any_append, List.any_cons, hb]
    simp
  · have f3 : B.filter (fun r => kl r.key k) = [] := fl_no fun x hx => kl_asym (hB x hx)
    have f4 : B.filter (fun r => kl k r.key) = B := fl_all hB
    refine ⟨by rw [List.filter_append, f1, f3, List.append_nil], by unfold lbS; rw [List.filter_append, f1, f3, List.append_nil], .inr ⟨?_, by rw [List.filter_append, f2, f4]; rfl⟩⟩
    unfold isS
    rw [List.any_append, i1]
    exact List.any_eq_false.2 fun x hx => by simpa using (kl_ne (hB x hx)).symm
theorem lb_iff {l : List ChangeM} (h : srt l) (k : Bytes) {j : Nat} {r : ChangeM} (hr : l[j]? = some r) : kl r.key k = true ↔ j < lbS l k := by
  obtain ⟨A, B, rfl, hA, hB⟩ := split3 k h
  rw [(parts hA hB).2.1]
  by_cases hj : j < A.length
  · rw [List.getElem?_append_left hj] at hr
    exact ⟨fun _ => hj, fun _ => hA r (List.mem_of_getElem? hr)⟩
  · rw [List.getElem?_append_right (by omega)] at hr
    have hm := List.mem_of_getElem? hr
    have : kl r.key k = false := by
      rcases hB with ⟨b, B', rfl, hb, hB⟩ | hB
      · rcases List.mem_cons.1 hm with rfl | hm
        · rw [hb]; exact kl_irr k
        · exact kl_asym (hB r hm)
      · exact kl_asym (hB r hm)
    rw [this]
    exact ⟨fun h => (by cases h), fun h => absurd h hj⟩
theorem lb_le (l : List ChangeM) (k : Bytes) : lbS l k ≤ l.length := List.length_filter_le _ _
theorem lb_is {l : List ChangeM} (h : srt l) (k : Bytes) : isS l k = (match l[lbS l k]? with | some r => decide (r.key = k) | none => false) := by
  obtain ⟨A, B, rfl, hA, hB⟩ := split3 k h
  obtain ⟨_, p2, p3⟩ := parts hA hB
  rw [p2, List.getElem?_append_right (Nat.le_refl _), Nat.sub_self]
  rcases p3 with ⟨b, B', rfl, hb, hi, _⟩ | ⟨hi, _⟩
  · rw [hi]; simp [hb]
  · rw [hi]
    cases B with
    | nil => rfl
    | cons b B' =>
      unfold isS at hi
      rw [List.any_append, List.any_cons] at hi
      simp at hi
      simp [hi.2.1]
end Go.Proofs.YthdjckbjjfiopacGreatDoor
