/- Rows in the order of their keys: plain laws. No condition. -/
import Derived.Test.YthdjckbjjfiopacGreatDoorRow
import Derived.Lib.Bytealg
namespace Go.Proofs.YthdjckbjjfiopacGreatDoor
open Go Go.Sl Go.Proofs
set_option linter.unusedVariables false
set_option linter.unusedSimpArgs false
abbrev kl (a b : Bytes) : Bool := Op.bytesLess a b
theorem kl_irr : ∀ a : Bytes, kl a a = false
  | [] => rfl
  | x :: a => by
    show (decide (x < x) || (x == x && Op.bytesLess a a)) = false
    rw [show Op.bytesLess a a = false from kl_irr a]
    simp [UInt8.lt_iff_toNat_lt]
theorem kl_trans : ∀ {a b c : Bytes}, kl a b = true → kl b c = true → kl a c = true
  | a, [], c, h1, h2 => by cases a <;> cases h1
  | a, b, [], h1, h2 => by cases b <;> cases h2
  | [], y :: b, z :: c, h1, h2 => rfl
  | x :: a, y :: b, z :: c, h1, h2 => by
    have e1 : (decide (x < y) || (x == y && Op.bytesLess a b)) = true := h1
    have e2 : (decide (y < z) || (y == z && Op.bytesLess b c)) = true := h2
    show (decide (x < z) || (x == z && Op.bytesLess a c)) = true
    simp only [Bool.or_eq_true, decide_eq_true_eq, Bool.and_eq_true, beq_iff_eq, UInt8.lt_iff_toNat_lt] at e1 e2 ⊢
    rcases e1 with e1 | ⟨rfl, e1⟩
    · rcases e2 with e2 | ⟨rfl, e2⟩
      · left; omega
      · left; exact e1
    · rcases e2 with e2 | ⟨rfl, e2⟩
      · left; exact e2
      · exact .inr ⟨rfl, kl_trans e1 e2⟩
theorem kl_tri : ∀ (a b : Bytes), kl a b = true ∨ a = b ∨ kl b a = true
  | [], [] => .inr (.inl rfl)
  | [], _ :: _ => .inl rfl
  | _ :: _, [] => .inr (.inr rfl)
  | x :: a, y :: b => by
    show (decide (x < y) || (x == y && Op.bytesLess a b)) = true ∨ x :: a = y :: b ∨ (decide (y < x) || (y == x && Op.bytesLess b a)) = true
    simp only [Bool.or_eq_true, decide_eq_true_eq, Bool.and_eq_true, beq_iff_eq, UInt8.lt_iff_toNat_lt]
    rcases Nat.lt_trichotomy x.toNat y.toNat with h | h | h
    · exact .inl (.inl h)
    · have e : x = y := UInt8.toNat_inj.1 h
      subst e
      rcases kl_tri a b with h2 | h2 | h2
      · exact .inl (.inr ⟨rfl, h2⟩)
      · exact .inr (.inl (by rw [h2]))
      · exact .inr (.inr (.inr ⟨rfl, h2⟩))
    · exact .inr (.inr (.inl h))
theorem kl_asym {a b : Bytes} (h : kl a b = true) : kl b a = false := by
  cases h2 : kl b a
  · rfl
  · have := kl_trans h h2
    rw [kl_irr] at this
    cases this
theorem kl_ne {a b : Bytes} (h : kl a b = true) : a ≠ b := fun e => by rw [e, kl_irr] at h; cases h
def srt (l : List ChangeM) : Prop := l.Pairwise fun a b => kl a.key b.key = true
theorem split3 (k : Bytes) : ∀ {l : List ChangeM}, srt l → ∃ A B, l = A ++ B ∧ (∀ a ∈ A, kl a.key k = true) ∧ ((∃ b B', B = b :: B' ∧ b.key = k ∧ ∀ x ∈ B', kl k x.key = true) ∨ ∀ x ∈ B, kl k x.key = true)
  | [], _ => ⟨[], [], rfl, by simp, .inr (by simp)⟩
  | r :: l, h => by
    have h1 := (List.pairwise_cons.1 h).1
    rcases kl_tri r.key k with h2 | h2 | h2
    · obtain ⟨A, B, rfl, hA, hB⟩ := split3 k (List.pairwise_cons.1 h).2
      exact ⟨r :: A, B, rfl, fun a ha => by rcases List.mem_cons.1 ha with rfl | ha; exact h2; exact hA a ha, hB⟩
    · exact ⟨[], r :: l, rfl, by simp, .inl ⟨r, l, rfl, h2, fun x hx => by rw [← h2]; exact h1 x hx⟩⟩
    · exact ⟨[], r :: l, rfl, by simp, .inr fun x hx => by rcases List.mem_cons.1 hx with rfl | hx; exact h2; exact kl_trans h2 (h1 x hx)⟩
/-- which place a key has among rows -/
def lbS (l : List ChangeM) (k : Bytes) : Nat := (l.filter fun r => kl r.key k).length
def isS (l : List ChangeM) (k : Bytes) : Bool := l.any fun r => decide (r.key = k)
def apS (l : List ChangeM) (c : ChangeM) : List ChangeM := (l.filter fun r => kl r.key c.key) ++ (if c.gone then [] else [c]) ++ l.filter fun r => kl c.key r.key
theorem fl_all {l : List ChangeM} {p : ChangeM → Bool} (h : ∀ x ∈ l, p x = true) : l.filter p = l := List.filter_eq_self.2 h
theorem fl_no {l : List ChangeM} {p : ChangeM → Bool} (h : ∀ x ∈ l, p x = false) : l.filter p = [] := List.filter_eq_nil_iff.2 fun x hx => by rw [h x hx]; simp
/-- what the parts come to -/
theorem parts {k : Bytes} {A B : List ChangeM} (hA : ∀ a ∈ A, kl a.key k = true) (hB : (∃ b B', B = b :: B' ∧ b.key = k ∧ ∀ x ∈ B', kl k x.key = true) ∨ ∀ x ∈ B, kl k x.key = true) :
    (A ++ B).filter (fun r => kl r.key k) = A ∧ lbS (A ++ B) k = A.length ∧
    ((∃ b B', B = b :: B' ∧ b.key = k ∧ isS (A ++ B) k = true ∧ (A ++ B).filter (fun r => kl k r.key) = B') ∨ (isS (A ++ B) k = false ∧ (A ++ B).filter (fun r => kl k r.key) = B)) := by
  have f1 : A.filter (fun r => kl r.key k) = A := fl_all hA
  have f2 : A.filter (fun r => kl k r.key) = [] := fl_no fun x hx => kl_asym (hA x hx)
  have i1 : A.any (fun r => decide (r.key = k)) = false := List.any_eq_false.2 fun x hx => by simpa using kl_ne (hA x hx)
  rcases hB with ⟨b, B', rfl, hb, hB⟩ | hB
  · have f3 : (b :: B').filter (fun r => kl r.key k) = [] := fl_no fun x hx => by
      rcases List.mem_cons.1 hx with rfl | hx
      · rw [hb]; exact kl_irr k
      · exact kl_asym (hB x hx)
    have f4 : (b :: B').filter (fun r => kl k r.key) = B' := by
      rw [List.filter_cons, hb, kl_irr, if_neg (by simp)]
      exact fl_all hB
    refine ⟨by rw [List.filter_append, f1, f3, List.append_nil], by unfold lbS; rw [List.filter_append, f1, f3, List.append_nil], .inl ⟨b, B', rfl, hb, ?_, by rw [List.filter_append, f2, f4]; rfl⟩⟩
    unfold isS
    rw [List.any_append, List.any_cons, hb]
    simp
  · have f3 : B.filter (fun r => kl r.key k) = [] := fl_no fun x hx => kl_asym (hB x hx)
    have f4 : B.filter (fun r => kl k r.key) = B := fl_all hB
    refine ⟨by rw [List.filter_append, f1, f3, List.append_nil], by unfold lbS; rw [List.filter_append, f1, f3, List.append_nil], .inr ⟨?_, by rw [List.filter_append, f2, f4]; rfl⟩⟩
    unfold isS
    rw [List.any_append, i1]
    exact List.any_eq_false.2 fun x hx => by simpa using (kl_ne (hB x hx)).symm
theorem lb_le (l : List ChangeM) (k : Bytes) : lbS l k ≤ l.length := List.length_filter_le _ _
/-- what a change does, place by place -/
theorem ap_real {l : List ChangeM} (h : srt l) (c : ChangeM) : apS l c = if isS l c.key = true then (if c.gone = true then l.eraseIdx (lbS l c.key) else l.set (lbS l c.key) c) else (if c.gone = true then l else l.take (lbS l c.key) ++ [c] ++ l.drop (lbS l c.key)) := by
  obtain ⟨A, B, rfl, hA, hB⟩ := split3 c.key h
  obtain ⟨p1, p2, p3⟩ := parts hA hB
  unfold apS
  rw [p1, p2]
  rcases p3 with ⟨b, B', rfl, hb, hi, hf⟩ | ⟨hi, hf⟩
  · rw [hi, hf, if_pos rfl]
    by_cases hg : c.gone = true
    · rw [if_pos hg, if_pos hg, List.eraseIdx_append_of_length_le (Nat.le_refl _), Nat.sub_self]
      simp
    · rw [if_neg hg, if_neg hg, List.set_append_right _ _ (Nat.le_refl _), Nat.sub_self]
      simp
  · rw [hi, hf, if_neg (show ¬ (false = true) by simp)]
    by_cases hg : c.gone = true
    · rw [if_pos hg, if_pos hg]; simp
    · rw [if_neg hg, if_neg hg]; simp
theorem srt_ap {l : List ChangeM} (h : srt l) (c : ChangeM) : srt (apS l c) := by
  unfold apS srt
  rw [List.append_assoc]
  refine List.pairwise_append.2 ⟨h.sublist List.filter_sublist, List.pairwise_append.2 ⟨by split <;> simp, h.sublist List.filter_sublist, fun a ha b hb => ?_⟩, fun a ha b hb => ?_⟩
  · split at ha
    · cases ha
    · simp at ha hb; subst ha; exact hb.2
  · simp only [List.mem_filter] at ha
    rcases List.mem_append.1 hb with hb | hb
    · split at hb
      · cases hb
      · simp at hb; subst hb; exact ha.2
    · simp only [List.mem_filter] at hb
      exact kl_trans ha.2 hb.2
theorem ap_len (l : List ChangeM) (c : ChangeM) (h : srt l) : (apS l c).length ≤ l.length + 1 := by
  rw [ap_real h]
  split
  · split
    · have := List.length_eraseIdx_le l (lbS l c.key); omega
    · simp
  · split
    · omega
    · have := lb_le l c.key
      simp; omega
/-- the reference's way: one row after another -/
def stepN (c : ChangeM) (z : Bool × List ChangeM) (r : ChangeM) : Bool × List ChangeM :=
  let y := if (!z.1 && (kl c.key r.key || decide (c.key = r.key))) = true then (true, z.2 ++ [c]) else z
  if r.key ≠ c.key then (y.1, y.2 ++ [r]) else y
def nxS (c : ChangeM) (l : List ChangeM) : Bool × List ChangeM := l.foldl (stepN c) (c.gone, [])
def endN (c : ChangeM) (z : Bool × List ChangeM) : List ChangeM := if z.1 = true then z.2 else z.2 ++ [c]
theorem nx_take {c : ChangeM} {l : List ChangeM} {k : Nat} {r : ChangeM} (h : l[k]? = some r) : nxS c (l.take (k + 1)) = stepN c (nxS c (l.take k)) r := by
  unfold nxS
  rw [take_at h, List.foldl_append]
  rfl
theorem nx_low (c : ChangeM) : ∀ (A : List ChangeM) (z : Bool × List ChangeM), (∀ a ∈ A, kl a.key c.key = true) → A.foldl (stepN c) z = (z.1, z.2 ++ A)
  | [], z, _ => by simp
  | a :: A, z, h => by
    have ha := h a (by simp)
    have e : stepN c z a = (z.1, z.2 ++ [a]) := by
      unfold stepN
      rw [kl_asym ha, decide_eq_false (fun hh => kl_ne ha hh.symm)]
      simp [kl_ne ha]
    rw [List.foldl_cons, e, nx_low c A _ fun x hx => h x (by simp [hx])]
    simp
theorem nx_high (c : ChangeM) : ∀ (B : List ChangeM) (l : List ChangeM), (∀ a ∈ B, kl c.key a.key = true) → B.foldl (stepN c) (true, l) = (true, l ++ B)
  | [], z, _ => by simp
  | a :: B, z, h => by
    have ha := h a (by simp)
    have e : stepN c (true, z) a = (true, z ++ [a]) := by
      unfold stepN
      simp [(kl_ne ha).symm]
    rw [List.foldl_cons, e, nx_high c B _ fun x hx => h x (by simp [hx])]
    simp
theorem nx_all {l : List ChangeM} (h : srt l) (c : ChangeM) : endN c (nxS c l) = apS l c := by
  obtain ⟨A, B, rfl, hA, hB⟩ := split3 c.key h
  obtain ⟨p1, p2, p3⟩ := parts hA hB
  unfold apS nxS
  rw [p1, List.foldl_append, nx_low c A _ hA]
  simp only [List.nil_append]
  rcases hB with ⟨b, B', rfl, hb, hB⟩ | hB
  · have hf : (A ++ b :: B').filter (fun r => kl c.key r.key) = B' := by
      rcases p3 with ⟨b2, B2, e, _, _, hf⟩ | ⟨hi, _⟩
      · injection e with e1 e2; rw [hf, e2]
      · unfold isS at hi; rw [List.any_append, List.any_cons, hb] at hi; simp at hi
    rw [hf, List.foldl_cons]
    by_cases hg : c.gone = true
    · have e : stepN c (c.gone, A) b = (true, A) := by unfold stepN; simp [hg, hb]
      rw [e, nx_high c B' _ hB, if_pos hg]
      simp [endN]
    · have hg' : c.gone = false := by simpa using hg
      have e : stepN c (c.gone, A) b = (true, A ++ [c]) := by unfold stepN; simp [hg', hb]
      rw [e, nx_high c B' _ hB, if_neg hg]
      simp [endN]
  · have hf : (A ++ B).filter (fun r => kl c.key r.key) = B := by
      rw [List.filter_append, fl_no fun x hx => kl_asym (hA x hx), fl_all hB]; rfl
    rw [hf]
    by_cases hg : c.gone = true
    · rw [hg, nx_high c B _ hB, if_pos rfl]
      simp [endN]
    · have hg' : c.gone = false := by simpa using hg
      rw [hg', if_neg (by simp)]
      cases B with
      | nil => simp [endN]
      | cons b B' =>
        have hb := hB b (by simp)
        have e : stepN c (false, A) b = (true, A ++ [c] ++ [b]) := by unfold stepN; simp [hb, (kl_ne hb).symm]
        rw [List.foldl_cons, e, nx_high c B' _ fun x hx => hB x (by simp [hx])]
        simp [endN]
def apsS (l : List ChangeM) (cs : List ChangeM) : List ChangeM := cs.foldl apS l
theorem aps_take {l cs : List ChangeM} {k : Nat} {r : ChangeM} (h : cs[k]? = some r) : apsS l (cs.take (k + 1)) = apS (apsS l (cs.take k)) r := by
  unfold apsS
  rw [take_at h, List.foldl_append]
  rfl

end Go.Proofs.YthdjckbjjfiopacGreatDoor
