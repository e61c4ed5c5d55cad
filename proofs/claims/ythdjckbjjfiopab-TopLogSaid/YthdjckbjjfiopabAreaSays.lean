/- The walk through the law AreaSays: it returns true and leaves what was there as it was, for areas whose numbers are ints. No condition besides. -/
import Derived.Test.YthdjckbjjfiopabArea5
namespace Go.Proofs.Ythdjckbjjfiopab
open Go.Sl Go.Proofs
set_option linter.unusedVariables false
set_option linter.unusedSimpArgs false
/-- how many are marked below k -/
def cM (m : Nat → Bool) : Nat → Nat
  | 0 => 0
  | k + 1 => cM m k + if m k = true then 1 else 0
theorem cM_or {m n : Nat → Bool} (h : ∀ p, m p = true → n p = true → False) : ∀ k, cM (fun p => m p || n p) k = cM m k + cM n k
  | 0 => rfl
  | k + 1 => by
    simp only [cM, cM_or h k]
    have := h k
    rcases Bool.eq_false_or_eq_true (m k) with h1 | h1 <;> rcases Bool.eq_false_or_eq_true (n k) with h2 | h2 <;> simp only [h1, h2, Bool.or_true, Bool.or_false, Bool.true_or, Bool.false_or, Bool.false_eq_true, if_true, if_false] at this ⊢ <;> first | omega | exact (this trivial trivial).elim
theorem cM_int {f c : Int} (h0 : 0 ≤ f) (h1 : 0 ≤ c) : ∀ k : Nat, (cM (fun p => decide (f ≤ p ∧ (p : Int) < f + c)) k : Int) = if (k : Int) < f then 0 else if (k : Int) < f + c then k - f else c
  | 0 => by simp only [cM]; split <;> (try split) <;> omega
  | k + 1 => by
    have ih := cM_int h0 h1 k
    simp only [cM]
    have e : ((k + 1 : Nat) : Int) = (k : Int) + 1 := by omega
    by_cases h : f ≤ (k : Int) ∧ (k : Int) < f + c
    · rw [if_neg (by omega), if_pos h.2] at ih
      rw [if_pos (decide_eq_true h), e, if_neg (by omega)]
      by_cases h5 : (k : Int) + 1 < f + c
      · rw [if_pos h5]; omega
      · rw [if_neg h5]; omega
    · rw [if_neg (by rw [decide_eq_false h]; decide), e]
      by_cases h4 : (k : Int) < f
      · rw [if_pos h4] at ih
        by_cases h5 : (k : Int) + 1 < f
        · rw [if_pos h5]; omega
        · rw [if_neg h5]
          by_cases h6 : (k : Int) + 1 < f + c
          · rw [if_pos h6]; omega
          · rw [if_neg h6]; omega
      · rw [if_neg h4, if_neg (by omega)] at ih
        rw [if_neg (by omega), if_neg (by omega)]; omega
theorem cM_le (m : Nat → Bool) : ∀ k, cM m k ≤ k
  | 0 => Nat.le_refl _
  | k + 1 => by have := cM_le m k; simp only [cM]; split <;> omega
theorem chk_ok : ∀ {l : List Area} {e : Int}, chkA e l = 0 → okV l ∧ ∀ a ∈ l, e < a.fr
  | [], e, _ => by simp [okV]
  | a :: l, e, h => by
    unfold chkA at h
    split at h
    · omega
    · split at h
      · omega
      · rename_i h1 h2
        obtain ⟨h3, h4⟩ := chk_ok h
        refine ⟨fun b hb => ?_, fun b hb => ?_⟩
        · rcases List.mem_cons.1 hb with rfl | hb
          · omega
          · exact h3 b hb
        · rcases List.mem_cons.1 hb with rfl | hb
          · omega
          · have := h4 b hb; omega
theorem cnt_ok : ∀ {l : List Area} {e : Int}, chkA e l = 0 → cntA l = cM (mk l) 16
  | [], e, _ => by
    have : ∀ k, cM (mk []) k = 0 := fun k => by induction k with
      | zero => rfl
      | succ k ih => simp [cM, ih, mk]
    simp [cntA, this]
  | a :: l, e, h => by
    have hv := (chk_ok h).1 a (by simp)
    have h' := h
    unfold chkA at h
    split at h
    · omega
    · split at h
      · omega
      · have ih := cnt_ok h
        have hl := (chk_ok h).2
        have e1 : mk (a :: l) = fun p : Nat => decide (a.fr ≤ p ∧ (p : Int) < a.fr + a.many) || mk l p := by funext p; simp [mk]
        have e2 := cM_int (f := a.fr) (c := a.many) (by omega) (by omega) 16
        rw [e1, cM_or]
        · simp only [cntA, ih]
          split at e2
          · omega
          · split at e2 <;> omega
        · intro p h1 h2
          simp only [mk, List.any_eq_true, decide_eq_true_eq] at h1 h2
          obtain ⟨b, hb, h2⟩ := h2
          have := hl b hb
          omega
theorem chkA_nn : ∀ (l : List Area) (e : Int), 0 ≤ chkA e l
  | [], _ => by simp [chkA]
  | a :: l, e => by unfold chkA; split; omega; split; omega; exact chkA_nn l _
theorem hasA_out {l : List Area} (h : okV l) {n : Int} (hn : n < 0 ∨ 16 ≤ n) : hasA l n = false := by
  simp only [hasA, List.any_eq_false]
  intro a ha
  have := h a ha
  simp; omega

theorem ofM_len (m : Nat → Bool) : (ofM m).length ≤ 1000000 := by have := (foldP_ok m 16).1; show (foldP m 16).length ≤ _; omega

-- counterfoil/counterfoillaw.AreaSays is not in this seat
end Go.Proofs.Ythdjckbjjfiopab
