/- Walks through what applies changes to rows, and what compares rows. No condition. -/
import Derived.Test.YthdjckbjjfiopacGreatDoorRowIns
import Derived.Test.YthdjckbjjfiopacGreatDoorRowS
import Derived.Test.YthdjckbjjfiopacGreatDoorSlC
namespace Go.Proofs.YthdjckbjjfiopacGreatDoor
open Go Go.Sl Go.Proofs
set_option linter.unusedVariables false
set_option linter.unusedSimpArgs false
section
variable {c : Cx} {E : Env} {L : List HProp} {K : List KI}
end
theorem srt_aps {l : List ChangeM} (h : srt l) : ∀ cs : List ChangeM, srt (apsS l cs) ∧ (apsS l cs).length ≤ l.length + cs.length := by
  intro cs
  induction cs generalizing l with
  | nil => exact ⟨h, by simp [apsS]⟩
  | cons c cs ih =>
    have := ih (srt_ap h c)
    have h2 := ap_len l c h
    refine ⟨this.1, ?_⟩
    have h3 := this.2
    simp only [apsS, List.foldl_cons, List.length_cons] at h3 ⊢
    omega
section
variable {c r : ChangeM} {z : Bool × List ChangeM}
theorem step_tt (h : (!z.1 && (kl c.key r.key || decide (c.key = r.key))) = true) (h2 : r.key ≠ c.key) : stepN c z r = (true, z.2 ++ [c] ++ [r]) := by unfold stepN; rw [if_pos h, if_pos h2]
theorem step_tf (h : (!z.1 && (kl c.key r.key || decide (c.key = r.key))) = true) (h2 : ¬ r.key ≠ c.key) : stepN c z r = (true, z.2 ++ [c]) := by unfold stepN; rw [if_pos h, if_neg h2]
theorem step_ft (h : ¬ (!z.1 && (kl c.key r.key || decide (c.key = r.key))) = true) (h2 : r.key ≠ c.key) : stepN c z r = (z.1, z.2 ++ [r]) := by unfold stepN; rw [if_neg h, if_pos h2]
theorem step_ff (h : ¬ (!z.1 && (kl c.key r.key || decide (c.key = r.key))) = true) (h2 : ¬ r.key ≠ c.key) : stepN c z r = z := by unfold stepN; rw [if_neg h, if_neg h2]
end
theorem nx_len (c : ChangeM) : ∀ (l : List ChangeM) (z : Bool × List ChangeM), (l.foldl (stepN c) z).2.length ≤ z.2.length + 2 * l.length
  | [], z => by simp
  | r :: l, z => by
    have h1 := nx_len c l (stepN c z r)
    have h2 : (stepN c z r).2.length ≤ z.2.length + 2 := by
      unfold stepN
      simp only
      split <;> split <;> simp
    simp only [List.foldl_cons, List.length_cons]
    omega
theorem chR_snoc2 (a : List ChangeM) (x : ChangeM) : chR a ++ [encC x] = chR (a ++ [x]) := by simp [chR]

-- counterfoil/counterfoillaw.goodRows is not in this seat
end Go.Proofs.YthdjckbjjfiopacGreatDoor
