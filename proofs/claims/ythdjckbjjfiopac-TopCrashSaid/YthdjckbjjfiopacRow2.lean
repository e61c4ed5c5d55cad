/- Walks through what applies changes to rows, and what compares rows. No condition. -/
import Derived.Test.YthdjckbjjfiopacRowIns
import Derived.Test.YthdjckbjjfiopacRowS
import Derived.Test.YthdjckbjjfiopacSlC
namespace Go.Proofs.Ythdjckbjjfiopac
open Go Go.Sl Go.Proofs
set_option linter.unusedVariables false
set_option linter.unusedSimpArgs false
def RBool (P : Bool → Prop) (F : List HProp) : Value → List HProp → Prop := fun v L' => ∃ b, v = Bo b ∧ P b ∧ L' = F
section
variable {c : Cx} {E : Env} {L : List HProp} {K : List KI}
theorem g_retBool {P : Bool → Prop} {F : List HProp} {vs : List Value} (b : Bool) (hR : c.R = RBool P F) (hr : resOf E c.fn.results.toList = some vs) (hv : tup vs = Bo b) (hp : P b) [S : Sub L F] (hds : c.n.ds = [] := by rfl) : G c (.code .ret :: K) E L :=
  fun a w hE hS => wp_ret (kq_ret (res_fpost (hds := hds) hr hE (S.sat hS) (by rw [hR]; exact ⟨b, hv, hp, rfl⟩)))
end
theorem srt_more {l : List ChangeM} {k : Nat} {x : ChangeM} (h : srt (l.take k)) (hx : l[k]? = some x) (hp : k = 0 ∨ ∃ y, l[k - 1]? = some y ∧ kl y.key x.key = true) : srt (l.take (k + 1)) := by
  rw [take_at hx]
  refine List.pairwise_append.2 ⟨h, by simp, fun a ha b hb => ?_⟩
  simp at hb
  subst hb
  rcases hp with rfl | ⟨y, hy, hyx⟩
  · simp at ha
  · obtain ⟨i, hi, rfl⟩ := List.getElem_of_mem ha
    have hik : i < k := by simp at hi; omega
    have hk := (List.getElem?_eq_some_iff.1 hy).1
    by_cases he : i = k - 1
    · subst he
      have : (l.take k)[k - 1] = y := by
        have h1 := (List.getElem?_eq_some_iff.1 hy).2
        rw [List.getElem_take]; exact h1
      rw [this]; exact hyx
    · have h2 := List.pairwise_iff_getElem.1 h i (k - 1) hi (by simp; omega) (by omega)
      have : (l.take k)[k - 1]'(by simp; omega) = y := by
        have h1 := (List.getElem?_eq_some_iff.1 hy).2
        rw [List.getElem_take]; exact h1
      rw [this] at h2
      exact kl_trans h2 hyx
theorem srt_aps {l : List ChangeM} (h : srt l) : ∀ cs : List ChangeM, srt (apsS l cs) ∧ (apsS l cs).length ≤ l.length + cs.length := by
  intro cs
  induction cs generalizing l with
  | nil => exact ⟨h, by simp [apsS]⟩
  | cons c cs ih =>
    have := ih (srt_ap h c)
    have h2 := ap_len l c h
    refine ⟨this.1, ?_⟩
    have h3 := this.2
    simp only [apsS, List.foldl_cons, List.length_cons] at h3 ⊢
    omega
theorem is_lt {l : List ChangeM} (h : srt l) {k : Bytes} (hi : isS l k = true) : lbS l k < l.length := by
  rw [lb_is h] at hi
  split at hi
  · rename_i r hr; exact (List.getElem?_eq_some_iff.1 hr).1
  · cases hi
section
variable {c r : ChangeM} {z : Bool × List ChangeM}
theorem step_tt (h : (!z.1 && (kl c.key r.key || decide (c.key = r.key))) = true) (h2 : r.key ≠ c.key) : stepN c z r = (true, z.2 ++ [c] ++ [r]) := by unfold stepN; rw [if_pos h, if_pos h2]
theorem step_tf (h : (!z.1 && (kl c.key r.key || decide (c.key = r.key))) = true) (h2 : ¬ r.key ≠ c.key) : stepN c z r = (true, z.2 ++ [c]) := by unfold stepN; rw [if_pos h, if_neg h2]
theorem step_ft (h : ¬ (!z.1 && (kl c.key r.key || decide (c.key = r.key))) = true) (h2 : r.key ≠ c.key) : stepN c z r = (z.1, z.2 ++ [r]) := by unfold stepN; rw [if_neg h, if_pos h2]
theorem step_ff (h : ¬ (!z.1 && (kl c.key r.key || decide (c.key = r.key))) = true) (h2 : ¬ r.key ≠ c.key) : stepN c z r = z := by unfold stepN; rw [if_neg h, if_neg h2]
end
theorem nx_len (c : ChangeM) : ∀ (l : List ChangeM) (z : Bool × List ChangeM), (l.foldl (stepN c) z).2.length ≤ z.2.length + 2 * l.length
  | [], z => by simp
  | r :: l, z => by
    have h1 := nx_len c l (stepN c z r)
    have h2 : (stepN c z r).2.length ≤ z.2.length + 2 := by
      unfold stepN
      simp only
      split <;> split <;> simp
    simp only [List.foldl_cons, List.length_cons]
    omega
theorem chR_snoc (a : List ChangeM) (x : ChangeM) : chR a ++ [encC x] = chR (a ++ [x]) := by simp [chR]

-- counterfoil/counterfoillaw.goodRows is not in this seat
end Go.Proofs.Ythdjckbjjfiopac
