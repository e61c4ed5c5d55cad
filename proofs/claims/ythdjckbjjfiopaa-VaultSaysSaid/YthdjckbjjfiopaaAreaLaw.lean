/- Plain laws of areas and their marks: the areas of marks are valid and have these marks; valid areas with the same marks are the same. No condition. -/
import Derived.Test.YthdjckbjjfiopaaArea5
import Derived.Test.YthdjckbjjfiopaaAreaSays
namespace Go.Proofs.Ythdjckbjjfiopaa
open Go.Sl Go.Proofs
set_option linter.unusedVariables false
set_option linter.unusedSimpArgs false
def endE : Int → List Area → Int
  | e, [] => e
  | _, a :: l => endE (a.fr + a.many) l
theorem endE_app (e : Int) (l : List Area) (x : Area) : endE e (l ++ [x]) = x.fr + x.many := by
  induction l generalizing e with
  | nil => rfl
  | cons a l ih => exact ih _
theorem chk_snoc (e : Int) (l : List Area) (x : Area) : chkA e (l ++ [x]) = 0 ↔ chkA e l = 0 ∧ (0 ≤ x.fr ∧ 1 ≤ x.many ∧ x.fr + x.many ≤ 16) ∧ endE e l < x.fr := by
  induction l generalizing e with
  | nil =>
    simp only [List.nil_append, chkA, endE, true_and]
    split
    · constructor
      · intro h; omega
      · intro h; omega
    · split
      · constructor
        · intro h; omega
        · intro h; omega
      · constructor
        · intro h; omega
        · intro h; rfl
  | cons a l ih =>
    simp only [List.cons_append, chkA, endE]
    split
    · constructor
      · intro h; omega
      · intro h; omega
    · split
      · constructor
        · intro h; omega
        · intro h; omega
      · exact ih _
theorem snoc_of {l : List Area} (h : 0 < l.length) : ∃ r, l = r ++ [lastA l] := by
  refine ⟨l.dropLast, ?_⟩
  have hne : l ≠ [] := by intro e; subst e; simp at h
  have : lastA l = l.getLast hne := by
    unfold lastA
    rw [List.getD_eq_getElem?_getD, List.getElem?_eq_getElem (by omega), List.getLast_eq_getElem]
    rfl
  rw [this, List.dropLast_concat_getLast]
theorem foldP_law (m : Nat → Bool) : ∀ k, k ≤ 16 → chkA (-1) (foldP m k) = 0 ∧ ∀ p : Nat, mk (foldP m k) p = (m p && decide (p < k))
  | 0, _ => ⟨rfl, fun p => by simp [foldP, mk]⟩
  | k + 1, hk => by
    obtain ⟨h1, h2⟩ := foldP_law m k (by omega)
    obtain ⟨h3, h4⟩ := foldP_ok m k
    simp only [foldP, stepP]
    generalize foldP m k = l at *
    by_cases hm : m k = true
    · rw [if_pos hm]
      by_cases hc : 0 < l.length ∧ (lastA l).fr + (lastA l).many = k
      · rw [if_pos hc]
        obtain ⟨r, hr⟩ := snoc_of hc.1
        generalize lastA l = x at *
        subst hr
        rw [chk_snoc] at h1
        have e : (r ++ [x]).set ((r ++ [x]).length - 1) ⟨x.fr, x.many + 1⟩ = r ++ [⟨x.fr, x.many + 1⟩] := by simp [List.set_append]
        rw [e]
        refine ⟨(chk_snoc _ _ _).2 ⟨h1.1, by simp only; omega, h1.2.2⟩, fun p => ?_⟩
        have hp := h2 p
        simp only [mk, List.any_append, List.any_cons, List.any_nil, Bool.or_false] at hp ⊢
        by_cases hpk : p = k
        · subst hpk
          have : decide (x.fr ≤ (p : Int) ∧ (p : Int) < x.fr + (x.many + 1)) = true := decide_eq_true (by omega)
          simp [this, hm]
        · have e1 : decide (x.fr ≤ (p : Int) ∧ (p : Int) < x.fr + (x.many + 1)) = decide (x.fr ≤ (p : Int) ∧ (p : Int) < x.fr + x.many) := decide_eq_decide.2 (by omega)
          have e2 : decide (p < k + 1) = decide (p < k) := decide_eq_decide.2 (by omega)
          rw [e1, e2, hp]
      · rw [if_neg hc]
        have hend : endE (-1) l < k := by
          by_cases h0 : 0 < l.length
          · obtain ⟨r, hr⟩ := snoc_of h0
            have hx := h4 (lastA l) (List.mem_of_getElem? (lastA_at h0))
            rw [hr, endE_app]
            omega
          · have : l = [] := List.length_eq_zero_iff.1 (by omega)
            subst this
            show (-1 : Int) < k
            omega
        refine ⟨(chk_snoc _ _ _).2 ⟨h1, by simp only; omega, hend⟩, fun p => ?_⟩
        have hp := h2 p
        simp only [mk, List.any_append, List.any_cons, List.any_nil, Bool.or_false] at hp ⊢
        rw [hp]
        by_cases hpk : p = k
        · subst hpk
          simp [hm]
          omega
        · have e1 : decide ((k : Int) ≤ (p : Int) ∧ (p : Int) < (k : Int) + 1) = false := decide_eq_false (by omega)
          have e2 : decide (p < k + 1) = decide (p < k) := decide_eq_decide.2 (by omega)
          rw [e1, e2, Bool.or_false]
    · rw [if_neg hm]
      refine ⟨h1, fun p => ?_⟩
      rw [h2]
      by_cases hpk : p = k
      · subst hpk
        simp [hm]
      · have e2 : decide (p < k + 1) = decide (p < k) := decide_eq_decide.2 (by omega)
        rw [e2]
theorem chk_ofM (m : Nat → Bool) : chkA (-1) (ofM m) = 0 := (foldP_law m 16 (Nat.le_refl _)).1
theorem mk_ofM (m : Nat → Bool) {p : Nat} (h : p < 16) : mk (ofM m) p = m p := by
  rw [(foldP_law m 16 (Nat.le_refl _)).2 p]; simp [h]
theorem okV_ofM (m : Nat → Bool) : okV (ofM m) := (chk_ok (chk_ofM m)).1
theorem okA_of {l : List Area} (h : okV l) : okA l := fun a ha => by have := h a ha; unfold ok64; omega
theorem okA_ofM (m : Nat → Bool) : okA (ofM m) := okA_of (okV_ofM m)
theorem mk_cons (a : Area) (l : List Area) (p : Nat) : mk (a :: l) p = (decide (a.fr ≤ p ∧ (p : Int) < a.fr + a.many) || mk l p) := by simp [mk]
theorem mk_low {l : List Area} {e : Int} (h : chkA e l = 0) {p : Nat} (hp : (p : Int) ≤ e) : mk l p = false := by
  simp only [mk, List.any_eq_false]
  intro a ha
  have := (chk_ok h).2 a ha
  simp; omega
theorem areas_same : ∀ {l r : List Area} {e f : Int}, chkA e l = 0 → chkA f r = 0 → (∀ p : Nat, p < 16 → mk l p = mk r p) → l = r
  | [], [], _, _, _, _, _ => rfl
  | [], b :: r, e, f, h1, h2, h => by
    have hb := (chk_ok h2).1 b (by simp)
    have := h b.fr.toNat (by omega)
    rw [mk_cons, decide_eq_true (by omega)] at this
    simp [mk] at this
  | a :: l, [], e, f, h1, h2, h => by
    have ha := (chk_ok h1).1 a (by simp)
    have := h a.fr.toNat (by omega)
    rw [mk_cons, decide_eq_true (by omega)] at this
    simp [mk] at this
  | a :: l, b :: r, e, f, h1, h2, h => by
    have ha := (chk_ok h1).1 a (by simp)
    have hb := (chk_ok h2).1 b (by simp)
    have tl : chkA (a.fr + a.many) l = 0 := by
      unfold chkA at h1; split at h1; omega; split at h1; omega; exact h1
    have tr : chkA (b.fr + b.many) r = 0 := by
      unfold chkA at h2; split at h2; omega; split at h2; omega; exact h2
    have lo1 : ∀ p : Nat, (p : Int) < a.fr → mk (a :: l) p = false := fun p hp => by
      rw [mk_cons, decide_eq_false (by omega), mk_low tl (by omega)]; rfl
    have lo2 : ∀ p : Nat, (p : Int) < b.fr → mk (b :: r) p = false := fun p hp => by
      rw [mk_cons, decide_eq_false (by omega), mk_low tr (by omega)]; rfl
    have e1 : a.fr = b.fr := by
      have p1 := h a.fr.toNat (by omega)
      have p2 := h b.fr.toNat (by omega)
      rw [mk_cons a, decide_eq_true (by omega)] at p1
      rw [mk_cons b, decide_eq_true (by omega)] at p2
      by_cases c1 : a.fr < b.fr
      · rw [lo2 _ (by omega)] at p1; simp at p1
      · by_cases c2 : b.fr < a.fr
        · rw [lo1 _ (by omega)] at p2; simp at p2
        · omega
    have e2 : a.many = b.many := by
      by_cases c1 : a.many < b.many
      · have p1 := h (a.fr + a.many).toNat (by omega)
        rw [mk_cons a, mk_cons b, decide_eq_false (by omega), mk_low tl (by omega), decide_eq_true (by omega)] at p1
        simp at p1
      · by_cases c2 : b.many < a.many
        · have p1 := h (b.fr + b.many).toNat (by omega)
          rw [mk_cons a, mk_cons b, decide_eq_true (by omega), mk_low tr (by omega), decide_eq_false (by omega)] at p1
          simp at p1
        · omega
    obtain ⟨af, am⟩ := a
    obtain ⟨bf, bm⟩ := b
    simp only at e1 e2
    subst e1 e2
    congr 1
    refine areas_same tl tr fun p hp => ?_
    by_cases c : (p : Int) ≤ af + am
    · rw [mk_low tl (by simpa using c), mk_low tr (by simpa using c)]
    · have := h p hp
      rw [mk_cons, mk_cons, decide_eq_false (by simp only; omega)] at this
      simpa using this
theorem ofM_mk {l : List Area} (h : chkA (-1) l = 0) {m : Nat → Bool} (hm : ∀ p, p < 16 → m p = mk l p) : ofM m = l :=
  areas_same (chk_ofM m) h fun p hp => by rw [mk_ofM m hp, hm p hp]
theorem ofM_congr {m n : Nat → Bool} (h : ∀ p, p < 16 → m p = n p) : ofM m = ofM n := foldP_ext h 16 (Nat.le_refl _)
theorem hasA_in {l : List Area} {n : Int} (h0 : 0 ≤ n) : hasA l n = mk l n.toNat := by
  simp only [hasA, mk, show (n.toNat : Int) = n by omega]

end Go.Proofs.Ythdjckbjjfiopaa
