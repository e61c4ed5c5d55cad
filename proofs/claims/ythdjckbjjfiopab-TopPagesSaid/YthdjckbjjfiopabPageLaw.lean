/- Plain laws of pages of marks. No condition. -/
import Derived.Test.YthdjckbjjfiopabAreaLaw
import Derived.Test.YthdjckbjjfiopabSl11
import Derived.Test.YthdjckbjjfiopabSl11
namespace Go.Proofs.Ythdjckbjjfiopab
open Go.Sl Go.Proofs
set_option linter.unusedVariables false
set_option linter.unusedSimpArgs false
theorem cM_congr {m n : Nat → Bool} : ∀ {k : Nat}, (∀ p, p < k → m p = n p) → cM m k = cM n k
  | 0, _ => rfl
  | k + 1, h => by simp only [cM, cM_congr (k := k) (fun p hp => h p (by omega)), h k (by omega)]
theorem cM_pos {m : Nat → Bool} {p : Nat} (hp : m p = true) : ∀ {k : Nat}, p < k → 1 ≤ cM m k
  | k + 1, h => by
    simp only [cM]
    by_cases e : p = k
    · subst e; simp [hp]
    · have := cM_pos hp (k := k) (by omega); omega
theorem cM_none {m : Nat → Bool} : ∀ {k : Nat}, (∀ p, p < k → m p = false) → cM m k = 0
  | 0, _ => rfl
  | k + 1, h => by simp [cM, cM_none (k := k) (fun p hp => h p (by omega)), h k (by omega)]
/-- marks from f on, below t -/
def wnM (m : Nat → Bool) (f t : Int) (p : Nat) : Bool := m p && (decide (f ≤ p) && decide ((p : Int) < t))
theorem wn_full {m : Nat → Bool} {f : Int} {k : Nat} (j : Nat) : cM (wnM m f k) (k + j) = cM (wnM m f k) k := by
  induction j with
  | zero => rfl
  | succ j ih => rw [← Nat.add_assoc, cM, ih]; simp [wnM]; intros; omega
theorem wn_step {m : Nat → Bool} {f : Int} {k : Nat} (h : k < 16) : cM (wnM m f (k + 1 : Nat)) 16 = cM (wnM m f k) 16 + if m k = true ∧ f ≤ k then 1 else 0 := by
  have e1 : cM (wnM m f (k + 1 : Nat)) 16 = cM (wnM m f (k + 1 : Nat)) (k + 1) := by
    have := wn_full (m := m) (f := f) (k := k + 1) (15 - k); rwa [show k + 1 + (15 - k) = 16 by omega] at this
  have e2 : cM (wnM m f k) 16 = cM (wnM m f k) k := by
    have := wn_full (m := m) (f := f) (k := k) (16 - k); rwa [show k + (16 - k) = 16 by omega] at this
  rw [e1, e2, cM, cM_congr (m := wnM m f (k + 1 : Nat)) (n := wnM m f k)]
  · congr 1
    simp only [wnM]
    by_cases h1 : m k = true <;> by_cases h2 : f ≤ (k : Int) <;> simp [h1, h2] <;> omega
  · intro p hp
    simp only [wnM]
    rw [decide_eq_true (show (p : Int) < ((k + 1 : Nat) : Int) by omega), decide_eq_true (show (p : Int) < (k : Int) by omega)]
/-- what a page is -/
def isPage (m : Nat → Bool) (f many : Int) (r : (Nat → Bool) × Int) : Prop :=
  (r.2 = -1 ∧ (∀ p, p < 16 → r.1 p = wnM m f 16 p) ∧ cM r.1 16 ≤ many) ∨ (f < r.2 ∧ r.2 < 16 ∧ (∀ p, p < 16 → r.1 p = wnM m f r.2 p) ∧ cM r.1 16 = many)
theorem pg_is (m : Nat → Bool) (f many : Int) (hf : 0 ≤ f) (h1 : 1 ≤ many) : ∀ (r k : Nat) (out : Nat → Bool) (n : Nat), r + k = 16 → (∀ p, p < 16 → out p = wnM m f k p) → n = cM out 16 → (n : Int) ≤ many → isPage m f many (pg m f many r k out n)
  | 0, k, out, n, hr, ho, hn, hm => by
    obtain rfl : k = 16 := by omega
    exact .inl ⟨rfl, ho, by show (cM out 16 : Int) ≤ many; omega⟩
  | r + 1, k, out, n, hr, ho, hn, hm => by
    have hk : k < 16 := by omega
    unfold pg
    have hcs : cM out 16 = cM (wnM m f k) 16 := cM_congr ho
    by_cases hc : (!m k || decide ((k : Int) < f)) = true
    · rw [if_pos hc]
      refine pg_is m f many hf h1 r (k + 1) out n (by omega) (fun p hp => ?_) hn hm
      rw [ho p hp]
      simp only [wnM]
      by_cases hpk : p = k
      · subst hpk
        simp at hc
        rcases hc with hc | hc
        · simp [hc]
        · simp; intro _ h; omega
      · rw [decide_eq_decide.2 (show (p : Int) < k ↔ (p : Int) < ((k + 1 : Nat) : Int) by omega)]
    · rw [if_neg hc]
      simp at hc
      by_cases hnm : (n : Int) = many
      · rw [if_pos hnm]
        refine .inr ⟨?_, by simp only; omega, ho, by show (cM out 16 : Int) = many; omega⟩
        by_cases hfk : f < k
        · exact hfk
        · exfalso
          have : cM out 16 = 0 := cM_none fun p hp => by
            rw [ho p hp]
            simp [wnM]
            intro _ h
            omega
          omega
      · rw [if_neg hnm]
        have key : ∀ p, p < 16 → (if p = k then true else out p) = wnM m f (k + 1 : Nat) p := fun p hp => by
          by_cases hpk : p = k
          · subst hpk
            rw [if_pos rfl]
            simp [wnM, hc]
            omega
          · rw [if_neg hpk, ho p hp]
            simp only [wnM]
            rw [decide_eq_decide.2 (show (p : Int) < k ↔ (p : Int) < ((k + 1 : Nat) : Int) by omega)]
        refine pg_is m f many hf h1 r (k + 1) (fun i => if i = k then true else out i) (n + 1) (by omega) key ?_ (by omega)
        rw [cM_congr key, wn_step hk, if_pos (by simp [hc]), hn, hcs]
theorem page_is (m : Nat → Bool) {f many : Int} (hf : 0 ≤ f) (h1 : 1 ≤ many) : isPage m f many (pageM m f many) :=
  pg_is m f many hf h1 16 0 (fun _ => false) 0 rfl (fun p hp => by simp [wnM]) (by rw [cM_none (by simp)]) (by omega)
theorem cnt_ofM (m : Nat → Bool) : cntA (ofM m) = cM m 16 := by
  rw [cnt_ok (chk_ofM m), cM_congr (n := m) fun p hp => mk_ofM m hp]
def fe (f : Int) : Int := if f < 0 then 16 else f
def beM (m : Nat → Bool) (f : Int) (p : Nat) : Bool := m p && decide ((p : Int) < fe f)
theorem be_next (m : Nat → Bool) {f : Int} (hf : 0 ≤ f) {r : (Nat → Bool) × Int} {many : Int} (hr : isPage m f many r) (h16 : f ≤ 16) :
    (∀ p, p < 16 → orM (mk (ofM (beM m f))) (mk (ofM r.1)) p = beM m r.2 p) ∧ cM (beM m f) 16 + cM r.1 16 = cM (beM m r.2) 16 := by
  have hw : ∃ t : Int, fe r.2 = t ∧ f ≤ t ∧ (∀ p, p < 16 → r.1 p = wnM m f t p) := by
    rcases hr with ⟨h1, h2, h3⟩ | ⟨h1, h2, h3, h4⟩
    · exact ⟨16, by simp [fe, h1], by omega, h2⟩
    · exact ⟨r.2, by unfold fe; rw [if_neg (by omega)], by omega, h3⟩
  obtain ⟨t, ht, hft, ho⟩ := hw
  have hfe : fe f = f := by unfold fe; rw [if_neg (by omega)]
  have key : ∀ p : Nat, beM m r.2 p = (beM m f p || wnM m f t p) := fun p => by
    simp only [beM, wnM, hfe, ht]
    by_cases h1 : m p = true
    · simp only [h1, Bool.true_and]
      rw [Bool.eq_iff_iff]; simp; omega
    · simp [h1]
  refine ⟨fun p hp => ?_, ?_⟩
  · simp only [orM, mk_ofM _ hp, ho p hp, key]
  · rw [cM_congr (m := r.1) ho, ← cM_or (m := beM m f) (n := wnM m f t)]
    · exact cM_congr fun p _ => (key p).symm
    · intro p h1 h2
      simp [beM, wnM, hfe] at h1 h2
      omega
theorem ofM_be_all {l : List Area} (h : chkA (-1) l = 0) {f : Int} (hf : f < 0) : ofM (beM (mk l) f) = l ∧ (cM (beM (mk l) f) 16 : Int) = cntA l := by
  have key : ∀ p, p < 16 → beM (mk l) f p = mk l p := fun p hp => by
    simp [beM, fe, hf]
    intro _; omega
  exact ⟨ofM_mk h key, by rw [cM_congr key, cnt_ok h]⟩

end Go.Proofs.Ythdjckbjjfiopab
