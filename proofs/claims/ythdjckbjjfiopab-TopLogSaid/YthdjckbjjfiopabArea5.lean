/- Walks through the reference's functions on areas, and what the statements ask of errors. No condition. -/
import Derived.Test.YthdjckbjjfiopabArea4
namespace Go.Proofs.Ythdjckbjjfiopab
open Go.Sl Go.Proofs
set_option linter.unusedVariables false
set_option linter.unusedSimpArgs false
def frR (m : Nat → Bool) (k : Nat) (f : Int) : Int := if ((decide ((k : Int) < 16) && m k) && decide (f < 0)) = true then (k : Int) else f
theorem foldR_eq (m : Nat → Bool) (k : Nat) : foldR m (k + 1) = if (!(decide ((k : Int) < 16) && m k) && decide (0 ≤ frR m k (foldR m k).2)) = true then ((foldR m k).1 ++ [⟨frR m k (foldR m k).2, k - frR m k (foldR m k).2⟩], -1) else ((foldR m k).1, frR m k (foldR m k).2) := rfl
theorem foldR_hit {m : Nat → Bool} {k : Nat} (h : (!(decide ((k : Int) < 16) && m k) && decide (0 ≤ frR m k (foldR m k).2)) = true) : foldR m (k + 1) = ((foldR m k).1 ++ [⟨frR m k (foldR m k).2, k - frR m k (foldR m k).2⟩], -1) := by
  rw [foldR_eq, if_pos h]
theorem foldR_miss {m : Nat → Bool} {k : Nat} (h : (!(decide ((k : Int) < 16) && m k) && decide (0 ≤ frR m k (foldR m k).2)) = false) : foldR m (k + 1) = ((foldR m k).1, frR m k (foldR m k).2) := by
  rw [foldR_eq, if_neg (by rw [h]; decide)]
theorem frR_bd {m : Nat → Bool} {k : Nat} (hk : k ≤ 16) : -1 ≤ frR m k (foldR m k).2 ∧ frR m k (foldR m k).2 ≤ k := by
  obtain ⟨h1, h2, _⟩ := foldR_P m k hk
  unfold frR
  split <;> omega

-- (counterfoil/counterfoilref.Marks).Areas is not in this seat
-- counterfoil/counterfoilref.Union is not in this seat
-- counterfoil/counterfoilref.Cut is not in this seat
-- counterfoil/counterfoilref.Page is not in this seat
-- counterfoil/counterfoillaw.same is not in this seat
-- counterfoil/counterfoillaw.areas is not in this seat
end Go.Proofs.Ythdjckbjjfiopab
