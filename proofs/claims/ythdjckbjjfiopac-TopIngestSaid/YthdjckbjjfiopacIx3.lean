/- The walk through package index: Diff. No condition. -/
import Derived.Test.YthdjckbjjfiopacIx2
namespace Go.Proofs.Ythdjckbjjfiopac
open Go.Sl Go.Proofs
set_option linter.unusedVariables false
set_option linter.unusedSimpArgs false
def dT (S : SI) (a b : Int) (t : Nat) : List Int := ((List.range t).filter fun t => !decide (getS S a t = getS S b t)).map fun t : Nat => (t : Int)
theorem dT_len (S : SI) (a b : Int) (t : Nat) : (dT S a b t).length ≤ t := by
  unfold dT
  rw [List.length_map]
  exact Nat.le_trans (List.length_filter_le _ _) (by simp)
theorem dT_hit {S : SI} {a b : Int} {t : Nat} (h : getS S a t ≠ getS S b t) : dT S a b t ++ [(t : Int)] = dT S a b (t + 1) := by
  unfold dT
  rw [List.range_succ, List.filter_append, List.map_append, List.filter_cons_of_pos (by simp [h])]
  rfl
theorem dT_miss {S : SI} {a b : Int} {t : Nat} (h : getS S a t = getS S b t) : dT S a b t = dT S a b (t + 1) := by
  unfold dT
  rw [List.range_succ, List.filter_append, List.map_append, List.filter_cons_of_neg (by simp [h])]
  simp
theorem dT_four {S : SI} {a b : Int} {i : Nat} (h : kat (gN S.N a) i = kat (gN S.N b) i) : dT S a b (i * 4) = dT S a b ((i + 1) * 4) := by
  have key : ∀ k, k < 4 → getS S a (i * 4 + k) = getS S b (i * 4 + k) := fun k hk => by
    have e : (i * 4 + k) / 4 = i := by omega
    unfold getS
    rw [e, h]
  rw [show i * 4 = i * 4 + 0 from rfl, dT_miss (key 0 (by omega)), dT_miss (key 1 (by omega)), dT_miss (key 2 (by omega)), dT_miss (key 3 (by omega))]
  congr 1
  omega

-- (*counterfoil/index.Index).Diff is not in this seat
end Go.Proofs.Ythdjckbjjfiopac
