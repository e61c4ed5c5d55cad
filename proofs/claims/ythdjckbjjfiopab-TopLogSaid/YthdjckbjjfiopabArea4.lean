/- Walks through the reference's functions on areas. No condition. -/
import Derived.Test.YthdjckbjjfiopabArea3
namespace Go.Proofs.Ythdjckbjjfiopab
open Go.Sl Go.Proofs
set_option linter.unusedVariables false
set_option linter.unusedSimpArgs false
/-- marks while place k is being looked at: the first i areas of l have been -/
def inM (l : List Area) (k i : Nat) (p : Nat) : Bool := if p < k then mk l p else if p = k then mk (l.take i) k else false
theorem inM_zero (l : List Area) : inM l 0 0 = fun _ => false := by funext p; simp [inM, mk]
theorem inM_next {l : List Area} {k : Nat} : inM l k l.length = inM l (k + 1) 0 := by
  funext p
  simp only [inM, List.take_length, List.take_zero]
  by_cases h1 : p < k
  · rw [if_pos h1, if_pos (by omega)]
  · by_cases h2 : p = k
    · subst h2; simp
    · rw [if_neg h1, if_neg h2, if_neg (by omega)]; simp [mk]
theorem inM_hit {l : List Area} {k i : Nat} {a : Area} (h : l[i]? = some a) (hit : a.fr ≤ k ∧ (k : Int) < a.fr + a.many) : (fun p => if p = k then true else inM l k i p) = inM l k (i + 1) := by
  funext p
  simp only [inM, take_at h]
  by_cases h2 : p = k
  · subst h2; simp [mk, hit]
  · simp [h2]
theorem inM_miss {l : List Area} {k i : Nat} {a : Area} (h : l[i]? = some a) (hit : ¬ (a.fr ≤ k ∧ (k : Int) < a.fr + a.many)) : inM l k i = inM l k (i + 1) := by
  funext p
  simp only [inM, take_at h]
  by_cases h2 : p = k
  · subst h2
    have : decide (a.fr ≤ (p : Int) ∧ (p : Int) < a.fr + a.many) = false := decide_eq_false hit
    simp [mk, this]
    intro h1 h3
    exact absurd ⟨h1, h3⟩ hit
  · simp [h2]
theorem inM_all (l : List Area) : bA (inM l 16 0) = bA (mk l) := bA_ext fun j hj => by simp [inM, hj]
theorem take_eq_of {α : Type} {a b : List α} {k : Nat} {x y : α} (h : a.take k = b.take k) (ha : a[k]? = some x) (hb : b[k]? = some y) (e : x = y) : a.take (k + 1) = b.take (k + 1) := by
  rw [take_at ha, take_at hb, h, e]

-- counterfoil/counterfoilref.AreasFault is not in this seat
theorem ct_R_SameAreas (a b : List Area) (s s' : Option Addr) (cap cap' : Nat) (ha : a.length ≤ 1000000) (hb : b.length ≤ 1000000) (F : List HProp) : Ct Try.prog 16 [sl s a.length cap, sl s' b.length cap'] ([roL 2 s (rowsA a), roL 2 s' (rowsA b)] ++ F) (R1 (Bo (decide (a = b))) (roL 2 s (rowsA a) :: roL 2 s' (rowsA b) :: F)) := by
  show Ct Try.prog 16 [sl s a.length cap, sl s' b.length cap'] (roL 2 s (rowsA a) :: roL 2 s' (rowsA b) :: F) _
  refine Ct.of Try.func16 rfl 26 Try.ntmps16 (by simp) fun w0 => ?_
  refine g_seq ?_
  refine g_reg ?_
  refine g_v (v_assign rfl) rfl ?_
  refine g_nil ?_
  refine g_seq ?_
  refine g_seq ?_
  refine g_reg ?_
  refine g_v (v_move rfl) rfl ?_
  refine g_v (v_len Try.underlying22 rfl) rfl ?_
  refine g_v (v_move rfl) rfl ?_
  refine g_v (v_len Try.underlying22 rfl) rfl ?_
  refine g_v (v_neq rfl rfl) rfl ?_
  refine g_nil ?_
  refine g_cond rfl (fun h10 => ?_) (fun h10 => ?_)
  · simp at h10
    refine g_seq ?_
    refine g_reg ?_
    refine g_v (v_assign rfl) rfl ?_
    refine g_nil ?_
    refine g_ret1 rfl rfl ?_
    show Bo false = _
    rw [decide_eq_false (fun e => h10 (by rw [e]))]
  · simp at h10
    refine g_skip ?_
    refine g_seq ?_
    refine g_seq ?_
    refine g_reg ?_
    refine g_v (v_assign rfl) rfl ?_
    refine g_nil ?_
    refine g_block ?_
    refine g_loop (α := Nat) (fun k => k ≤ a.length ∧ a.take k = b.take k) (fun k => U [(0, sl s a.length cap), (1, sl s' b.length cap'), (5, I k)]) (fun _ => roL 2 s (rowsA a) :: roL 2 s' (rowsA b) :: F) (fun k => a.length - k) 0 ⟨by simp, by simp⟩ [0, 1, 5] rfl rfl ?_
    rintro k ⟨hk, hab⟩
    refine g_seq ?_
    refine g_seq ?_
    refine g_reg ?_
    refine g_v (v_move rfl) rfl ?_
    refine g_v (v_move rfl) rfl ?_
    refine g_v (v_len Try.underlying22 rfl) rfl ?_
    refine g_v (v_lss rfl rfl) rfl ?_
    refine g_nil ?_
    refine g_cond rfl (fun h14 => ?_) (fun h14 => ?_)
    · simp at h14
      have h11 : k < a.length := by omega
      obtain ⟨x, hx⟩ : ∃ x, a[k]? = some x := ⟨a[k], by simp⟩
      obtain ⟨y, hy⟩ : ∃ y, b[k]? = some y := ⟨b[k]'(by omega), by simp⟩
      have hrx := rowsA_at hx
      have hry := rowsA_at hy
      refine g_skip ?_
      refine g_seq ?_
      refine g_block ?_
      refine g_seq ?_
      refine g_drawL [(0, false), (1, false), (2, false), (3, false), (4, false), (5, false), (6, false), (7, false), (8, false)] (by kernel_rfl) (by kernel_rfl) rfl (by kernel_rfl) ?_
      refine d_v rfl (v_move rfl) rfl ?_
      refine d_v rfl (v_move rfl) rfl ?_
      refine d_v rfl (v_idxS k Try.underlying22 Try.sizeOf26 rfl rfl rfl h11 (by rw [rowsA_len]; exact h11)) rfl ?_
      refine d_v rfl (v_loadAS (row := encA x) Try.isAgg26 Try.sizeOf26 rfl hrx rfl) rfl ?_
      refine d_v rfl (v_move rfl) rfl ?_
      refine d_v rfl (v_move rfl) rfl ?_
      refine d_v rfl (v_idxS k Try.underlying22 Try.sizeOf26 rfl rfl rfl (by omega) (by rw [rowsA_len]; omega)) rfl ?_
      refine d_v rfl (v_loadAS (row := encA y) Try.isAgg26 Try.sizeOf26 rfl hry rfl) rfl ?_
      refine d_v rfl (v_aneq Try.eqGuardType26 rfl rfl (eq_Area x y)) rfl ?_
      refine d_nil ?_
      refine g_cond rfl (fun h25 => ?_) (fun h25 => ?_)
      · simp at h25
        refine g_seq ?_
        refine g_reg ?_
        refine g_v (v_assign rfl) rfl ?_
        refine g_nil ?_
        refine g_ret1 rfl rfl ?_
        show Bo false = _
        rw [decide_eq_false (fun e => h25 (by subst e; rw [hx] at hy; injection hy))]
      · simp at h25
        refine g_skip ?_
        refine g_blk ?_
        refine g_reg ?_
        refine g_v (v_move rfl) rfl ?_
        refine g_v (v_add rfl rfl (w64 (by omega))) rfl ?_
        refine g_v (v_assign rfl) rfl ?_
        refine g_nil ?_
        exact g_again (k + 1) ⟨by omega, take_eq_of hab hx hy h25⟩ (by omega) [0, 1, 5] rfl rfl
    · simp at h14
      obtain rfl : k = a.length := by omega
      refine g_exit rfl ?_
      refine g_seq ?_
      refine g_reg ?_
      refine g_v (v_assign rfl) rfl ?_
      refine g_nil ?_
      refine g_ret1 rfl rfl ?_
      show Bo true = _
      rw [List.take_length, show a.length = b.length by omega, List.take_length] at hab
      rw [decide_eq_true hab]

-- counterfoil/counterfoilref.MarksOf is not in this seat
end Go.Proofs.Ythdjckbjjfiopab
