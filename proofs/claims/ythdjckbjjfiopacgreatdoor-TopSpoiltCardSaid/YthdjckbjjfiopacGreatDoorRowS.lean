/- The walk through what compares lists of changes. No condition. -/
import Derived.Test.YthdjckbjjfiopacGreatDoorRow
import Derived.Test.YthdjckbjjfiopacGreatDoorSlC
namespace Go.Proofs.YthdjckbjjfiopacGreatDoor
open Go Go.Sl Go.Proofs
set_option linter.unusedVariables false
set_option linter.unusedSimpArgs false
theorem eq_Change (a b : ChangeM) (w : World) : (Op.equal 58 (.agg (encC a).toArray) (.agg (encC b).toArray)).run Tryz.prog w = .ok (decide (a = b)) w := by
  have h1 := run_eqS (P := Tryz.prog) (w := w) (a := a.key) (b := b.key) 9998 Tryz.underlying9
  have h2 := run_eqS (P := Tryz.prog) (w := w) (a := a.val) (b := b.val) 9998 Tryz.underlying9
  have h3 := run_eqB (P := Tryz.prog) (w := w) (a := a.gone) (b := b.gone) 9998 Tryz.underlying4
  show (Op.equalIn (9999 + 1) _ _ _).run _ _ = _
  unfold Op.equalIn
  simp [encC, underlying, program, Sem.run, Tryz.underlying58, Tryz.stoodInHeld58, part, Tryz.isAgg9, Tryz.isAgg4, h1, h2, h3]
  cases a; cases b
  rename_i a1 a2 a3 b1 b2 b3
  by_cases e1 : a1 = b1 <;> by_cases e2 : a2 = b2 <;> by_cases e3 : a3 = b3 <;> simp [e1, e2, e3]

theorem ct_R_SameChanges (a b : List ChangeM) (s s' : Option Addr) (cap cap' : Nat) (ha : a.length ≤ 1000000) (hb : b.length ≤ 1000000) (F : List HProp) : Ct Tryz.prog 14 [sl s a.length cap, sl s' b.length cap'] ([roL 3 s (chR a), roL 3 s' (chR b)] ++ F) (R1 (Bo (decide (a = b))) (roL 3 s (chR a) :: roL 3 s' (chR b) :: F)) := by
  show Ct Tryz.prog 14 [sl s a.length cap, sl s' b.length cap'] (roL 3 s (chR a) :: roL 3 s' (chR b) :: F) _
  refine Ct.of Tryz.func14 rfl 26 Tryz.ntmps14 (by simp) fun w0 => ?_
  refine g_seq ?_
  refine g_reg ?_
  refine g_v (v_assign rfl) rfl ?_
  refine g_nil ?_
  refine g_seq ?_
  refine g_seq ?_
  refine g_reg ?_
  refine g_v (v_move rfl) rfl ?_
  refine g_v (v_len Tryz.underlying33 rfl) rfl ?_
  refine g_v (v_move rfl) rfl ?_
  refine g_v (v_len Tryz.underlying33 rfl) rfl ?_
  refine g_v (v_neq rfl rfl) rfl ?_
  refine g_nil ?_
  refine g_cond rfl (fun h10 => ?_) (fun h10 => ?_)
  · simp at h10
    refine g_seq ?_
    refine g_reg ?_
    refine g_v (v_assign rfl) rfl ?_
    refine g_nil ?_
    refine g_ret1 rfl rfl ?_
    show Bo false = _
    rw [decide_eq_false (fun e => h10 (by rw [e]))]
  · simp at h10
    refine g_skip ?_
    refine g_seq ?_
    refine g_seq ?_
    refine g_reg ?_
    refine g_v (v_assign rfl) rfl ?_
    refine g_nil ?_
    refine g_block ?_
    refine g_loop (α := Nat) (fun k => k ≤ a.length ∧ a.take k = b.take k) (fun k => U [(0, sl s a.length cap), (1, sl s' b.length cap'), (5, I k)]) (fun _ => roL 3 s (chR a) :: roL 3 s' (chR b) :: F) (fun k => a.length - k) 0 ⟨by simp, by simp⟩ [0, 1, 5] rfl rfl ?_
    rintro k ⟨hk, hab⟩
    refine g_seq ?_
    refine g_seq ?_
    refine g_reg ?_
    refine g_v (v_move rfl) rfl ?_
    refine g_v (v_move rfl) rfl ?_
    refine g_v (v_len Tryz.underlying33 rfl) rfl ?_
    refine g_v (v_lss rfl rfl) rfl ?_
    refine g_nil ?_
    refine g_cond rfl (fun h14 => ?_) (fun h14 => ?_)
    · simp at h14
      have h11 : k < a.length := by omega
      obtain ⟨x, hx⟩ : ∃ x, a[k]? = some x := ⟨a[k], by simp⟩
      obtain ⟨y, hy⟩ : ∃ y, b[k]? = some y := ⟨b[k]'(by omega), by simp⟩
      refine g_skip ?_
      refine g_seq ?_
      refine g_block ?_
      refine g_seq ?_
      refine g_drawL [(0, false), (1, false), (2, false), (3, false), (4, false), (5, false), (6, false), (7, false), (8, false)] (by kernel_rfl) (by kernel_rfl) rfl (by kernel_rfl) ?_
      refine d_v rfl (v_move rfl) rfl ?_
      refine d_v rfl (v_move rfl) rfl ?_
      refine d_v rfl (v_idxS k Tryz.underlying33 Tryz.sizeOf58 rfl rfl rfl h11 (by rw [chR_len]; exact h11)) rfl ?_
      refine d_v rfl (v_loadAS (row := encC x) Tryz.isAgg58 Tryz.sizeOf58 rfl (chR_at hx) rfl) rfl ?_
      refine d_v rfl (v_move rfl) rfl ?_
      refine d_v rfl (v_move rfl) rfl ?_
      refine d_v rfl (v_idxS k Tryz.underlying33 Tryz.sizeOf58 rfl rfl rfl (by omega) (by rw [chR_len]; omega)) rfl ?_
      refine d_v rfl (v_loadAS (row := encC y) Tryz.isAgg58 Tryz.sizeOf58 rfl (chR_at hy) rfl) rfl ?_
      refine d_v rfl (v_aneq Tryz.eqGuardType58 rfl rfl (eq_Change x y)) rfl ?_
      refine d_nil ?_
      refine g_cond rfl (fun h25 => ?_) (fun h25 => ?_)
      · simp at h25
        refine g_seq ?_
        refine g_reg ?_
        refine g_v (v_assign rfl) rfl ?_
        refine g_nil ?_
        refine g_ret1 rfl rfl ?_
        show Bo false = _
        rw [decide_eq_false (fun e => h25 (by subst e; rw [hx] at hy; injection hy))]
      · simp at h25
        refine g_skip ?_
        refine g_blk ?_
        refine g_reg ?_
        refine g_v (v_move rfl) rfl ?_
        refine g_v (v_add rfl rfl (w64 (by omega))) rfl ?_
        refine g_v (v_assign rfl) rfl ?_
        refine g_nil ?_
        exact g_again (k + 1) ⟨by omega, take_eq_of hab hx hy h25⟩ (by omega) [0, 1, 5] rfl rfl
    · simp at h14
      obtain rfl : k = a.length := by omega
      refine g_exit rfl ?_
      refine g_seq ?_
      refine g_reg ?_
      refine g_v (v_assign rfl) rfl ?_
      refine g_nil ?_
      refine g_ret1 rfl rfl ?_
      show Bo true = _
      rw [List.take_length, show a.length = b.length by omega, List.take_length] at hab
      rw [decide_eq_true hab]

end Go.Proofs.YthdjckbjjfiopacGreatDoor
