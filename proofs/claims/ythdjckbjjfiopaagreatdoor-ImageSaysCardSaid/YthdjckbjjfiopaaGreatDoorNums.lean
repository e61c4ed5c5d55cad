/- Walks through the reference's comparison of numbers. No condition. -/
import Derived.Test.YthdjckbjjfiopaaGreatDoorPartA
import Derived.Test.YthdjckbjjfiopaaGreatDoorProg
import Derived.KernelRfl
namespace Go.Proofs.YthdjckbjjfiopaaGreatDoor
open Go.Sl Go.Proofs
set_option linter.unusedVariables false
set_option linter.unusedSimpArgs false
def intR (l : List Int) : List (List Value) := l.map fun n => [I n]
theorem intR_len (l : List Int) : (intR l).length = l.length := by simp [intR]
theorem intR_at {l : List Int} {k : Nat} {n : Int} (h : l[k]? = some n) : (intR l)[k]? = some [I n] := by simp [intR, h]
theorem take_nx {α : Type} {a b : List α} {k : Nat} {x y : α} (h : a.take k = b.take k) (ha : a[k]? = some x) (hb : b[k]? = some y) (e : x = y) : a.take (k + 1) = b.take (k + 1) := by
  obtain ⟨h1, h2⟩ := List.getElem?_eq_some_iff.1 ha
  obtain ⟨h3, h4⟩ := List.getElem?_eq_some_iff.1 hb
  rw [List.take_succ_eq_append_getElem h1, List.take_succ_eq_append_getElem h3, h, h2, h4, e]

theorem ct_R_SameNumbers (a b : List Int) (s s' : Option Addr) (cap cap' : Nat) (ha : a.length ≤ 9223372036854775807) (F : List HProp) : Ct Tryz.prog 70 [sl s a.length cap, sl s' b.length cap'] ([roL 1 s (intR a), roL 1 s' (intR b)] ++ F) (R1 (Bo (decide (a = b))) (roL 1 s (intR a) :: roL 1 s' (intR b) :: F)) := by
  show Ct Tryz.prog 70 [sl s a.length cap, sl s' b.length cap'] (roL 1 s (intR a) :: roL 1 s' (intR b) :: F) _
  refine Ct.of Tryz.func70 rfl 26 Tryz.ntmps70 (by simp) fun w0 => ?_
  refine g_seq ?_
  refine g_reg ?_
  refine g_v (v_assign rfl) rfl ?_
  refine g_nil ?_
  refine g_seq ?_
  refine g_seq ?_
  refine g_reg ?_
  refine g_v (v_move rfl) rfl ?_
  refine g_v (v_len Tryz.underlying82 rfl) rfl ?_
  refine g_v (v_move rfl) rfl ?_
  refine g_v (v_len Tryz.underlying82 rfl) rfl ?_
  refine g_v (v_neq rfl rfl) rfl ?_
  refine g_nil ?_
  refine g_cond rfl (fun h10 => ?_) (fun h10 => ?_)
  · simp at h10
    refine g_seq ?_
    refine g_reg ?_
    refine g_v (v_assign rfl) rfl ?_
    refine g_nil ?_
    refine g_ret1 rfl rfl ?_
    show Bo false = _
    rw [decide_eq_false (fun e => h10 (by rw [e]))]
  · simp at h10
    refine g_skip ?_
    refine g_seq ?_
    refine g_seq ?_
    refine g_reg ?_
    refine g_v (v_assign rfl) rfl ?_
    refine g_nil ?_
    refine g_block ?_
    refine g_loop (α := Nat) (fun k => k ≤ a.length ∧ a.take k = b.take k) (fun k => U [(0, sl s a.length cap), (1, sl s' b.length cap'), (5, I k)]) (fun _ => roL 1 s (intR a) :: roL 1 s' (intR b) :: F) (fun k => a.length - k) 0 ⟨by simp, by simp⟩ [0, 1, 5] rfl rfl ?_
    rintro k ⟨hk, hab⟩
    refine g_seq ?_
    refine g_seq ?_
    refine g_reg ?_
    refine g_v (v_move rfl) rfl ?_
    refine g_v (v_move rfl) rfl ?_
    refine g_v (v_len Tryz.underlying82 rfl) rfl ?_
    refine g_v (v_lss rfl rfl) rfl ?_
    refine g_nil ?_
    refine g_cond rfl (fun h14 => ?_) (fun h14 => ?_)
    · simp at h14
      have h11 : k < a.length := by omega
      obtain ⟨x, hx⟩ : ∃ x, a[k]? = some x := ⟨a[k], by simp⟩
      obtain ⟨y, hy⟩ : ∃ y, b[k]? = some y := ⟨b[k]'(by omega), by simp⟩
      refine g_skip ?_
      refine g_seq ?_
      refine g_block ?_
      refine g_seq ?_
      refine g_drawL [(0, false), (1, false), (2, false), (3, false), (4, false), (5, false), (6, false), (7, false), (8, false)] (by kernel_rfl) (by kernel_rfl) rfl (by kernel_rfl) ?_
      refine d_v rfl (v_move rfl) rfl ?_
      refine d_v rfl (v_move rfl) rfl ?_
      refine d_v rfl (v_idxS k Tryz.underlying82 Tryz.sizeOf3 rfl rfl rfl (by omega) (by rw [intR_len]; omega)) rfl ?_
      refine d_v rfl (v_loadS0 Tryz.isAgg3 rfl (intR_at hx) rfl) rfl ?_
      refine d_v rfl (v_move rfl) rfl ?_
      refine d_v rfl (v_move rfl) rfl ?_
      refine d_v rfl (v_idxS k Tryz.underlying82 Tryz.sizeOf3 rfl rfl rfl (by omega) (by rw [intR_len]; omega)) rfl ?_
      refine d_v rfl (v_loadS0 Tryz.isAgg3 rfl (intR_at hy) rfl) rfl ?_
      refine d_v rfl (v_neq rfl rfl) rfl ?_
      refine d_nil ?_
      refine g_cond rfl (fun h25 => ?_) (fun h25 => ?_)
      · simp at h25
        refine g_seq ?_
        refine g_reg ?_
        refine g_v (v_assign rfl) rfl ?_
        refine g_nil ?_
        refine g_ret1 rfl rfl ?_
        show Bo false = _
        rw [decide_eq_false (fun e => h25 (by subst e; rw [hx] at hy; injection hy))]
      · simp at h25
        refine g_skip ?_
        refine g_blk ?_
        refine g_reg ?_
        refine g_v (v_move rfl) rfl ?_
        refine g_v (v_add rfl rfl (w64 (by omega))) rfl ?_
        refine g_v (v_assign rfl) rfl ?_
        refine g_nil ?_
        exact g_again (k + 1) ⟨by omega, take_nx hab hx hy h25⟩ (by omega) [0, 1, 5] rfl rfl
    · simp at h14
      obtain rfl : k = a.length := by omega
      refine g_exit rfl ?_
      refine g_seq ?_
      refine g_reg ?_
      refine g_v (v_assign rfl) rfl ?_
      refine g_nil ?_
      refine g_ret1 rfl rfl ?_
      show Bo true = _
      rw [List.take_length, show a.length = b.length by omega, List.take_length] at hab
      rw [decide_eq_true hab]

end Go.Proofs.YthdjckbjjfiopaaGreatDoor
