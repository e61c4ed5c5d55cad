/- The walk through the number of an error. No condition. -/
import Derived.Test.YthdjckbjjfiopacArea5
namespace Go.Proofs.Ythdjckbjjfiopac
open Go.Sl Go.Proofs
set_option linter.unusedVariables false
set_option linter.unusedSimpArgs false

theorem ct_T_numb (e : Int) (F : List HProp) : Ct Try.prog 22 [errV e] ([] ++ F) (R1 (I e) F) := by
  show Ct Try.prog 22 [errV e] (F) _
  refine Ct.of Try.func22 rfl 15 Try.ntmps22 (by simp) fun w0 => ?_
  refine g_seq ?_
  refine g_reg ?_
  refine g_v (v_assign rfl) rfl ?_
  refine g_nil ?_
  refine g_seq ?_
  refine g_seq ?_
  refine g_reg ?_
  refine g_v (v_move rfl) rfl ?_
  refine g_v (v_ieql Try.underlying33 rfl) rfl ?_
  refine g_nil ?_
  refine g_cond rfl (fun h6 => ?_) (fun h6 => ?_)
  · simp at h6
    subst h6
    refine g_seq ?_
    refine g_reg ?_
    refine g_v (v_assign rfl) rfl ?_
    refine g_nil ?_
    refine g_ret1 rfl rfl ?_
    exact rfl
  · simp at h6
    refine g_skip ?_
    refine g_seq ?_
    refine g_reg ?_
    refine g_v (v_move rfl) rfl ?_
    refine g_v (v_assertE Try.underlying94 rfl h6) rfl ?_
    refine g_v (v_move rfl) rfl ?_
    refine g_v (v_extract rfl rfl) rfl ?_
    refine g_v (v_extract rfl rfl) rfl ?_
    refine g_v (v_assign rfl) rfl ?_
    refine g_v (v_assign rfl) rfl ?_
    refine g_nil ?_
    refine g_seq ?_
    refine g_seq ?_
    refine g_reg ?_
    refine g_v (v_move rfl) rfl ?_
    refine g_v (v_not rfl) rfl ?_
    refine g_nil ?_
    refine g_cond rfl (fun h13 => ?_) (fun h13 => ?_)
    · simp at h13
    · skip
      refine g_skip ?_
      refine g_seq ?_
      refine g_reg ?_
      refine g_v (v_move rfl) rfl ?_
      refine g_v (v_assign rfl) rfl ?_
      refine g_nil ?_
      refine g_ret1 rfl rfl ?_
      exact rfl

end Go.Proofs.Ythdjckbjjfiopac
