/- The walk through the law Names. No condition. -/
import Derived.Test.YthdjckbjjfiopaaDoorNums
namespace Go.Proofs.YthdjckbjjfiopaaDoor
open Go.Sl Go.Proofs
set_option linter.unusedVariables false
set_option linter.unusedSimpArgs false
abbrev tErr : Nat := 23
abbrev errV (f : Int) : Value := errT tErr f
def lw : List Int := [16, 6, 5, 40, 24, 6, 3, 3, 999, 4, 8, 48, 72, 80, 80, 260, 80, 60]
def errR : List (List Value) := (List.range 9).map fun (i : Nat) => [errV ((i : Int) + 1)]
theorem errR_at {k : Nat} (h : k < 9) : errR[k]? = some [errV ((k : Int) + 1)] := by simp [errR, h]

theorem ct_L_same (e f : Int) (he : 0 ≤ e) (F : List HProp) : Ct Tryd.prog 4 [errV e, I f] ([] ++ F) (R1 (Bo (decide (e = f))) F) := by
  show Ct Tryd.prog 4 [errV e, I f] (F) _
  refine Ct.of Tryd.func4 rfl 26 Tryd.ntmps4 (by simp) fun w0 => ?_
  refine g_seq ?_
  refine g_reg ?_
  refine g_v (v_assign rfl) rfl ?_
  refine g_nil ?_
  refine g_seq ?_
  refine g_seq ?_
  refine g_reg ?_
  refine g_v (v_move rfl) rfl ?_
  refine g_v (v_ieql Tryd.underlying27 rfl) rfl ?_
  refine g_nil ?_
  refine g_cond rfl (fun h8 => ?_) (fun h8 => ?_)
  · simp at h8
    subst h8
    refine g_seq ?_
    refine g_reg ?_
    refine g_v (v_move rfl) rfl ?_
    refine g_v (v_eql rfl rfl) rfl ?_
    refine g_v (v_assign rfl) rfl ?_
    refine g_nil ?_
    refine g_ret1 rfl rfl ?_
    show Bo (decide (f = 0)) = _
    rw [decide_eq_decide.2 (show f = 0 ↔ 0 = f by omega)]
  · simp at h8
    refine g_skip ?_
    refine g_seq ?_
    refine g_reg ?_
    refine g_v (v_move rfl) rfl ?_
    refine g_v (v_assertE Tryd.underlying23 rfl h8) rfl ?_
    refine g_v (v_move rfl) rfl ?_
    refine g_v (v_extract rfl rfl) rfl ?_
    refine g_v (v_extract rfl rfl) rfl ?_
    refine g_v (v_assign rfl) rfl ?_
    refine g_v (v_assign rfl) rfl ?_
    refine g_nil ?_
    refine g_seq ?_
    refine g_reg ?_
    refine g_v (v_move rfl) rfl ?_
    refine g_v (v_move rfl) rfl ?_
    refine g_gv rfl rfl (fun hg => v_move rfl) rfl rfl ?_
    refine g_gv rfl rfl (fun hg => v_gtr rfl rfl) rfl rfl ?_
    refine g_v (v_and rfl rfl) rfl ?_
    refine g_v (v_move rfl) rfl ?_
    refine g_gv rfl rfl (fun hg => v_move rfl) rfl rfl ?_
    refine g_gv rfl rfl (fun hg => v_move rfl) rfl rfl ?_
    refine g_gv rfl rfl (fun hg => v_eql rfl rfl) rfl rfl ?_
    refine g_v (v_and rfl rfl) rfl ?_
    refine g_v (v_assign rfl) rfl ?_
    refine g_nil ?_
    refine g_ret1 rfl rfl ?_
    show Bo ((true && decide (0 < f)) && decide (e = f)) = _
    by_cases h : e = f
    · subst h; simp; omega
    · simp [h]

theorem ct_internal_strconv_small  (F : List HProp) : Ct Tryd.prog 10 [I 9] ([] ++ F) (R1 (Str [57]) F) := by
  show Ct Tryd.prog 10 [I 9] (F) _
  refine Ct.of Tryd.func10 rfl 15 Tryd.ntmps10 (by simp) fun w0 => ?_
  refine g_seq ?_
  refine g_reg ?_
  refine g_v (v_assign rfl) rfl ?_
  refine g_nil ?_
  refine g_seq ?_
  refine g_seq ?_
  refine g_reg ?_
  refine g_v (v_move rfl) rfl ?_
  refine g_v (v_lss rfl rfl) rfl ?_
  refine g_nil ?_
  refine g_true rfl ?_
  refine g_seq ?_
  refine g_reg ?_
  refine g_v (v_move rfl) rfl ?_
  refine g_v (v_move rfl) rfl ?_
  refine g_v (v_add rfl rfl (w64 (by omega))) rfl ?_
  refine g_v (v_strBoth (l := 9) (h := 10) Tryd.underlying9 rfl rfl rfl rfl rfl (by decide) (by decide)) rfl ?_
  refine g_v (v_assign rfl) rfl ?_
  refine g_nil ?_
  refine g_ret1 rfl rfl ?_
  exact rfl

theorem ct_internal_strconv_FormatInt  (F : List HProp) : Ct Tryd.prog 9 [I 9, I 10] ([] ++ F) (R1 (Str [57]) F) := by
  show Ct Tryd.prog 9 [I 9, I 10] (F) _
  refine Ct.of Tryd.func9 rfl 54 Tryd.ntmps9 (by simp) fun w0 => ?_
  refine g_seq ?_
  refine g_reg ?_
  refine g_v (v_assign rfl) rfl ?_
  refine g_nil ?_
  refine g_seq ?_
  refine g_seq ?_
  refine g_reg ?_
  refine g_v (v_move rfl) rfl ?_
  refine g_v (v_eql rfl rfl) rfl ?_
  refine g_nil ?_
  refine g_true rfl ?_
  refine g_seq ?_
  refine g_seq ?_
  refine g_reg ?_
  refine g_v (v_move rfl) rfl ?_
  refine g_v (v_leq rfl rfl) rfl ?_
  refine g_v (v_move rfl) rfl ?_
  refine g_gv1 rfl rfl rfl (v_move rfl) rfl ?_
  refine g_gv1 rfl rfl rfl (v_lss rfl rfl) rfl ?_
  refine g_v (v_and rfl rfl) rfl ?_
  refine g_nil ?_
  refine g_true rfl ?_
  refine g_seq ?_
  refine g_reg ?_
  refine g_v (v_move rfl) rfl ?_
  refine g_l (l_call (Pre := []) Tryd.call10 rfl (ct_internal_strconv_small)) rfl ?_
  rintro _ _ ⟨rfl, rfl⟩
  refine g_v (v_assign rfl) rfl ?_
  refine g_nil ?_
  refine g_ret1 rfl rfl ?_
  exact rfl

theorem ct_internal_strconv_Itoa  (F : List HProp) : Ct Tryd.prog 8 [I 9] ([] ++ F) (R1 (Str [57]) F) := by
  show Ct Tryd.prog 8 [I 9] (F) _
  refine Ct.of Tryd.func8 rfl 5 Tryd.ntmps8 (by simp) fun w0 => ?_
  refine g_seq ?_
  refine g_reg ?_
  refine g_v (v_assign rfl) rfl ?_
  refine g_nil ?_
  refine g_seq ?_
  refine g_reg ?_
  refine g_v (v_move rfl) rfl ?_
  refine g_l (l_call (Pre := []) Tryd.call9 rfl (ct_internal_strconv_FormatInt)) rfl ?_
  rintro _ _ ⟨rfl, rfl⟩
  refine g_v (v_assign rfl) rfl ?_
  refine g_nil ?_
  refine g_ret1 rfl rfl ?_
  exact rfl

theorem ct_strconv_Itoa  (F : List HProp) : Ct Tryd.prog 7 [I 9] ([] ++ F) (R1 (Str [57]) F) := by
  show Ct Tryd.prog 7 [I 9] (F) _
  refine Ct.of Tryd.func7 rfl 5 Tryd.ntmps7 (by simp) fun w0 => ?_
  refine g_seq ?_
  refine g_reg ?_
  refine g_v (v_assign rfl) rfl ?_
  refine g_nil ?_
  refine g_seq ?_
  refine g_reg ?_
  refine g_v (v_move rfl) rfl ?_
  refine g_l (l_call (Pre := []) Tryd.call8 rfl (ct_internal_strconv_Itoa)) rfl ?_
  rintro _ _ ⟨rfl, rfl⟩
  refine g_v (v_assign rfl) rfl ?_
  refine g_nil ?_
  refine g_ret1 rfl rfl ?_
  exact rfl

theorem ct_Errno_Error  (F : List HProp) : Ct Tryd.prog 6 [I 9] ([] ++ F) (R1 (Str [99, 111, 117, 110, 116, 101, 114, 102, 111, 105, 108, 58, 32, 101, 114, 114, 111, 114, 32, 57]) F) := by
  show Ct Tryd.prog 6 [I 9] (F) _
  refine Ct.of Tryd.func6 rfl 6 Tryd.ntmps6 (by simp) fun w0 => ?_
  refine g_seq ?_
  refine g_reg ?_
  refine g_v (v_assign rfl) rfl ?_
  refine g_nil ?_
  refine g_seq ?_
  refine g_reg ?_
  refine g_v (v_move rfl) rfl ?_
  refine g_l (l_call (Pre := []) Tryd.call7 rfl (ct_strconv_Itoa)) rfl ?_
  rintro _ _ ⟨rfl, rfl⟩
  refine g_v (v_cat rfl rfl (by simp)) rfl ?_
  refine g_v (v_assign rfl) rfl ?_
  refine g_nil ?_
  refine g_ret1 rfl rfl ?_
  exact rfl

theorem ct_L_Names  (F : List HProp) : Ct Tryd.prog 3 [] ([] ++ F) (R1 (Bo true) F) := by
  show Ct Tryd.prog 3 [] (F) _
  refine Ct.of Tryd.func3 rfl 38 Tryd.ntmps3 (by simp) fun w0 => ?_
  refine g_seq ?_
  refine g_reg ?_
  refine g_v (v_assign rfl) rfl ?_
  refine g_nil ?_
  refine g_seq ?_
  refine g_reg ?_
  refine g_l (l_buildSlice (intR lw) Tryd.underlying22 Tryd.sizeOf3 Tryd.zeroValue3 rfl rfl rfl (by simp [intR]) (by decide) (by decide)) rfl ?_
  rintro _ _ ⟨b5, rfl, rfl⟩
  refine g_v (v_assign rfl) rfl ?_
  refine g_nil ?_
  refine g_seq ?_
  refine g_reg ?_
  refine g_l (l_buildSlice (intR lw) Tryd.underlying22 Tryd.sizeOf3 Tryd.zeroValue3 rfl rfl rfl (by simp [intR]) (by decide) (by decide)) rfl ?_
  rintro _ _ ⟨b6, rfl, rfl⟩
  refine g_v (v_assign rfl) rfl ?_
  refine g_nil ?_
  refine g_seq ?_
  refine g_reg ?_
  refine g_v (v_iface Tryd.underlying23 rfl rfl) rfl ?_
  refine g_v (v_iface Tryd.underlying23 rfl rfl) rfl ?_
  refine g_v (v_iface Tryd.underlying23 rfl rfl) rfl ?_
  refine g_v (v_iface Tryd.underlying23 rfl rfl) rfl ?_
  refine g_v (v_iface Tryd.underlying23 rfl rfl) rfl ?_
  refine g_v (v_iface Tryd.underlying23 rfl rfl) rfl ?_
  refine g_v (v_iface Tryd.underlying23 rfl rfl) rfl ?_
  refine g_v (v_iface Tryd.underlying23 rfl rfl) rfl ?_
  refine g_v (v_iface Tryd.underlying23 rfl rfl) rfl ?_
  refine g_l (l_buildSlice errR Tryd.underlying24 Tryd.sizeOf27 Tryd.zeroValue27 rfl rfl rfl (by simp [errR]) (by decide) (by decide)) rfl ?_
  rintro _ _ ⟨b16, rfl, rfl⟩
  refine g_v (v_assign rfl) rfl ?_
  refine g_nil ?_
  refine g_seq ?_
  refine g_seq ?_
  refine g_reg ?_
  refine g_v (v_assign rfl) rfl ?_
  refine g_nil ?_
  refine g_block ?_
  refine g_loop (α := Nat) (fun k => k ≤ 9) (fun k => U [(1, sl (some ⟨b5, 0, none⟩) 18 18), (2, sl (some ⟨b6, 0, none⟩) 18 18), (3, sl (some ⟨b16, 0, none⟩) 9 9), (4, I k)]) (fun _ => owL 27 1 (some ⟨b16, 0, none⟩) 9 errR :: owL 3 1 (some ⟨b6, 0, none⟩) 18 (intR lw) :: owL 3 1 (some ⟨b5, 0, none⟩) 18 (intR lw) :: F) (fun k => 9 - k) 0 (by simp) [1, 2, 3, 4] rfl rfl ?_
  intro k hk
  refine g_seq ?_
  refine g_seq ?_
  refine g_reg ?_
  refine g_v (v_move rfl) rfl ?_
  refine g_v (v_move rfl) rfl ?_
  refine g_v (v_len Tryd.underlying24 rfl) rfl ?_
  refine g_v (v_lss rfl rfl) rfl ?_
  refine g_nil ?_
  refine g_cond rfl (fun h20 => ?_) (fun h20 => ?_)
  · simp at h20
    have hk9 : k < 9 := by omega
    refine g_skip ?_
    refine g_seq ?_
    refine g_block ?_
    refine g_seq ?_
    refine g_reg ?_
    refine g_v (v_move rfl) rfl ?_
    refine g_v (v_move rfl) rfl ?_
    refine g_v (v_idxS k Tryd.underlying24 Tryd.sizeOf27 rfl rfl rfl hk9 (by simp [errR]; omega)) rfl ?_
    refine g_v (v_loadS0 Tryd.isAgg27 rfl (errR_at hk9) rfl) rfl ?_
    refine g_v (v_move rfl) rfl ?_
    refine g_v (v_add rfl rfl (w64 (by omega))) rfl ?_
    refine g_l (l_call (Pre := []) Tryd.call4 rfl (ct_L_same ((k : Int) + 1) ((k : Int) + 1) (by omega))) rfl ?_
    rintro _ _ ⟨rfl, rfl⟩
    refine g_v (v_not rfl) rfl ?_
    refine g_nil ?_
    refine g_cond rfl (fun h30 => ?_) (fun h30 => ?_)
    · simp at h30
    · skip
      refine g_skip ?_
      refine g_blk ?_
      refine g_reg ?_
      refine g_v (v_move rfl) rfl ?_
      refine g_v (v_add rfl rfl (w64 (by omega))) rfl ?_
      refine g_v (v_assign rfl) rfl ?_
      refine g_nil ?_
      exact g_again (k + 1) (by omega) (by omega) [1, 2, 3, 4] rfl rfl
  · skip
    refine g_exit rfl ?_
    refine g_seq ?_
    refine g_reg ?_
    refine g_v (v_move rfl) rfl ?_
    refine g_v (v_move rfl) rfl ?_
    refine g_freeze (some ⟨b5, 0, none⟩) ?_
    refine g_freeze (some ⟨b6, 0, none⟩) ?_
    refine g_l (l_call (Pre := [roL 1 (some ⟨b5, 0, none⟩) (intR lw), roL 1 (some ⟨b6, 0, none⟩) (intR lw)]) (R := fun F => R1 (Bo (decide (lw = lw))) (roL 1 (some ⟨b5, 0, none⟩) (intR lw) :: roL 1 (some ⟨b6, 0, none⟩) (intR lw) :: F)) Tryd.call5 rfl (ct_R_SameNumbers lw lw (some ⟨b5, 0, none⟩) (some ⟨b6, 0, none⟩) 18 18 (by decide))) rfl ?_
    rintro _ _ ⟨rfl, rfl⟩
    refine g_v (v_move rfl) rfl ?_
    refine g_gl rfl rfl (by simp) (l_call (Pre := []) Tryd.call6 rfl (ct_Errno_Error)) rfl ?_
    rintro _ _ ⟨rfl, rfl⟩
    refine g_gv1 rfl rfl (by simp) (v_seql rfl rfl) rfl ?_
    refine g_v (v_and rfl rfl) rfl ?_
    refine g_v (v_assign rfl) rfl ?_
    refine g_nil ?_
    refine g_ret1 rfl rfl ?_
    show Bo (decide (lw = lw) && decide ([99, 111, 117, 110, 116, 101, 114, 102, 111, 105, 108, 58, 32, 101, 114, 114, 111, 114, 32, 57] = [99, 111, 117, 110, 116, 101, 114, 102, 111, 105, 108, 58, 32, 101, 114, 114, 111, 114, 32, 57])) = Bo true
    simp

end Go.Proofs.YthdjckbjjfiopaaDoor
