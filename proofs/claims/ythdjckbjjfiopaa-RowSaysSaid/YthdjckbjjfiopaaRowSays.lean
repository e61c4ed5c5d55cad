/- The walk through the law RowSays. No condition. -/
import Derived.Test.YthdjckbjjfiopaaRow3
namespace Go.Proofs.Ythdjckbjjfiopaa
open Go Go.Sl Go.Proofs
set_option linter.unusedVariables false
set_option linter.unusedSimpArgs false
def kx : ChangeM := ⟨[107], [120], false⟩
theorem bytS_nn (c : ChangeM) : 0 ≤ (bytS c).2 := by unfold bytS; split; simp; exact chkC_nn c
theorem prS_nn : ∀ s : Bytes, 0 ≤ (prS s).2
  | [] => by simp [prS]
  | [_] => by simp [prS]
  | x0 :: x1 :: r => by rw [pr_cons]; split; simp; split <;> simp

theorem ct_L_rows  (F : List HProp) : Ct Try.prog 55 [] ([] ++ F) (R1 (Bo true) F) := by
  show Ct Try.prog 55 [] (F) _
  refine Ct.of Try.func55 rfl 14 Try.ntmps55 (by simp) fun w0 => ?_
  refine g_seq ?_
  refine g_reg ?_
  refine g_v (v_assign rfl) rfl ?_
  refine g_nil ?_
  refine g_seq ?_
  refine g_reg ?_
  refine g_v (v_build rfl (bld95_0_1 _ rfl _ rfl)) rfl ?_
  refine g_l (l_call (vs := [.agg (encC kx).toArray]) (Pre := []) Try.call57 rfl (ct_row_Bytes kx)) rfl ?_
  rintro _ _ ⟨rfl, rfl⟩
  rw [show bytS kx = ([0, 1, 107, 120], 0) by decide]
  refine g_v (v_move rfl) rfl ?_
  refine g_v (v_extract (v := Str [0, 1, 107, 120]) rfl rfl) rfl ?_
  refine g_v (v_extract (v := errV 0) rfl rfl) rfl ?_
  refine g_v (v_assign rfl) rfl ?_
  refine g_v (v_assign rfl) rfl ?_
  refine g_nil ?_
  refine g_seq ?_
  refine g_reg ?_
  refine g_v (v_move rfl) rfl ?_
  refine g_l (l_call (Pre := []) Try.call14 rfl (ct_L_same (0) (0) (by decide))) rfl ?_
  rintro _ _ ⟨rfl, rfl⟩
  refine g_v (v_move rfl) rfl ?_
  refine g_gv1 rfl rfl rfl (v_move rfl) rfl ?_
  refine g_gv1 rfl rfl rfl (v_seql rfl rfl) rfl ?_
  refine g_v (v_and rfl rfl) rfl ?_
  refine g_v (v_assign rfl) rfl ?_
  refine g_nil ?_
  refine g_ret1 rfl rfl ?_
  show Bo _ = Bo true
  simp

theorem ct_L_RowSays (l cs : List ChangeM) (c : ChangeM) (t : Bytes) (s s' : Option Addr) (cap cap' : Nat) (hl : l.length ≤ 9223372036854775807) (hc : cs.length ≤ 9223372036854775807) (F : List HProp) : Ct Try.prog 6 [sl s l.length cap, sl s' cs.length cap', .agg (encC c).toArray, Str t] ([roL 3 s (chR l), roL 3 s' (chR cs)] ++ F) (R1 (Bo true) (roL 3 s (chR l) :: roL 3 s' (chR cs) :: F)) := by
  show Ct Try.prog 6 [sl s l.length cap, sl s' cs.length cap', .agg (encC c).toArray, Str t] (roL 3 s (chR l) :: roL 3 s' (chR cs) :: F) _
  refine Ct.of Try.func6 rfl 116 Try.ntmps6 (by simp) fun w0 => ?_
  refine g_seq ?_
  refine g_reg ?_
  refine g_l (l_box (encC c).toArray rfl rfl) rfl ?_
  rintro _ _ ⟨b6, rfl, rfl⟩
  refine g_v (v_assign rfl) rfl ?_
  refine g_nil ?_
  refine g_seq ?_
  refine g_reg ?_
  refine g_l (l_call (Pre := []) Try.call55 rfl (ct_L_rows)) rfl ?_
  rintro _ _ ⟨rfl, rfl⟩
  refine g_v (v_assign rfl) rfl ?_
  refine g_nil ?_
  refine g_seq ?_
  refine g_seq ?_
  refine g_reg ?_
  refine g_v (v_move rfl) rfl ?_
  refine g_v (v_not rfl) rfl ?_
  refine g_v (v_move rfl) rfl ?_
  refine g_gv1 rfl rfl rfl (v_move rfl) rfl ?_
  refine g_gl rfl rfl rfl (l_call (Pre := [roL 3 s (chR l)]) (R := fun F => R1 (Bo (lightC l 90)) (roL 3 s (chR l) :: F)) Try.call56 rfl (ct_L_LightChanges l s cap 90 hl)) rfl ?_
  rintro _ _ ⟨rfl, rfl⟩
  refine g_gv1 rfl rfl rfl (v_not rfl) rfl ?_
  refine g_v (v_or rfl rfl) rfl ?_
  refine g_v (v_move rfl) rfl ?_
  by_cases hL1 : lightC l 90 = true
  · have g1 : (!true || !lightC l 90) = false := by rw [hL1]; rfl
    refine g_gv1 rfl rfl g1 (v_move rfl) rfl ?_
    refine g_gl rfl rfl g1 (l_call (Pre := [roL 3 s' (chR cs)]) (R := fun F => R1 (Bo (lightC cs 20)) (roL 3 s' (chR cs) :: F)) Try.call56 rfl (ct_L_LightChanges cs s' cap' 20 hc)) rfl ?_
    rintro _ _ ⟨rfl, rfl⟩
    refine g_gv1 rfl rfl g1 (v_not rfl) rfl ?_
    refine g_v (v_or rfl rfl) rfl ?_
    refine g_v (v_move rfl) rfl ?_
    by_cases hL2 : lightC cs 20 = true
    · have g2 : ((!true || !lightC l 90) || !lightC cs 20) = false := by rw [hL1, hL2]; rfl
      refine g_gv1 rfl rfl g2 (v_loadA (vs := encC (c)) Try.isAgg95 Try.sizeOf95 rfl rfl arr_ld) rfl ?_
      refine g_gl rfl rfl g2 (l_buildSlice (chR [c]) Try.underlying50 Try.sizeOf95 Try.zeroValue95 rfl rfl rfl (chR_three _) (by decide) (by decide)) rfl ?_
      rintro _ _ ⟨b34, rfl, rfl⟩
      refine g_freeze (some ⟨b34, 0, none⟩) ?_
      refine g_gl rfl rfl g2 (l_call (Pre := [roL 3 (some ⟨b34, 0, none⟩) (chR [c])]) (R := fun F => R1 (Bo (lightC [c] 1)) (roL 3 (some ⟨b34, 0, none⟩) (chR [c]) :: F)) Try.call56 rfl (ct_L_LightChanges [c] (some ⟨b34, 0, none⟩) 1 1 (by simp))) rfl ?_
      rintro _ _ ⟨rfl, rfl⟩
      refine g_gv1 rfl rfl g2 (v_not rfl) rfl ?_
      refine g_v (v_or rfl rfl) rfl ?_
      refine g_v (v_move rfl) rfl ?_
      refine g_gv rfl rfl (fun hg => v_move rfl) rfl rfl ?_
      refine g_gv rfl rfl (fun hg => v_slen Try.underlying9 rfl) rfl rfl ?_
      refine g_gv rfl rfl (fun hg => v_gtr rfl rfl) rfl rfl ?_
      refine g_v (v_or rfl rfl) rfl ?_
      refine g_nil ?_
      refine g_cond rfl (fun h42 => ?_) (fun h42 => ?_)
      · skip
        refine g_seq ?_
        refine g_reg ?_
        refine g_v (v_move rfl) rfl ?_
        refine g_v (v_assign rfl) rfl ?_
        refine g_nil ?_
        refine g_ret1 rfl rfl ?_
        exact rfl
      · simp at h42
        have hl90 : l.length ≤ 90 := by unfold lightC at hL1; simp at hL1; omega
        have hc20 : cs.length ≤ 20 := by unfold lightC at hL2; simp at hL2; omega
        have ht200 : t.length ≤ 200 := by omega
        refine g_skip ?_
        refine g_seq ?_
        refine g_reg ?_
        refine g_v (v_loadA (vs := encC (c)) Try.isAgg95 Try.sizeOf95 rfl rfl arr_ld) rfl ?_
        refine g_l (l_call (Pre := []) Try.call57 rfl (ct_row_Bytes c)) rfl ?_
        rintro _ _ ⟨rfl, rfl⟩
        refine g_v (v_move rfl) rfl ?_
        refine g_v (v_extract (v := Str (bytS c).1) rfl rfl) rfl ?_
        refine g_v (v_extract (v := errV (bytS c).2) rfl rfl) rfl ?_
        refine g_v (v_assign rfl) rfl ?_
        refine g_v (v_assign rfl) rfl ?_
        refine g_nil ?_
        refine g_seq ?_
        refine g_reg ?_
        refine g_v (v_loadA (vs := encC (c)) Try.isAgg95 Try.sizeOf95 rfl rfl arr_ld) rfl ?_
        refine g_l (l_call (Pre := []) Try.call58 rfl (ct_R_ChangeBytes c)) rfl ?_
        rintro _ _ ⟨rfl, rfl⟩
        refine g_v (v_move rfl) rfl ?_
        refine g_v (v_extract (v := Str (bytS c).1) rfl rfl) rfl ?_
        refine g_v (v_extract (v := I (bytS c).2) rfl rfl) rfl ?_
        refine g_v (v_assign rfl) rfl ?_
        refine g_v (v_assign rfl) rfl ?_
        refine g_nil ?_
        refine g_seq ?_
        refine g_reg ?_
        refine g_v (v_move rfl) rfl ?_
        refine g_l (l_call (Pre := []) Try.call59 rfl (ct_row_Parse t (by omega))) rfl ?_
        rintro _ _ ⟨rfl, rfl⟩
        refine g_v (v_move rfl) rfl ?_
        refine g_v (v_extract (v := .agg (encC (prS t).1).toArray) rfl rfl) rfl ?_
        refine g_v (v_extract (v := errV (prS t).2) rfl rfl) rfl ?_
        refine g_l (l_alloc #[Str [], Str [], Bo false] Try.zeroValue95) rfl ?_
        rintro _ _ ⟨b14, rfl, rfl⟩
        refine g_l0 (l_storeA (cs := #[Str [], Str [], Bo false]) (vs := encC (prS t).1) (encC (prS t).1).toArray Try.sizeOf95 rfl rfl rfl rfl (by decide) (splice_all rfl)) ?_
        rintro _ _ rfl
        refine g_v (v_assign rfl) rfl ?_
        refine g_nil ?_
        refine g_seq ?_
        refine g_reg ?_
        refine g_v (v_move rfl) rfl ?_
        refine g_l (l_call (Pre := []) Try.call60 rfl (ct_R_ChangeOf t (by omega))) rfl ?_
        rintro _ _ ⟨rfl, rfl⟩
        refine g_v (v_move rfl) rfl ?_
        refine g_v (v_extract (v := .agg (encC (prS t).1).toArray) rfl rfl) rfl ?_
        refine g_v (v_extract (v := I (prS t).2) rfl rfl) rfl ?_
        refine g_l (l_alloc #[Str [], Str [], Bo false] Try.zeroValue95) rfl ?_
        rintro _ _ ⟨b16, rfl, rfl⟩
        refine g_l0 (l_storeA (cs := #[Str [], Str [], Bo false]) (vs := encC (prS t).1) (encC (prS t).1).toArray Try.sizeOf95 rfl rfl rfl rfl (by decide) (splice_all rfl)) ?_
        rintro _ _ rfl
        refine g_v (v_assign rfl) rfl ?_
        refine g_nil ?_
        refine g_seq ?_
        refine g_seq ?_
        refine g_draw (Lf := pt b6 (.cells (encC c).toArray 95 (0, 0)) :: pt b14 (.cells (encC (prS t).1).toArray 95 (0, 0)) :: pt b16 (.cells (encC (prS t).1).toArray 95 (0, 0)) :: F) [(0, false), (2, false), (1, true), (3, true), (4, true), (5, false), (6, false), (7, false), (8, false), (9, false), (10, false), (11, false), (12, false), (13, false), (14, false), (15, false), (16, false), (17, false), (18, false), (19, true), (20, false), (21, false), (22, false), (23, false), (24, false), (25, true), (26, false), (27, false)] (by kernel_rfl) (by kernel_rfl) rfl (by kernel_rfl) ?_
        refine d_v rfl (v_loadA (vs := encC (c)) Try.isAgg95 Try.sizeOf95 rfl rfl arr_ld) rfl ?_
        refine d_v rfl (v_loadA (vs := encC (c)) Try.isAgg95 Try.sizeOf95 rfl rfl arr_ld) rfl ?_
        refine d_l rfl (l_call (Pre := []) Try.call61 rfl (ct_row_Check c)) rfl ?_
        rintro _ _ ⟨rfl, rfl⟩
        refine d_l rfl (l_call (Pre := []) Try.call62 rfl (ct_R_ChangeFault c)) rfl ?_
        rintro _ _ ⟨rfl, rfl⟩
        refine d_l rfl (l_call (Pre := []) Try.call14 rfl (ct_L_same (chkC c) (chkC c) (chkC_nn _))) rfl ?_
        rintro _ _ ⟨rfl, rfl⟩
        refine d_v rfl (v_not rfl) rfl ?_
        refine d_v rfl (v_move rfl) rfl ?_
        refine d_gv1 rfl rfl rfl (by simp) (v_move rfl) rfl ?_
        refine d_gv1 rfl rfl rfl (by simp) (v_move rfl) rfl ?_
        refine d_gv1 rfl rfl rfl (by simp) (v_sneq rfl rfl) rfl ?_
        refine d_v rfl (v_or rfl rfl) rfl ?_
        refine d_v rfl (v_move rfl) rfl ?_
        refine d_gv1 rfl rfl rfl (by simp) (v_loadA (vs := encC ((prS t).1)) Try.isAgg95 Try.sizeOf95 rfl rfl arr_ld) rfl ?_
        refine d_gv1 rfl rfl rfl (by simp) (v_loadA (vs := encC ((prS t).1)) Try.isAgg95 Try.sizeOf95 rfl rfl arr_ld) rfl ?_
        refine d_gv1 rfl rfl rfl (by simp) (v_aneq Try.eqGuardType95 rfl rfl (eq_Change _ _)) rfl ?_
        refine d_v rfl (v_or rfl rfl) rfl ?_
        refine d_v rfl (v_move rfl) rfl ?_
        refine d_gv1 rfl rfl rfl (by simp) (v_move rfl) rfl ?_
        refine d_gv1 rfl rfl rfl (by simp) (v_move rfl) rfl ?_
        refine d_gl rfl rfl rfl (by simp) (l_call (Pre := []) Try.call14 rfl (ct_L_same ((bytS c).2) ((bytS c).2) (bytS_nn _))) rfl ?_
        rintro _ _ ⟨rfl, rfl⟩
        refine d_gv1 rfl rfl rfl (by simp) (v_not rfl) rfl ?_
        refine d_v rfl (v_or rfl rfl) rfl ?_
        refine d_v rfl (v_move rfl) rfl ?_
        refine d_gv1 rfl rfl rfl (by simp) (v_move rfl) rfl ?_
        refine d_gv1 rfl rfl rfl (by simp) (v_move rfl) rfl ?_
        refine d_gl rfl rfl rfl (by simp) (l_call (Pre := []) Try.call14 rfl (ct_L_same ((prS t).2) ((prS t).2) (prS_nn _))) rfl ?_
        rintro _ _ ⟨rfl, rfl⟩
        refine d_gv1 rfl rfl rfl (by simp) (v_not rfl) rfl ?_
        refine d_v rfl (v_or rfl rfl) rfl ?_
        refine d_nil ?_
        refine g_cond rfl (fun h91 => ?_) (fun h91 => ?_)
        · simp at h91
        · skip
          refine g_skip ?_
          refine g_seq ?_
          refine g_seq ?_
          refine g_reg ?_
          refine g_v (v_assign rfl) rfl ?_
          refine g_nil ?_
          refine g_block ?_
          refine g_loop (α := Nat) (fun k => k ≤ cs.length) (fun k => U [(0, sl s l.length cap), (1, sl s' cs.length cap'), (18, I k)]) (fun _ => roL 3 s (chR l) :: roL 3 s' (chR cs) :: F) (fun k => cs.length - k) 0 (by simp) [0, 1, 18] rfl rfl ?_
          intro k hk
          refine g_seq ?_
          refine g_seq ?_
          refine g_reg ?_
          refine g_v (v_move rfl) rfl ?_
          refine g_v (v_move rfl) rfl ?_
          refine g_v (v_len Try.underlying50 rfl) rfl ?_
          refine g_v (v_lss rfl rfl) rfl ?_
          refine g_nil ?_
          refine g_cond rfl (fun h95 => ?_) (fun h95 => ?_)
          · simp at h95
            have hin : k < cs.length := by omega
            obtain ⟨x, hx⟩ : ∃ x, cs[k]? = some x := ⟨_, List.getElem?_eq_getElem hin⟩
            have hir : k < (chR cs).length := by rw [chR_len]; exact hin
            refine g_skip ?_
            refine g_seq ?_
            refine g_block ?_
            refine g_seq ?_
            refine g_reg ?_
            refine g_v (v_move rfl) rfl ?_
            refine g_v (v_move rfl) rfl ?_
            refine g_v (v_idxS k Try.underlying50 Try.sizeOf95 rfl rfl rfl hin hir) rfl ?_
            refine g_v (v_loadAS (row := encC x) Try.isAgg95 Try.sizeOf95 rfl (chR_at hx) rfl) rfl ?_
            refine g_l (l_call (Pre := []) Try.call62 rfl (ct_R_ChangeFault x)) rfl ?_
            rintro _ _ ⟨rfl, rfl⟩
            refine g_v (v_gtr rfl rfl) rfl ?_
            refine g_nil ?_
            refine g_cond rfl (fun h103 => ?_) (fun h103 => ?_)
            · skip
              refine g_seq ?_
              refine g_reg ?_
              refine g_v (v_assign rfl) rfl ?_
              refine g_nil ?_
              refine g_ret1 rfl rfl ?_
              exact rfl
            · skip
              refine g_skip ?_
              refine g_blk ?_
              refine g_reg ?_
              refine g_v (v_move rfl) rfl ?_
              refine g_v (v_add rfl rfl (w64 (by omega))) rfl ?_
              refine g_v (v_assign rfl) rfl ?_
              refine g_nil ?_
              exact g_again (k + 1) (by omega) (by omega) [0, 1, 18] rfl rfl
          · skip
            refine g_exit rfl ?_
            refine g_seq ?_
            refine g_reg ?_
            refine g_v (v_move rfl) rfl ?_
            refine g_l (l_call (Pre := [roL 3 s (chR l)]) Try.call63 rfl (ct_L_goodRows l s cap (by omega))) rfl ?_
            rintro _ _ ⟨gb, rfl, hgb, rfl⟩
            refine g_v (v_not rfl) rfl ?_
            refine g_v (v_move rfl) rfl ?_
            by_cases hg1 : gb = true
            · have hs := hgb hg1
              have g3 : (!gb) = false := by rw [hg1]; rfl
              have haps := (srt_aps hs cs).2
              refine g_gv1 rfl rfl g3 (v_move rfl) rfl ?_
              refine g_gv1 rfl rfl g3 (v_move rfl) rfl ?_
              refine g_gl rfl rfl g3 (l_call (Pre := [roL 3 s (chR l), roL 3 s' (chR cs)]) Try.call65 rfl (ct_row_Apply l cs s s' cap cap' hs (by omega) (by omega))) rfl ?_
              rintro _ _ ⟨s110, c110, rfl, rfl⟩
              refine g_gv1 rfl rfl g3 (v_move rfl) rfl ?_
              refine g_gv1 rfl rfl g3 (v_move rfl) rfl ?_
              refine g_gl rfl rfl g3 (l_call (Pre := [roL 3 s (chR l), roL 3 s' (chR cs)]) Try.call66 rfl (ct_R_Applied l cs s s' cap cap' hs (by omega) (by omega))) rfl ?_
              rintro _ _ ⟨s113, c113, rfl, rfl⟩
              refine g_freeze s110 ?_
              refine g_freeze s113 ?_
              refine g_gl rfl rfl g3 (l_call (Pre := [roL 3 s110 (chR (apsS l cs)), roL 3 s113 (chR (apsS l cs))]) Try.call64 rfl (ct_R_SameChanges (apsS l cs) (apsS l cs) s110 s113 c110 c113 (by omega) (by omega))) rfl ?_
              rintro _ _ ⟨rfl, rfl⟩
              refine g_v (v_or rfl rfl) rfl ?_
              refine g_v (v_assign rfl) rfl ?_
              refine g_nil ?_
              refine g_ret1 rfl rfl ?_
              show Bo (!gb || decide (apsS l cs = apsS l cs)) = Bo true
              simp
            · have g3 : (!gb) = true := by simpa using hg1
              refine g_no rfl rfl (by rw [g3]; rfl) rfl ?_
              refine g_no rfl rfl (by rw [g3]; rfl) rfl ?_
              refine g_no rfl rfl (by rw [g3]; rfl) rfl ?_
              refine g_no rfl rfl (by rw [g3]; rfl) rfl ?_
              refine g_no rfl rfl (by rw [g3]; rfl) rfl ?_
              refine g_no rfl rfl (by rw [g3]; rfl) rfl ?_
              refine g_no rfl rfl (by rw [g3]; rfl) rfl ?_
              refine g_v (v_pk1 rfl g3 rfl) rfl ?_
              refine g_v (v_assign rfl) rfl ?_
              refine g_nil ?_
              refine g_ret1 rfl rfl ?_
              exact rfl
    · have g2 : ((!true || !lightC l 90) || !lightC cs 20) = true := by simp [hL2]
      refine g_no rfl rfl (by rw [g2]; rfl) rfl ?_
      refine g_no rfl rfl (by rw [g2]; rfl) rfl ?_
      refine g_no rfl rfl (by rw [g2]; rfl) rfl ?_
      refine g_no rfl rfl (by rw [g2]; rfl) rfl ?_
      refine g_v (v_pk1 rfl g2 rfl) rfl ?_
      refine g_v (v_move rfl) rfl ?_
      refine g_no rfl rfl rfl rfl ?_
      refine g_no rfl rfl rfl rfl ?_
      refine g_no rfl rfl rfl rfl ?_
      refine g_v (v_pk1 rfl rfl rfl) rfl ?_
      refine g_nil ?_
      refine g_cond rfl (fun h42 => ?_) (fun h42 => ?_)
      · skip
        refine g_seq ?_
        refine g_reg ?_
        refine g_v (v_move rfl) rfl ?_
        refine g_v (v_assign rfl) rfl ?_
        refine g_nil ?_
        refine g_ret1 rfl rfl ?_
        exact rfl
      · exact absurd h42 (by simp)
  · have g1 : (!true || !lightC l 90) = true := by simp [hL1]
    refine g_no rfl rfl (by rw [g1]; rfl) rfl ?_
    refine g_no rfl rfl (by rw [g1]; rfl) rfl ?_
    refine g_no rfl rfl (by rw [g1]; rfl) rfl ?_
    refine g_v (v_pk1 rfl g1 rfl) rfl ?_
    refine g_v (v_move rfl) rfl ?_
    refine g_no rfl rfl rfl rfl ?_
    refine g_no rfl rfl rfl rfl ?_
    refine g_no rfl rfl rfl rfl ?_
    refine g_no rfl rfl rfl rfl ?_
    refine g_v (v_pk1 rfl rfl rfl) rfl ?_
    refine g_v (v_move rfl) rfl ?_
    refine g_no rfl rfl rfl rfl ?_
    refine g_no rfl rfl rfl rfl ?_
    refine g_no rfl rfl rfl rfl ?_
    refine g_v (v_pk1 rfl rfl rfl) rfl ?_
    refine g_nil ?_
    refine g_cond rfl (fun h42 => ?_) (fun h42 => ?_)
    · skip
      refine g_seq ?_
      refine g_reg ?_
      refine g_v (v_move rfl) rfl ?_
      refine g_v (v_assign rfl) rfl ?_
      refine g_nil ?_
      refine g_ret1 rfl rfl ?_
      exact rfl
    · exact absurd h42 (by simp)

end Go.Proofs.Ythdjckbjjfiopaa
