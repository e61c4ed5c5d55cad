/- The walk through the law TopStale. No condition. -/
import Derived.Test.YthdjckbjjfiopabStaleLaw
namespace Go.Proofs.Ythdjckbjjfiopab
open Go.Sl Go.Proofs
set_option linter.unusedVariables false
set_option linter.unusedSimpArgs false
def actL (x : ActM) : Prop := x.puts.length ≤ 9223372036854775807 ∧ x.changes.length ≤ 9223372036854775807

theorem ct_T_TopStale (n a : Int) (l m : List ActM) (f f' : Nat → ActZ) (s s' : Option Addr) (cap cap' : Nat) (hl : l.length ≤ 9223372036854775807) (hm : m.length ≤ 9223372036854775807) (hla : ∀ x ∈ l, actL x) (hma : ∀ x ∈ m, actL x) (F : List HProp) : Ct Try.prog 6 [I n, sl s l.length cap, sl s' m.length cap', I a] ([acts s l f, acts s' m f'] ++ F) (R1 (Bo true) (acts s l f :: acts s' m f' :: F)) := by
  show Ct Try.prog 6 [I n, sl s l.length cap, sl s' m.length cap', I a] (acts s l f :: acts s' m f' :: F) _
  refine Ct.of Try.func6 rfl 112 Try.ntmps6 (by simp) fun w0 => ?_
  refine g_seq ?_
  refine g_reg ?_
  refine g_v (v_assign rfl) rfl ?_
  refine g_nil ?_
  refine g_seq ?_
  refine g_reg ?_
  refine g_l (l_call (Pre := []) Try.call29 rfl (ct_T_tracked)) rfl ?_
  rintro _ _ ⟨rfl, rfl⟩
  refine g_v (v_assign rfl) rfl ?_
  refine g_nil ?_
  refine g_seq ?_
  refine g_seq ?_
  refine g_reg ?_
  refine g_v (v_move rfl) rfl ?_
  refine g_v (v_not rfl) rfl ?_
  refine g_nil ?_
  refine g_cond rfl (fun h21 => ?_) (fun h21 => ?_)
  · simp at h21
  · skip
    refine g_skip ?_
    refine g_seq ?_
    refine g_reg ?_
    refine g_v (v_move rfl) rfl ?_
    refine g_v (v_move rfl) rfl ?_
    refine g_l (l_call (Pre := [acts s l f]) (R := fun F => RChd n l (acts s l f :: F)) Try.call30 rfl (ct_T_changed n l f s cap hl hla)) rfl ?_
    rintro _ _ (⟨rfl, rfl⟩ | ⟨hns, hll, b25, rfl, rfl⟩)
    · skip
      refine g_v (v_move rfl) rfl ?_
      refine g_v (v_extract (v := .pointer none) rfl rfl) rfl ?_
      refine g_v (v_extract (v := Bo false) rfl rfl) rfl ?_
      refine g_v (v_assign rfl) rfl ?_
      refine g_v (v_assign rfl) rfl ?_
      refine g_nil ?_
      refine g_seq ?_
      refine g_seq ?_
      refine g_reg ?_
      refine g_v (v_move rfl) rfl ?_
      refine g_v (v_not rfl) rfl ?_
      refine g_v (v_move rfl) rfl ?_
      refine g_no rfl rfl rfl rfl ?_
      refine g_no rfl rfl rfl rfl ?_
      refine g_no rfl rfl rfl rfl ?_
      refine g_v (v_pk1 rfl rfl rfl) rfl ?_
      refine g_nil ?_
      refine g_cond rfl (fun h34 => ?_) (fun h34 => ?_)
      · skip
        refine g_seq ?_
        refine g_reg ?_
        refine g_v (v_assign rfl) rfl ?_
        refine g_nil ?_
        refine g_ret1 rfl rfl ?_
        exact rfl
      · simp at h34
    · skip
      refine g_v (v_move rfl) rfl ?_
      refine g_v (v_extract (v := ptr b25 0) rfl rfl) rfl ?_
      refine g_v (v_extract (v := Bo true) rfl rfl) rfl ?_
      refine g_v (v_assign rfl) rfl ?_
      refine g_v (v_assign rfl) rfl ?_
      refine g_nil ?_
      refine g_seq ?_
      refine g_seq ?_
      refine g_reg ?_
      refine g_v (v_move rfl) rfl ?_
      refine g_v (v_not rfl) rfl ?_
      refine g_v (v_move rfl) rfl ?_
      refine g_gv1 rfl rfl rfl (v_move rfl) rfl ?_
      refine g_gl rfl rfl rfl (l_call (Pre := [acts s' m f']) Try.call20 rfl (ct_L_LightActs m f' s' cap' 20 hm hma)) rfl ?_
      rintro _ _ ⟨rfl, rfl⟩
      refine g_gv1 rfl rfl rfl (v_not rfl) rfl ?_
      refine g_v (v_or rfl rfl) rfl ?_
      refine g_nil ?_
      refine g_cond rfl (fun h34 => ?_) (fun h34 => ?_)
      · skip
        refine g_seq ?_
        refine g_reg ?_
        refine g_v (v_assign rfl) rfl ?_
        refine g_nil ?_
        refine g_ret1 rfl rfl ?_
        exact rfl
      · simp at h34
        have hml : m.length ≤ 20 := by unfold lightA at h34; simp at h34; omega
        have hok := run_ok n hns l
        refine g_skip ?_
        refine g_seq ?_
        refine g_reg ?_
        refine g_v (v_move rfl) rfl ?_
        refine g_v (v_move rfl) rfl ?_
        refine g_l (l_call (Pre := [vdk b25 (runD (vdNew n) l)]) Try.call31 rfl (ct_vdisk_SizeOf b25 (runD (vdNew n) l) a (by have := hok.1.2.2.2.1; omega))) rfl ?_
        rintro _ _ ⟨rfl, rfl⟩
        refine g_v (v_move rfl) rfl ?_
        refine g_v (v_extract (v := I (szS (runD (vdNew n) l) a).1) rfl rfl) rfl ?_
        refine g_v (v_extract (v := errV (szS (runD (vdNew n) l) a).2) rfl rfl) rfl ?_
        refine g_v (v_assign rfl) rfl ?_
        refine g_v (v_assign rfl) rfl ?_
        refine g_nil ?_
        refine g_seq ?_
        refine g_reg ?_
        refine g_v (v_move rfl) rfl ?_
        refine g_l (l_call (Pre := [vdk b25 (runD (vdNew n) l)]) Try.call32 rfl (ct_vdisk_Forget b25 (runD (vdNew n) l) (by have := hok.1.2.2.1; omega))) rfl ?_
        rintro _ _ ⟨rfl, rfl⟩
        refine g_nil ?_
        refine g_seq ?_
        refine g_seq ?_
        refine g_reg ?_
        refine g_v (v_assign rfl) rfl ?_
        refine g_nil ?_
        refine g_block ?_
        refine g_loop (α := Nat × VdM) (fun z => z.1 ≤ m.length ∧ stl (runD (vdNew n) l) z.1 z.2) (fun z => U [(2, sl s' m.length cap'), (3, I a), (10, ptr b25 0), (12, errV (szS (runD (vdNew n) l) a).2), (13, I z.1)]) (fun z => vdk b25 (z.2) :: acts s l f :: acts s' m f' :: F) (fun z => m.length - z.1) (0, fgD (runD (vdNew n) l)) ⟨by simp, vok_mono (vok_fg hok.1) (by omega), iok_fg hok.2, rfl, by simp only [fgD]; omega, rfl⟩ [2, 3, 10, 12, 13] rfl rfl ?_
        rintro ⟨k, D⟩ ⟨hk, hst⟩
        simp only [] at hk hst ⊢
        refine g_seq ?_
        refine g_seq ?_
        refine g_reg ?_
        refine g_v (v_move rfl) rfl ?_
        refine g_v (v_move rfl) rfl ?_
        refine g_v (v_len Try.underlying34 rfl) rfl ?_
        refine g_v (v_lss rfl rfl) rfl ?_
        refine g_nil ?_
        refine g_cond rfl (fun h46 => ?_) (fun h46 => ?_)
        · simp at h46
          have hkn : k < m.length := by omega
          obtain ⟨x, hx⟩ : ∃ x, m[k]? = some x := ⟨_, List.getElem?_eq_getElem hkn⟩
          have hkr : k < (actR m f').length := by rw [actR_len]; exact hkn
          refine g_skip ?_
          refine g_seq ?_
          refine g_block ?_
          refine g_seq ?_
          refine g_reg ?_
          refine g_v (v_move rfl) rfl ?_
          refine g_v (v_move rfl) rfl ?_
          refine g_v (v_idxS k Try.underlying34 Try.sizeOf46 rfl rfl rfl hkn hkr) rfl ?_
          refine g_v (v_fieldAdrS (j := k) 0 Try.underlying46 rfl rfl Try.sizeOf9 (by decide) rfl hkr) rfl ?_
          refine g_v (v_loadS (v := Str x.kind) Try.isAgg9 rfl (actR_at hx) rfl) rfl ?_
          refine g_v (v_sneq rfl rfl) rfl ?_
          refine g_v (v_move rfl) rfl ?_
          refine g_gv rfl rfl (fun hg => v_move rfl) rfl rfl ?_
          refine g_gv rfl rfl (fun hg => v_move rfl) rfl rfl ?_
          refine g_gv rfl rfl (fun hg => v_idxS k Try.underlying34 Try.sizeOf46 rfl rfl rfl hkn hkr) rfl rfl ?_
          refine g_gv rfl rfl (fun hg => v_fieldAdrS (j := k) 0 Try.underlying46 rfl rfl Try.sizeOf9 (by decide) rfl hkr) rfl rfl ?_
          refine g_gv rfl rfl (fun hg => v_loadS (v := Str x.kind) Try.isAgg9 rfl (actR_at hx) rfl) rfl rfl ?_
          refine g_gv rfl rfl (fun hg => v_sneq rfl rfl) rfl rfl ?_
          refine g_v (v_and rfl rfl) rfl ?_
          refine g_nil ?_
          refine g_cond rfl (fun h62 => ?_) (fun h62 => ?_)
          · simp at h62
            change ¬ x.kind = kS ∧ ¬ x.kind = kU at h62
            refine g_reg ?_
            refine g_v (v_move rfl) rfl ?_
            refine g_v (v_move rfl) rfl ?_
            refine g_v (v_move rfl) rfl ?_
            refine g_v (v_idxS k Try.underlying34 Try.sizeOf46 rfl rfl rfl hkn hkr) rfl ?_
            refine g_v (v_loadAS (row := encAct x (f' k)) Try.isAgg46 Try.sizeOf46 rfl (actR_at hx) rfl) rfl ?_
            refine g_l (l_call (Pre := [vdk b25 (D)]) Try.call33 rfl (ct_T_change b25 D x (f' k) (100 + k) hst.1 (by omega))) rfl ?_
            rintro _ _ ⟨rfl, rfl⟩
            refine g_nil ?_
            refine g_blk ?_
            refine g_reg ?_
            refine g_v (v_move rfl) rfl ?_
            refine g_v (v_add rfl rfl (w64 (by omega))) rfl ?_
            refine g_v (v_assign rfl) rfl ?_
            refine g_nil ?_
            exact g_again (k + 1, chgD D x) ⟨by simp; omega, stl_chg hst h62.1 h62.2⟩ (by simp; omega) [2, 3, 10, 12, 13] rfl rfl
          · skip
            refine g_skip ?_
            refine g_blk ?_
            refine g_reg ?_
            refine g_v (v_move rfl) rfl ?_
            refine g_v (v_add rfl rfl (w64 (by omega))) rfl ?_
            refine g_v (v_assign rfl) rfl ?_
            refine g_nil ?_
            exact g_again (k + 1, D) ⟨by simp; omega, vok_mono hst.1 (by omega), hst.2⟩ (by simp; omega) [2, 3, 10, 12, 13] rfl rfl
        · simp at h46
          obtain rfl : k = m.length := by omega
          refine g_exit rfl ?_
          refine g_seq ?_
          refine g_reg ?_
          refine g_v (v_move rfl) rfl ?_
          refine g_l (l_call (Pre := [vdk b25 (D)]) Try.call34 rfl (ct_vdisk_Snap b25 D (by have := hst.1.2.2.2.1; omega) (by have := hst.1.2.1; omega))) rfl ?_
          rintro _ _ ⟨rfl, rfl⟩
          refine g_v (v_move rfl) rfl ?_
          refine g_v (v_extract (v := I (snI D)) rfl rfl) rfl ?_
          refine g_v (v_extract (v := errV (snE D)) rfl rfl) rfl ?_
          refine g_v (v_assign rfl) rfl ?_
          refine g_v (v_assign rfl) rfl ?_
          refine g_nil ?_
          refine g_seq ?_
          refine g_seq ?_
          refine g_reg ?_
          refine g_v (v_move rfl) rfl ?_
          refine g_v (v_ineq Try.underlying29 rfl) rfl ?_
          refine g_v (v_move rfl) rfl ?_
          refine g_gv rfl rfl (fun hg => v_move rfl) rfl rfl ?_
          refine g_gv rfl rfl (fun hg => v_ineq Try.underlying29 rfl) rfl rfl ?_
          refine g_v (v_or rfl rfl) rfl ?_
          refine g_nil ?_
          refine g_cond rfl (fun h79 => ?_) (fun h79 => ?_)
          · skip
            refine g_seq ?_
            refine g_reg ?_
            refine g_v (v_assign rfl) rfl ?_
            refine g_nil ?_
            refine g_ret1 rfl rfl ?_
            exact rfl
          · simp at h79
            have hE1 := stale_fin hok.2 hst h79.1 h79.2
            refine g_skip ?_
            refine g_seq ?_
            refine g_reg ?_
            refine g_v (v_move rfl) rfl ?_
            refine g_v (v_move rfl) rfl ?_
            refine g_v (v_move rfl) rfl ?_
            refine g_l (l_call (Pre := [vdk b25 (snD D)]) Try.call35 rfl (ct_vdisk_Changed b25 (snD D) a (snI D) (by have := (vok_sn hst.1).2.2.2.1; omega))) rfl ?_
            rintro _ _ ⟨s84, c84, rfl, rfl⟩
            rw [hE1, chA_nil (x := a) (by rw [hE1]; decide)]
            refine g_v (v_move rfl) rfl ?_
            refine g_v (v_extract (v := sl s84 ([] : List Area).length c84) rfl rfl) rfl ?_
            refine g_v (v_extract (v := errV 7) rfl rfl) rfl ?_
            refine g_v (v_assign rfl) rfl ?_
            refine g_v (v_assign rfl) rfl ?_
            refine g_nil ?_
            refine g_seq ?_
            refine g_reg ?_
            refine g_v (v_move rfl) rfl ?_
            refine g_v (v_move rfl) rfl ?_
            refine g_v (v_move rfl) rfl ?_
            refine g_l (l_call (Pre := [vdk b25 (snD D)]) Try.call35 rfl (ct_vdisk_Changed b25 (snD D) (snI D) a (by have := (vok_sn hst.1).2.2.2.1; omega))) rfl ?_
            rintro _ _ ⟨s91, c91, rfl, rfl⟩
            rw [chE_comm, hE1, chA_comm, chA_nil (x := a) (by rw [hE1]; decide)]
            refine g_v (v_move rfl) rfl ?_
            refine g_v (v_extract (v := sl s91 ([] : List Area).length c91) rfl rfl) rfl ?_
            refine g_v (v_extract (v := errV 7) rfl rfl) rfl ?_
            refine g_v (v_assign rfl) rfl ?_
            refine g_v (v_assign rfl) rfl ?_
            refine g_nil ?_
            refine g_seq ?_
            refine g_reg ?_
            refine g_v (v_move rfl) rfl ?_
            refine g_l (l_call (Pre := []) Try.call36 rfl (ct_T_number 7)) rfl ?_
            rintro _ _ ⟨rfl, rfl⟩
            refine g_v (v_eql rfl rfl) rfl ?_
            refine g_v (v_move rfl) rfl ?_
            refine g_gv1 rfl rfl rfl (v_move rfl) rfl ?_
            refine g_gl rfl rfl rfl (l_call (Pre := []) Try.call36 rfl (ct_T_number 7)) rfl ?_
            rintro _ _ ⟨rfl, rfl⟩
            refine g_gv1 rfl rfl rfl (v_eql rfl rfl) rfl ?_
            refine g_v (v_and rfl rfl) rfl ?_
            refine g_v (v_move rfl) rfl ?_
            refine g_gv1 rfl rfl rfl (v_move rfl) rfl ?_
            refine g_gv1 rfl rfl rfl (v_len Try.underlying22 rfl) rfl ?_
            refine g_gv1 rfl rfl rfl (v_eql rfl rfl) rfl ?_
            refine g_v (v_and rfl rfl) rfl ?_
            refine g_v (v_move rfl) rfl ?_
            refine g_gv1 rfl rfl rfl (v_move rfl) rfl ?_
            refine g_gv1 rfl rfl rfl (v_len Try.underlying22 rfl) rfl ?_
            refine g_gv1 rfl rfl rfl (v_eql rfl rfl) rfl ?_
            refine g_v (v_and rfl rfl) rfl ?_
            refine g_v (v_assign rfl) rfl ?_
            refine g_nil ?_
            refine g_ret1 rfl rfl ?_
            exact rfl

end Go.Proofs.Ythdjckbjjfiopab
