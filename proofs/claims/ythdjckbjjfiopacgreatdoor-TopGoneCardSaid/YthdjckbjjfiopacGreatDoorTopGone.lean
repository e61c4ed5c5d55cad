/- The walk through the law TopGone. No condition but the library's tables. -/
import Derived.Test.YthdjckbjjfiopacGreatDoorTopGn
namespace Go.Proofs.YthdjckbjjfiopacGreatDoor
open Go.Sl Go.Proofs
set_option linter.unusedVariables false
set_option linter.unusedSimpArgs false
theorem drop_get {α : Type} {l : List α} {i : Nat} {x : α} (h : l[i]? = some x) : l.drop i = x :: l.drop (i + 1) := by
  obtain ⟨hi, e⟩ := List.getElem?_eq_some_iff.1 h
  rw [← e]
  exact List.drop_eq_getElem_cons hi

theorem ct_T_TopGone (l : List ActM) (f : Nat → ActZ) (s : Option Addr) (cap : Nat) (hl : l.length ≤ 9223372036854775807) (hla : ∀ x ∈ l, x.puts.length ≤ 9223372036854775807 ∧ x.changes.length ≤ 9223372036854775807) (F : List HProp) : Ct Tryz.prog 4 [sl s l.length cap] ([tabs, acts s l f] ++ F) (R1 (Bo true) (tabs :: acts s l f :: F)) := by
  show Ct Tryz.prog 4 [sl s l.length cap] (tabs :: acts s l f :: F) _
  refine Ct.of Tryz.func4 rfl 84 Tryz.ntmps4 (by simp) fun w0 => ?_
  refine g_seq ?_
  refine g_reg ?_
  refine g_v (v_assign rfl) rfl ?_
  refine g_nil ?_
  refine g_seq ?_
  refine g_reg ?_
  refine g_l (l_call (Pre := []) Tryz.call10 rfl (ct_T_vaulted)) rfl ?_
  rintro _ _ ⟨rfl, rfl⟩
  refine g_v (v_assign rfl) rfl ?_
  refine g_nil ?_
  refine g_seq ?_
  refine g_seq ?_
  refine g_reg ?_
  refine g_v (v_move rfl) rfl ?_
  refine g_v (v_not rfl) rfl ?_
  refine g_nil ?_
  refine g_false rfl ?_
  refine g_skip ?_
  refine g_seq ?_
  refine g_reg ?_
  refine g_v (v_move rfl) rfl ?_
  refine g_l (l_call (Pre := [acts s l f]) Tryz.call11 rfl (ct_T_filledC l f s cap hl hla)) rfl ?_
  rintro _ _ (⟨rfl, rfl⟩ | ⟨q, S, L, n, G, rfl, rfl, hC, hlight⟩)
  · skip
    refine g_v (v_move rfl) rfl ?_
    refine g_v (v_extract (v := .pointer none) rfl rfl) rfl ?_
    refine g_v (v_extract (v := Bo false) rfl rfl) rfl ?_
    refine g_v (v_assign rfl) rfl ?_
    refine g_v (v_assign rfl) rfl ?_
    refine g_nil ?_
    refine g_seq ?_
    refine g_seq ?_
    refine g_reg ?_
    refine g_v (v_move rfl) rfl ?_
    refine g_v (v_not rfl) rfl ?_
    refine g_nil ?_
    refine g_true rfl ?_
    refine g_seq ?_
    refine g_reg ?_
    refine g_v (v_assign rfl) rfl ?_
    refine g_nil ?_
    exact g_ret1 rfl rfl (by show Bo _ = Bo true; first | rfl | simp)
  · have hlen := hC.v.len
    have hrow := rowsF_le (S := S) (n := n) hlen
    refine g_v (v_move rfl) rfl ?_
    refine g_v (v_extract (v := ptr q 0) rfl rfl) rfl ?_
    refine g_v (v_extract (v := Bo true) rfl rfl) rfl ?_
    refine g_v (v_assign rfl) rfl ?_
    refine g_v (v_assign rfl) rfl ?_
    refine g_nil ?_
    refine g_seq ?_
    refine g_seq ?_
    refine g_reg ?_
    refine g_v (v_move rfl) rfl ?_
    refine g_v (v_not rfl) rfl ?_
    refine g_nil ?_
    refine g_false rfl ?_
    refine g_skip ?_
    refine g_seq ?_
    refine g_reg ?_
    refine g_v (v_move rfl) rfl ?_
    refine g_l (l_call (Pre := [tabs, vlt q S L n]) Tryz.call15 rfl (ct_image_Rows q S L n hC.sm)) rfl ?_
    rintro _ _ ⟨s21, c21, rfl, rfl⟩
    refine g_freeze s21 ?_
    refine g_l (l_call (Pre := [tabs, roL 3 s21 (chR (rowsF S L n))]) Tryz.call22 rfl (ct_image_Parse (rowsF S L n) s21 c21 (by omega) (keyle hC))) rfl ?_
    rintro _ _ (⟨st, q3, hps, hw, rfl, rfl⟩ | ⟨hno, rfl, rfl⟩)
    rotate_left
    · exact absurd (con_pars hC).2 (hno _ (con_pars hC).1)
    rw [(con_pars hC).1] at hps
    injection hps with hps
    subst hps
    change Go.Sl.G _ _ _ (vlt q3 S L n :: _)
    refine g_v (v_move rfl) rfl ?_
    refine g_v (v_extract (v := ptr q3 0) rfl rfl) rfl ?_
    refine g_v (v_extract (v := errT 89 0) rfl rfl) rfl ?_
    refine g_v (v_assign rfl) rfl ?_
    refine g_v (v_assign rfl) rfl ?_
    refine g_nil ?_
    refine g_seq ?_
    refine g_seq ?_
    refine g_reg ?_
    refine g_v (v_move rfl) rfl ?_
    refine g_v (v_ineq (T := 89) (f := 0) Tryz.underlying29 rfl) rfl ?_
    refine g_v (v_move rfl) rfl ?_
    refine g_gv1 rfl rfl rfl (v_move rfl) rfl ?_
    refine g_gl rfl rfl rfl (l_call (Pre := [tabs, vlt q3 S L n]) Tryz.call15 rfl (ct_image_Rows q3 S L n hC.sm)) rfl ?_
    rintro _ _ ⟨s29, c29, rfl, rfl⟩
    refine g_freeze s29 ?_
    refine g_gv1 rfl rfl rfl (v_move rfl) rfl ?_
    refine g_gl rfl rfl rfl (l_call (Pre := [tabs, vlt q S L n]) Tryz.call15 rfl (ct_image_Rows q S L n hC.sm)) rfl ?_
    rintro _ _ ⟨s31, c31, rfl, rfl⟩
    refine g_freeze s31 ?_
    refine g_gl rfl rfl rfl (l_call (Pre := [roL 3 s29 (chR (rowsF S L n)), roL 3 s31 (chR (rowsF S L n))]) Tryz.call14 rfl (ct_R_SameChanges (rowsF S L n) (rowsF S L n) s29 s31 c29 c31 (by omega) (by omega))) rfl ?_
    rintro _ _ ⟨rfl, rfl⟩
    refine g_gv1 rfl rfl rfl (v_not rfl) rfl ?_
    refine g_v (v_pk2 rfl rfl rfl) rfl ?_
    refine g_nil ?_
    refine g_cond rfl (fun h34 => ?_) (fun h34 => ?_)
    · simp at h34
    · skip
      refine g_skip ?_
      refine g_seq ?_
      refine g_reg ?_
      refine g_v (v_move rfl) rfl ?_
      refine g_l (l_call (Pre := [vlt q S L n]) Tryz.call12 rfl (ct_vault_Vault_Copy q S L n (by omega))) rfl ?_
      rintro _ _ ⟨q4, rfl, rfl⟩
      refine g_v (v_assign rfl) rfl ?_
      refine g_nil ?_
      refine g_seq ?_
      refine g_seq ?_
      refine g_reg ?_
      refine g_v (v_assign rfl) rfl ?_
      refine g_nil ?_
      refine g_block ?_
      refine g_loop (α := Nat × SI × List Pt × Gh) (fun z => z.1 ≤ L.length ∧ z.2.2.1 = L.drop z.1 ∧ Con z.2.1 z.2.2.1 n z.2.2.2) (fun z => U [(4, ptr q 0), (7, ptr q4 0), (8, I z.1)]) (fun z => vlt q4 z.2.1 z.2.2.1 n :: vlt q S L n :: tabs :: acts s l f :: F) (fun z => L.length - z.1) (0, S, L, G) ⟨by simp, rfl, hC⟩ [4, 7, 8] rfl rfl ?_
      rintro ⟨i, T, R, G1⟩ ⟨hi, hR, hC1⟩
      simp only [] at hi hR hC1 ⊢
      refine g_seq ?_
      refine g_seq ?_
      refine g_openV q S L n ?_
      intro x0 y0 z0
      refine g_reg ?_
      refine g_v (v_move rfl) rfl ?_
      refine g_v (v_move rfl) rfl ?_
      refine g_v (v_nilCheck rfl) rfl ?_
      refine g_v (v_fieldAddr 1 Tryz.underlying47 rfl rfl Tryz.sizeOf45 (by decide) rfl) rfl ?_
      refine g_v (v_load (v := sl y0 L.length z0) Tryz.isAgg45 rfl rfl) rfl ?_
      refine g_v (v_len Tryz.underlying45 rfl) rfl ?_
      refine g_v (v_lss rfl rfl) rfl ?_
      refine g_nil ?_
      refine g_cond rfl (fun h43 => ?_) (fun h43 => ?_)
      · simp at h43
        have hin : i < L.length := by omega
        obtain ⟨p, hp⟩ : ∃ p, L[i]? = some p := ⟨_, List.getElem?_eq_getElem hin⟩
        obtain ⟨G2, T1, hd, hC2⟩ := drp_ids hC1 (hR.trans (drop_get hp))
        refine g_skip ?_
        refine g_seq ?_
        refine g_block ?_
        refine g_seq ?_
        refine g_reg ?_
        refine g_v (v_move rfl) rfl ?_
        refine g_v (v_move rfl) rfl ?_
        refine g_v (v_nilCheck rfl) rfl ?_
        refine g_v (v_fieldAddr 1 Tryz.underlying47 rfl rfl Tryz.sizeOf45 (by decide) rfl) rfl ?_
        refine g_v (v_load (v := sl y0 L.length z0) Tryz.isAgg45 rfl rfl) rfl ?_
        refine g_v (v_move rfl) rfl ?_
        refine g_v (v_idxS i Tryz.underlying45 Tryz.sizeOf55 rfl rfl rfl hin (by rw [ptR_len]; exact hin)) rfl ?_
        refine g_v (v_fieldAdrS (j := i) 0 Tryz.underlying55 rfl rfl Tryz.sizeOf3 (by decide) rfl (by rw [ptR_len]; exact hin)) rfl ?_
        refine g_v (v_loadS (v := I p.id) Tryz.isAgg3 rfl (ptR_at hp) rfl) rfl ?_
        refine g_l (l_call (Pre := [vlt q4 T R n]) Tryz.call20 rfl (ct_vault_Vault_Drop q4 T R n p.id G1 hC1.v)) rfl ?_
        rintro v L' hv
        unfold vR1 at hv
        rw [hd] at hv
        obtain ⟨rfl, rfl⟩ := hv
        refine g_v (v_ineq (T := 89) (f := 0) Tryz.underlying29 rfl) rfl ?_
        refine g_nil ?_
        refine g_cond rfl (fun h56 => ?_) (fun h56 => ?_)
        · simp at h56
        · skip
          refine g_skip ?_
          refine g_blk ?_
          refine g_reg ?_
          refine g_v (v_move rfl) rfl ?_
          refine g_v (v_add rfl rfl (w64 (by omega))) rfl ?_
          refine g_v (v_assign rfl) rfl ?_
          refine g_nil ?_
          refine g_shutV q x0 y0 z0 S L n ?_
          exact g_again (i + 1, T1, L.drop (i + 1), G2) ⟨by simp only []; omega, rfl, hC2⟩ (by simp only []; omega) [4, 7, 8] rfl rfl
      · simp at h43
        have hnil : R = [] := hR.trans (List.drop_eq_nil_of_le (by omega))
        subst hnil
        obtain ⟨hN0, hB0⟩ := con_none hC1
        refine g_exit rfl ?_
        refine g_seq ?_
        refine g_openV q4 T [] n ?_
        intro x1 y1 z1
        refine g_reg ?_
        refine g_v (v_move rfl) rfl ?_
        refine g_v (v_nilCheck rfl) rfl ?_
        refine g_v (v_fieldAddr 1 Tryz.underlying47 rfl rfl Tryz.sizeOf45 (by decide) rfl) rfl ?_
        refine g_v (v_load (v := sl y1 0 z1) Tryz.isAgg45 rfl rfl) rfl ?_
        refine g_v (v_len Tryz.underlying45 rfl) rfl ?_
        refine g_v (v_eql rfl rfl) rfl ?_
        refine g_v (v_move rfl) rfl ?_
        refine g_gv1 rfl rfl rfl (v_move rfl) rfl ?_
        refine g_gv1 rfl rfl rfl (v_nilCheck rfl) rfl ?_
        refine g_gv1 rfl rfl rfl (v_fieldAddr 0 Tryz.underlying47 rfl rfl Tryz.sizeOf44 (by decide) rfl) rfl ?_
        refine g_gv1 rfl rfl rfl (v_load (v := ptr x1 0) Tryz.isAgg44 rfl rfl) rfl ?_
        refine g_gl rfl rfl rfl (l_call (Pre := [ixl x1 T]) Tryz.call19 rfl (ct_index_Numbers x1 T)) rfl ?_
        rintro _ _ ⟨s68, c68, rfl, rfl⟩
        rw [hN0]
        refine g_openX x1 T ?_
        intro p1 r1
        refine g_gv1 rfl rfl rfl (v_len Tryz.underlying39 rfl) rfl ?_
        refine g_gv1 rfl rfl rfl (v_eql rfl rfl) rfl ?_
        refine g_v (v_pk1 rfl rfl rfl) rfl ?_
        refine g_v (v_move rfl) rfl ?_
        refine g_gv1 rfl rfl rfl (v_move rfl) rfl ?_
        refine g_gv1 rfl rfl rfl (v_nilCheck rfl) rfl ?_
        refine g_gv1 rfl rfl rfl (v_fieldAddr 0 Tryz.underlying47 rfl rfl Tryz.sizeOf44 (by decide) rfl) rfl ?_
        refine g_gv1 rfl rfl rfl (v_load (v := ptr x1 0) Tryz.isAgg44 rfl rfl) rfl ?_
        refine g_gv1 rfl rfl rfl (v_nilCheck rfl) rfl ?_
        refine g_gv1 rfl rfl rfl (v_fieldAddr 0 Tryz.underlying43 rfl rfl Tryz.sizeOf40 (by decide) rfl) rfl ?_
        refine g_gv1 rfl rfl rfl (v_load (v := ptr p1 0) Tryz.isAgg40 rfl rfl) rfl ?_
        refine g_gl rfl rfl rfl (l_call (Pre := [plb p1 T.B]) Tryz.call18 rfl (ct_pool_Numbers p1 T.B)) rfl ?_
        rintro _ _ ⟨s80, c80, rfl, rfl⟩
        rw [hB0]
        refine g_gv1 rfl rfl rfl (v_len Tryz.underlying39 rfl) rfl ?_
        refine g_gv1 rfl rfl rfl (v_eql rfl rfl) rfl ?_
        refine g_v (v_pk1 rfl rfl rfl) rfl ?_
        refine g_v (v_assign rfl) rfl ?_
        refine g_nil ?_
        exact g_ret1 rfl rfl (by show Bo _ = Bo true; first | rfl | simp)

end Go.Proofs.YthdjckbjjfiopacGreatDoor
