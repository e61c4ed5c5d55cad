/- Walks through package vault: Ingest, Again, Drop, Read, Eldest, Copy. No condition. -/
import Derived.Test.YthdjckbjjfiopacGreatDoorVa
namespace Go.Proofs.YthdjckbjjfiopacGreatDoor
open Go.Sl Go.Proofs
set_option linter.unusedVariables false
set_option linter.unusedSimpArgs false
theorem ct_vault_Vault_Ingest (b : Nat) (S : SI) (L : List Pt) (n : Int) (base disk size : Int) (puts : List PutM) (sp : Option Addr) (cp : Nat) (G0 : Gh) (hV : Vok S L n G0) (hpl : puts.length ≤ 1000000) (hpd : ∀ p ∈ puts, p.data.length ≤ 9223372036854775807) (F : List HProp) : Ct Tryz.prog 42 [ptr b 0, I base, I disk, I size, sl sp puts.length cp] ([vlt b S L n, roL 2 sp (putR puts)] ++ F) (vR vlt (errT 89) b (roL 2 sp (putR puts) :: F) (ingF S L n base disk size puts)) := by
  show Ct Tryz.prog 42 [ptr b 0, I base, I disk, I size, sl sp puts.length cp] (vlt b S L n :: roL 2 sp (putR puts) :: F) _
  have hok := Vok_ok hV
  have hll := hV.len
  have hn1 := hV.n1
  have hrl : (L.map (·.root)).length ≤ 8 := by simp; omega
  refine Ct.of Tryz.func42 rfl 102 Tryz.ntmps42 (by simp) fun w0 => ?_
  refine g_seq ?_
  refine g_reg ?_
  refine g_v (v_assign rfl) rfl ?_
  refine g_v (v_assign rfl) rfl ?_
  refine g_nil ?_
  refine g_seq ?_
  refine g_seq ?_
  refine g_reg ?_
  refine g_v (v_move rfl) rfl ?_
  refine g_v (v_lss rfl rfl) rfl ?_
  refine g_v (v_move rfl) rfl ?_
  refine g_gv rfl rfl (fun hg => v_move rfl) rfl rfl ?_
  refine g_gv rfl rfl (fun hg => v_gtr rfl rfl) rfl rfl ?_
  refine g_v (v_or rfl rfl) rfl ?_
  refine g_v (v_move rfl) rfl ?_
  refine g_gv rfl rfl (fun hg => v_move rfl) rfl rfl ?_
  refine g_gv rfl rfl (fun hg => v_lss rfl rfl) rfl rfl ?_
  refine g_v (v_or rfl rfl) rfl ?_
  refine g_v (v_move rfl) rfl ?_
  refine g_gv rfl rfl (fun hg => v_move rfl) rfl rfl ?_
  refine g_gv rfl rfl (fun hg => v_gtr rfl rfl) rfl rfl ?_
  refine g_v (v_or rfl rfl) rfl ?_
  refine g_nil ?_
  refine g_cond rfl (fun h31 => ?_) (fun h31 => ?_)
  · simp at h31
    have hbd : disk < 1 ∨ 999 < disk ∨ size < 1 ∨ 16 < size := by omega
    refine g_seq ?_
    refine g_reg ?_
    refine g_v (v_iface Tryz.underlying89 rfl rfl) rfl ?_
    refine g_v (v_assign rfl) rfl ?_
    refine g_v (v_assign rfl) rfl ?_
    refine g_nil ?_
    exact g_nones rfl (by unfold ingF; rw [if_pos hbd]) rfl rfl
  · simp at h31
    have hbd : ¬ (disk < 1 ∨ 999 < disk ∨ size < 1 ∨ 16 < size) := by omega
    refine g_skip ?_
    refine g_seq ?_
    refine g_reg ?_
    refine g_v (v_move rfl) rfl ?_
    refine g_v (v_move rfl) rfl ?_
    refine g_v (v_move rfl) rfl ?_
    refine g_v (v_move rfl) rfl ?_
    refine g_l (l_call (Pre := [vlt b S L n]) Tryz.call76 rfl (ct_vault_Vault_base b S L n base disk size G0 hV (by omega))) rfl ?_
    rintro v L' hv
    unfold vR baseV at hv
    rcases hb : baseF S L base disk size with e0 | ⟨z1, z2⟩ <;> rw [hb] at hv <;> obtain ⟨rfl, rfl⟩ := hv
    · have he0 := baseF_err hb
      refine g_v (v_move rfl) rfl ?_
      refine g_v (v_extract (v := I 0) rfl rfl) rfl ?_
      refine g_v (v_extract (v := errT 89 e0) rfl rfl) rfl ?_
      refine g_v (v_assign rfl) rfl ?_
      refine g_v (v_assign rfl) rfl ?_
      refine g_nil ?_
      refine g_seq ?_
      refine g_seq ?_
      refine g_reg ?_
      refine g_v (v_move rfl) rfl ?_
      refine g_v (v_ineq Tryz.underlying29 rfl) rfl ?_
      refine g_nil ?_
      refine g_cond rfl (fun h42 => ?_) (fun h42 => ?_)
      · skip
        refine g_seq ?_
        refine g_reg ?_
        refine g_v (v_move rfl) rfl ?_
        refine g_v (v_assign rfl) rfl ?_
        refine g_v (v_assign rfl) rfl ?_
        refine g_nil ?_
        exact g_nones rfl (by unfold ingF; rw [if_neg hbd, hb]) rfl rfl
      · simp at h42
        omega
    · obtain ⟨G2, hz, hR2, _, _⟩ := baseF_ok hV (by omega) hb
      simp only at hz hR2
      subst hz
      refine g_openV b (mkG G2) L n ?_
      intro x s c
      refine g_v (v_move rfl) rfl ?_
      refine g_v (v_extract (v := I z2) rfl rfl) rfl ?_
      refine g_v (v_extract (v := errT 89 0) rfl rfl) rfl ?_
      refine g_v (v_assign rfl) rfl ?_
      refine g_v (v_assign rfl) rfl ?_
      refine g_nil ?_
      refine g_seq ?_
      refine g_seq ?_
      refine g_reg ?_
      refine g_v (v_move rfl) rfl ?_
      refine g_v (v_ineq Tryz.underlying29 rfl) rfl ?_
      refine g_nil ?_
      refine g_cond rfl (fun h42 => ?_) (fun h42 => ?_)
      · simp at h42
      · skip
        refine g_skip ?_
        refine g_seq ?_
        refine g_seq ?_
        refine g_reg ?_
        refine g_v (v_move rfl) rfl ?_
        refine g_v (v_len Tryz.underlying82 rfl) rfl ?_
        refine g_v (v_move rfl) rfl ?_
        refine g_nil ?_
        refine g_block ?_
        refine g_loop (α := Nat × Gh × Int) (fun z => z.1 ≤ puts.length ∧ Rt z.2.1 (z.2.2 :: L.map (·.root)) ∧ putsF size (mkG z.2.1, z.2.2) (puts.drop z.1) = putsF size (mkG G2, z2) puts) (fun z => U [(0, ptr b 0), (2, I disk), (3, I size), (12, I z.2.2), (44, sl sp puts.length cp), (45, I puts.length), (46, I z.1)]) (fun z => pt b (.cells #[ptr x 0, sl s (L).length c, I (n)] 47 (0, 0)) :: ixl x (mkG z.2.1) :: owL 55 4 s c (ptR (L)) :: roL 2 sp (putR puts) :: F) (fun z => puts.length - z.1) (0, G2, z2) ⟨by simp, hR2, by simp⟩ [0, 2, 3, 12, 44, 45, 46] rfl rfl ?_
        rintro ⟨k, G, root⟩ ⟨hk, hR, hput⟩
        simp only [] at hk hR hput ⊢
        have hokG := RtOk hR (m := 200) (by simp; omega)
        refine g_seq ?_
        refine g_reg ?_
        refine g_v (v_lss rfl rfl) rfl ?_
        refine g_nil ?_
        refine g_seq ?_
        refine g_cond rfl (fun h47 => ?_) (fun h47 => ?_)
        · simp at h47
          have hkn : k < puts.length := by omega
          obtain ⟨p, hp⟩ : ∃ p, puts[k]? = some p := ⟨_, List.getElem?_eq_getElem hkn⟩
          have hpd1 := hpd p (List.mem_of_getElem? hp)
          refine g_skip ?_
          refine g_seq ?_
          refine g_block ?_
          refine g_seq ?_
          refine g_reg ?_
          refine g_v (v_idxS k Tryz.underlying82 Tryz.sizeOf81 rfl rfl rfl hkn (by rw [putR_len]; exact hkn)) rfl ?_
          refine g_v (v_loadAS (row := encP p) Tryz.isAgg81 Tryz.sizeOf81 rfl (putR_at hp) rfl) rfl ?_
          refine g_l (l_alloc #[I 0, Str []] Tryz.zeroValue81) rfl ?_
          rintro _ _ ⟨b15, rfl, rfl⟩
          refine g_l0 (l_storeA (cs := #[I 0, Str []]) (vs := encP p) (encP p).toArray Tryz.sizeOf81 rfl rfl rfl rfl (by simp [encP]) (splice_whole rfl)) ?_
          rintro _ _ rfl
          refine g_nil ?_
          refine g_seq ?_
          refine g_seq ?_
          refine g_reg ?_
          refine g_v (v_fieldAddr 0 Tryz.underlying81 rfl rfl Tryz.sizeOf3 (by decide) rfl) rfl ?_
          refine g_v (v_load (v := I p.at_) Tryz.isAgg3 rfl rfl) rfl ?_
          refine g_v (v_lss rfl rfl) rfl ?_
          refine g_v (v_move rfl) rfl ?_
          refine g_gv rfl rfl (fun hg => v_fieldAddr 0 Tryz.underlying81 rfl rfl Tryz.sizeOf3 (by decide) rfl) rfl rfl ?_
          refine g_gv rfl rfl (fun hg => v_load (v := I p.at_) Tryz.isAgg3 rfl rfl) rfl rfl ?_
          refine g_gv rfl rfl (fun hg => v_move rfl) rfl rfl ?_
          refine g_gv rfl rfl (fun hg => v_geq rfl rfl) rfl rfl ?_
          refine g_v (v_or rfl rfl) rfl ?_
          refine g_nil ?_
          refine g_cond rfl (fun h58 => ?_) (fun h58 => ?_)
          · simp at h58
            refine g_seq ?_
            refine g_reg ?_
            refine g_v (v_iface Tryz.underlying89 rfl rfl) rfl ?_
            refine g_v (v_assign rfl) rfl ?_
            refine g_v (v_assign rfl) rfl ?_
            refine g_nil ?_
            exact g_nones rfl (by
              unfold ingF
              rw [if_neg hbd, hb]
              simp only
              rw [← hput, drop_cons hp]
              simp only [putsF]
              rw [if_pos (by omega)]) rfl rfl
          · simp at h58
            have han : (p.at_.toNat : Int) = p.at_ := by omega
            refine g_skip ?_
            refine g_seq ?_
            refine g_seq ?_
            refine g_draw (Lf := [pt b (.cells #[ptr x 0, sl s (L).length c, I (n)] 47 (0, 0)), pt b15 (.cells (encP p).toArray 81 (0, 0))]) [(0, false), (1, false), (2, false), (3, false), (4, false), (5, false), (6, false), (8, false), (9, false), (7, true), (10, false)] (by kernel_rfl) (by kernel_rfl) rfl (by kernel_rfl) ?_
            refine d_v rfl (v_move rfl) rfl ?_
            refine d_v rfl (v_nilCheck rfl) rfl ?_
            refine d_v rfl (v_fieldAddr 0 Tryz.underlying47 rfl rfl Tryz.sizeOf44 (by decide) rfl) rfl ?_
            refine d_v rfl (v_load (v := ptr x 0) Tryz.isAgg44 rfl rfl) rfl ?_
            refine d_v rfl (v_move rfl) rfl ?_
            refine d_v rfl (v_fieldAddr 0 Tryz.underlying81 rfl rfl Tryz.sizeOf3 (by decide) rfl) rfl ?_
            refine d_v rfl (v_load (v := I (p.at_.toNat : Int)) Tryz.isAgg3 rfl (by rw [han]; rfl)) rfl ?_
            refine d_v rfl (v_fieldAddr 1 Tryz.underlying81 rfl rfl Tryz.sizeOf9 (by decide) rfl) rfl ?_
            refine d_v rfl (v_load (v := Str p.data) Tryz.isAgg9 rfl rfl) rfl ?_
            refine d_l rfl (l_call (Pre := [ixl x (mkG G)]) Tryz.call68 rfl (ct_index_Index_Get x (mkG G) root p.at_.toNat 200 hokG (by decide) (by omega))) rfl ?_
            rintro _ _ ⟨rfl, rfl⟩
            refine d_v rfl (v_seql rfl rfl) rfl ?_
            refine d_nil ?_
            refine g_cond rfl (fun h70 => ?_) (fun h70 => ?_)
            · simp at h70
              refine g_exit rfl ?_
              refine g_reg ?_
              refine g_v (v_add rfl rfl (w64 (by omega))) rfl ?_
              refine g_v (v_move rfl) rfl ?_
              refine g_nil ?_
              exact g_again (k + 1, G, root) ⟨by simp only []; omega, hR, by
                rw [← hput, drop_cons hp]
                simp only [putsF]
                rw [if_neg (by omega), if_pos h70]⟩ (by simp only []; omega) [0, 2, 3, 12, 44, 45, 46] rfl rfl
            · simp at h70
              refine g_skip ?_
              refine g_seq ?_
              refine g_draw (Lf := [pt b (.cells #[ptr x 0, sl s (L).length c, I (n)] 47 (0, 0)), pt b15 (.cells (encP p).toArray 81 (0, 0))]) [(0, false), (1, false), (2, false), (3, false), (4, false), (5, false), (6, false), (7, false), (8, false), (9, true), (10, false), (11, false), (12, false), (13, false), (14, false)] (by kernel_rfl) (by kernel_rfl) rfl (by kernel_rfl) ?_
              refine d_v rfl (v_move rfl) rfl ?_
              refine d_v rfl (v_nilCheck rfl) rfl ?_
              refine d_v rfl (v_fieldAddr 0 Tryz.underlying47 rfl rfl Tryz.sizeOf44 (by decide) rfl) rfl ?_
              refine d_v rfl (v_load (v := ptr x 0) Tryz.isAgg44 rfl rfl) rfl ?_
              refine d_v rfl (v_move rfl) rfl ?_
              refine d_v rfl (v_fieldAddr 0 Tryz.underlying81 rfl rfl Tryz.sizeOf3 (by decide) rfl) rfl ?_
              refine d_v rfl (v_load (v := I (p.at_.toNat : Int)) Tryz.isAgg3 rfl (by rw [han]; rfl)) rfl ?_
              refine d_v rfl (v_fieldAddr 1 Tryz.underlying81 rfl rfl Tryz.sizeOf9 (by decide) rfl) rfl ?_
              refine d_v rfl (v_load (v := Str p.data) Tryz.isAgg9 rfl rfl) rfl ?_
              refine d_l rfl (l_call (Pre := [ixl x (mkG G)]) Tryz.call77 rfl (ct_index_Index_Set x (mkG G) root p.at_.toNat p.data 200 hokG (by decide) (by omega) hpd1 (rt_kidr hR.V (RtRt hR (by simp))))) rfl ?_
              rintro _ _ ⟨rfl, rfl⟩
              refine d_v rfl (v_move rfl) rfl ?_
              refine d_v rfl (v_extract (v := I (setE (mkG G) root p.at_.toNat p.data).1) rfl rfl) rfl ?_
              refine d_v rfl (v_extract (v := errT 89 (setE (mkG G) root p.at_.toNat p.data).2) rfl rfl) rfl ?_
              refine d_v rfl (v_assign rfl) rfl ?_
              refine d_v rfl (v_assign rfl) rfl ?_
              refine d_nil ?_
              refine g_seq ?_
              refine g_seq ?_
              refine g_reg ?_
              refine g_v (v_move rfl) rfl ?_
              refine g_v (v_ineq Tryz.underlying29 rfl) rfl ?_
              refine g_nil ?_
              refine g_cond rfl (fun h85 => ?_) (fun h85 => ?_)
              · simp at h85
                refine g_seq ?_
                refine g_reg ?_
                refine g_v (v_move rfl) rfl ?_
                refine g_v (v_assign rfl) rfl ?_
                refine g_v (v_assign rfl) rfl ?_
                refine g_nil ?_
                exact g_nones rfl (by
                  unfold ingF
                  rw [if_neg hbd, hb]
                  simp only
                  rw [← hput, drop_cons hp]
                  simp only [putsF, put1]
                  rw [if_neg (by omega), if_neg h70, if_neg h85]) rfl rfl
              · simp at h85
                obtain ⟨G1, G3, hu1, o1, r1, v1, hu2, hR3, _, _⟩ := put1_ok hR hrl (by omega) h85
                rw [hu1]
                refine g_skip ?_
                refine g_seq ?_
                refine g_reg ?_
                refine g_v (v_move rfl) rfl ?_
                refine g_v (v_nilCheck rfl) rfl ?_
                refine g_v (v_fieldAddr 0 Tryz.underlying47 rfl rfl Tryz.sizeOf44 (by decide) rfl) rfl ?_
                refine g_v (v_load (v := ptr x 0) Tryz.isAgg44 rfl rfl) rfl ?_
                refine g_v (v_move rfl) rfl ?_
                refine g_l (l_call (Pre := [ixl x (mkG G1)]) Tryz.call50 rfl (ct_index_Index_Free x (mkG G1) root 200 o1 (by decide))) rfl ?_
                rintro _ _ ⟨rfl, rfl⟩
                rw [hu2]
                refine g_nil ?_
                refine g_reg ?_
                refine g_v (v_move rfl) rfl ?_
                refine g_v (v_assign rfl) rfl ?_
                refine g_nil ?_
                refine g_blk ?_
                refine g_reg ?_
                refine g_v (v_add rfl rfl (w64 (by omega))) rfl ?_
                refine g_v (v_move rfl) rfl ?_
                refine g_nil ?_
                exact g_again (k + 1, G3, (setE (mkG G) root p.at_.toNat p.data).1) ⟨by simp only []; omega, hR3, by
                  rw [← hput, drop_cons hp]
                  simp only [putsF, put1]
                  rw [if_neg (by omega), if_neg h70, if_pos h85, hu1, hu2]⟩ (by simp only []; omega) [0, 2, 3, 12, 44, 45, 46] rfl rfl
        · simp at h47
          obtain rfl : k = puts.length := by omega
          rw [List.drop_length] at hput
          refine g_exit rfl ?_
          refine g_seq ?_
          refine g_shutV b x s c (mkG G) (L) (n) ?_
          refine g_reg ?_
          refine g_v (v_move rfl) rfl ?_
          refine g_v (v_move rfl) rfl ?_
          refine g_v (v_move rfl) rfl ?_
          refine g_v (v_move rfl) rfl ?_
          refine g_l (l_call (Pre := [vlt b (mkG G) L n]) Tryz.call46 rfl (ct_vault_Vault_add b (mkG G) L n disk size root (by omega) (by omega))) rfl ?_
          rintro _ _ ⟨rfl, rfl⟩
          refine g_v (v_extract (v := I (addI L n)) rfl rfl) rfl ?_
          refine g_v (v_extract (v := errT 89 (addE L n)) rfl rfl) rfl ?_
          refine g_v (v_assign rfl) rfl ?_
          refine g_v (v_assign rfl) rfl ?_
          refine g_nil ?_
          by_cases ha : addE L n = 0
          · rw [show addI L n = n by unfold addI; rw [if_pos ha], show addL L n disk size root = L ++ [⟨n, disk, size, root⟩] by unfold addL; rw [if_pos ha], show addN L n = n + 1 by unfold addN; rw [if_pos ha], ha]
            exact g_somes (S := mkG G) (P := L ++ [⟨n, disk, size, root⟩]) (n := n + 1) rfl (by
              unfold ingF
              rw [if_neg hbd, hb]
              simp only
              rw [← hput]
              simp only [putsF]
              rw [if_neg (by omega)]) rfl rfl
          · rw [show addI L n = 0 by unfold addI; rw [if_neg ha]]
            exact g_nones rfl (by
              unfold ingF
              rw [if_neg hbd, hb]
              simp only
              rw [← hput]
              simp only [putsF]
              rw [if_pos ha]) rfl rfl

theorem ct_vault_Vault_Again (b : Nat) (S : SI) (L : List Pt) (n : Int) (id : Int) (G0 : Gh) (hV : Vok S L n G0) (F : List HProp) : Ct Tryz.prog 13 [ptr b 0, I id] ([vlt b S L n] ++ F) (vR vlt (errT 89) b F (agnF S L n id)) := by
  show Ct Tryz.prog 13 [ptr b 0, I id] (vlt b S L n :: F) _
  have hok := Vok_ok hV
  have hll := hV.len
  have hn1 := hV.n1
  refine Ct.of Tryz.func13 rfl 41 Tryz.ntmps13 (by simp) fun w0 => ?_
  refine g_seq ?_
  refine g_reg ?_
  refine g_v (v_assign rfl) rfl ?_
  refine g_v (v_assign rfl) rfl ?_
  refine g_nil ?_
  refine g_seq ?_
  refine g_reg ?_
  refine g_v (v_move rfl) rfl ?_
  refine g_v (v_move rfl) rfl ?_
  refine g_l (l_call (Pre := [vlt b S L n]) Tryz.call33 rfl (ct_vault_Vault_Find b S L n id (by omega))) rfl ?_
  rintro _ _ ⟨rfl, rfl⟩
  refine g_v (v_move rfl) rfl ?_
  refine g_v (v_extract (v := .agg (encPt ((findP L id).getD pt0)).toArray) rfl rfl) rfl ?_
  refine g_v (v_extract (v := Bo (findP L id).isSome) rfl rfl) rfl ?_
  refine g_l (l_alloc #[I 0, I 0, I 0, I 0] Tryz.zeroValue55) rfl ?_
  rintro _ _ ⟨b6, rfl, rfl⟩
  refine g_l0 (l_storeA (cs := #[I 0, I 0, I 0, I 0]) (vs := encPt (((findP L id).getD pt0))) (encPt (((findP L id).getD pt0))).toArray Tryz.sizeOf55 rfl rfl rfl rfl (by simp) (splice_whole rfl)) ?_
  rintro _ _ rfl
  refine g_v (v_assign rfl) rfl ?_
  refine g_nil ?_
  refine g_seq ?_
  refine g_seq ?_
  refine g_reg ?_
  refine g_v (v_move rfl) rfl ?_
  refine g_v (v_not rfl) rfl ?_
  refine g_nil ?_
  refine g_cond rfl (fun h17 => ?_) (fun h17 => ?_)
  · simp at h17
    refine g_seq ?_
    refine g_reg ?_
    refine g_v (v_iface Tryz.underlying89 rfl rfl) rfl ?_
    refine g_v (v_assign rfl) rfl ?_
    refine g_v (v_assign rfl) rfl ?_
    refine g_nil ?_
    exact g_nones rfl (by unfold agnF; rw [h17]) rfl rfl
  · simp at h17
    obtain ⟨p, hf⟩ := Option.isSome_iff_exists.1 h17
    have hpm := findP_some hf
    have hps := hV.pts p hpm.1
    rw [show (findP L id).getD pt0 = p by rw [hf]; rfl]
    refine g_skip ?_
    refine g_seq ?_
    refine g_reg ?_
    refine g_v (v_move rfl) rfl ?_
    refine g_v (v_fieldAddr 1 Tryz.underlying55 rfl rfl Tryz.sizeOf3 (by decide) rfl) rfl ?_
    refine g_v (v_load (v := I p.disk) Tryz.isAgg3 rfl rfl) rfl ?_
    refine g_v (v_fieldAddr 2 Tryz.underlying55 rfl rfl Tryz.sizeOf3 (by decide) rfl) rfl ?_
    refine g_v (v_load (v := I p.size) Tryz.isAgg3 rfl rfl) rfl ?_
    refine g_v (v_fieldAddr 3 Tryz.underlying55 rfl rfl Tryz.sizeOf3 (by decide) rfl) rfl ?_
    refine g_v (v_load (v := I p.root) Tryz.isAgg3 rfl rfl) rfl ?_
    refine g_l (l_call (Pre := [vlt b S L n]) Tryz.call46 rfl (ct_vault_Vault_add b S L n p.disk p.size p.root (by omega) (by omega))) rfl ?_
    rintro _ _ ⟨rfl, rfl⟩
    refine g_v (v_move rfl) rfl ?_
    refine g_v (v_extract (v := I (addI L n)) rfl rfl) rfl ?_
    refine g_v (v_extract (v := errT 89 (addE L n)) rfl rfl) rfl ?_
    refine g_v (v_assign rfl) rfl ?_
    refine g_v (v_assign rfl) rfl ?_
    refine g_nil ?_
    refine g_seq ?_
    refine g_seq ?_
    refine g_reg ?_
    refine g_v (v_move rfl) rfl ?_
    refine g_v (v_ieql Tryz.underlying29 rfl) rfl ?_
    refine g_nil ?_
    refine g_cond rfl (fun h31 => ?_) (fun h31 => ?_)
    · simp at h31
      rw [show addI L n = n by unfold addI; rw [if_pos h31], show addL L n p.disk p.size p.root = L ++ [(⟨n, p.disk, p.size, p.root⟩ : Pt)] by unfold addL; rw [if_pos h31], show addN L n = n + 1 by unfold addN; rw [if_pos h31], h31]
      refine g_openV b S (L ++ [(⟨n, p.disk, p.size, p.root⟩ : Pt)]) (n + 1) ?_
      intro x s c
      refine g_draw (Lf := [pt b (.cells #[ptr x 0, sl s (L ++ [(⟨n, p.disk, p.size, p.root⟩ : Pt)]).length c, I (n + 1)] 47 (0, 0)), pt b6 (.cells (encPt (p)).toArray 55 (0, 0))]) [(0, false), (1, false), (2, false), (3, false), (4, false), (5, false), (6, true)] (by kernel_rfl) (by kernel_rfl) rfl (by kernel_rfl) ?_
      refine d_v rfl (v_move rfl) rfl ?_
      refine d_v rfl (v_nilCheck rfl) rfl ?_
      refine d_v rfl (v_fieldAddr 0 Tryz.underlying47 rfl rfl Tryz.sizeOf44 (by decide) rfl) rfl ?_
      refine d_v rfl (v_load (v := ptr x 0) Tryz.isAgg44 rfl rfl) rfl ?_
      refine d_v rfl (v_fieldAddr 3 Tryz.underlying55 rfl rfl Tryz.sizeOf3 (by decide) rfl) rfl ?_
      refine d_v rfl (v_load (v := I p.root) Tryz.isAgg3 rfl rfl) rfl ?_
      refine d_l rfl (l_call (Pre := [ixl x S]) Tryz.call47 rfl (ct_index_Index_Share x S p.root 200 hok (by decide) (rt_rng hV.rt.V (RtRt hV.rt (findP_mem hf))).2)) rfl ?_
      rintro _ _ ⟨rfl, rfl⟩
      refine d_nil ?_
      refine g_seq ?_
      refine g_reg ?_
      refine g_v (v_move rfl) rfl ?_
      refine g_v (v_move rfl) rfl ?_
      refine g_v (v_assign rfl) rfl ?_
      refine g_v (v_assign rfl) rfl ?_
      refine g_nil ?_
      refine g_shutV b x s c (shareS S p.root) (L ++ [(⟨n, p.disk, p.size, p.root⟩ : Pt)]) (n + 1) ?_
      exact g_somes (S := shareS S p.root) (P := L ++ [(⟨n, p.disk, p.size, p.root⟩ : Pt)]) (n := n + 1) rfl (by unfold agnF; rw [hf]; simp only; rw [if_neg (by omega)]) rfl rfl
    · simp at h31
      rw [show addI L n = 0 by unfold addI; rw [if_neg h31]]
      refine g_skip ?_
      refine g_seq ?_
      refine g_reg ?_
      refine g_v (v_move rfl) rfl ?_
      refine g_v (v_move rfl) rfl ?_
      refine g_v (v_assign rfl) rfl ?_
      refine g_v (v_assign rfl) rfl ?_
      refine g_nil ?_
      exact g_nones rfl (by unfold agnF; rw [hf]; simp only; rw [if_pos h31]) rfl rfl

theorem ct_DeleteFunc_pt (L : List Pt) (s : Option Addr) (c q : Nat) (id : Int) (hl : L.length ≤ 1000000) (F : List HProp) : Ct Tryz.prog 51 [sl s L.length c, .func (.func 52) #[] #[ptr q 0]] ([owL 55 4 s c (ptR (L)), pt q (.cells #[I id] 3 (0, 0))] ++ F) (R1 (sl s (L.filter fun x => !decide (x.id = id)).length c) (owL 55 4 s c (ptR ((L.filter fun x => !decide (x.id = id)))) :: pt q (.cells #[I id] 3 (0, 0)) :: F)) := by
  show Ct Tryz.prog 51 [sl s L.length c, .func (.func 52) #[] #[ptr q 0]] (owL 55 4 s c (ptR (L)) :: pt q (.cells #[I id] 3 (0, 0)) :: F) _
  refine Ct.of Tryz.func51 rfl 42 Tryz.ntmps51 (by simp) fun w0 => ?_
  refine g_cap s (fun hcap => ?_)
  rw [ptR_len] at hcap
  refine g_seq ?_
  refine g_reg ?_
  refine g_v (v_assign rfl) rfl ?_
  refine g_nil ?_
  refine g_seq ?_
  refine g_reg ?_
  refine g_v (v_move rfl) rfl ?_
  refine g_v (v_move rfl) rfl ?_
  refine g_l (l_call (Pre := [owL 55 4 s c (ptR (L)), pt q (.cells #[I id] 3 (0, 0))]) Tryz.call69 rfl (ct_IndexFunc_ptDrop L s c q id hl)) rfl ?_
  rintro _ _ ⟨rfl, rfl⟩
  refine g_v (v_assign rfl) rfl ?_
  refine g_nil ?_
  refine g_seq ?_
  refine g_seq ?_
  refine g_reg ?_
  refine g_v (v_move rfl) rfl ?_
  refine g_v (v_eql rfl rfl) rfl ?_
  refine g_nil ?_
  refine g_cond rfl (fun h12 => ?_) (fun h12 => ?_)
  · simp at h12
    rw [show (L.filter fun x => !decide (x.id = id)) = L from filter_none (ptI_neg (by omega))]
    refine g_seq ?_
    refine g_reg ?_
    refine g_v (v_move rfl) rfl ?_
    refine g_v (v_assign rfl) rfl ?_
    refine g_nil ?_
    exact g_ret1 rfl rfl rfl
  · simp at h12
    obtain ⟨i, p, hi, hp, hid, hil, hf, hno⟩ := ptI_pos (l := L) (id := id) (fun h => h12 (ptI_neg1 h))
    rw [hi]
    refine g_skip ?_
    refine g_seq ?_
    refine g_seq ?_
    refine g_reg ?_
    refine g_v (v_move rfl) rfl ?_
    refine g_v (v_add rfl rfl (w64 (by omega))) rfl ?_
    refine g_v (v_assign rfl) rfl ?_
    refine g_nil ?_
    rw [show ((i : Nat) : Int) + 1 = ((i + 1 : Nat) : Int) by omega]
    refine g_block ?_
    refine g_loop (α := Nat × Nat × List Pt) (fun z => Dl L z.2.2 id z.2.1 z.1 ∧ z.2.1 < z.1) (fun z => U [(0, sl s L.length c), (1, .func (.func 52) #[] #[ptr q 0]), (5, I z.2.1), (6, I z.1)]) (fun z => owL 55 4 s c (ptR z.2.2) :: pt q (.cells #[I id] 3 (0, 0)) :: F) (fun z => L.length - z.1) (i + 1, i, L) ⟨Dl_start hno hp hid, by simp only []; omega⟩ [0, 1, 5, 6] rfl rfl ?_
    rintro ⟨j, w, R⟩ ⟨hD, hwj⟩
    simp only [] at hD hwj ⊢
    have hjl0 := hD.lj
    refine g_seq ?_
    refine g_seq ?_
    refine g_reg ?_
    refine g_v (v_move rfl) rfl ?_
    refine g_v (v_move rfl) rfl ?_
    refine g_v (v_len Tryz.underlying45 rfl) rfl ?_
    refine g_v (v_lss rfl rfl) rfl ?_
    refine g_nil ?_
    refine g_cond rfl (fun h19 => ?_) (fun h19 => ?_)
    · simp at h19
      have hjl : j < L.length := by omega
      have hwl : w < L.length := by omega
      obtain ⟨x, hx⟩ : ∃ x, R[j]? = some x := ⟨_, List.getElem?_eq_getElem (by rw [hD.len]; exact hjl)⟩
      refine g_skip ?_
      refine g_seq ?_
      refine g_block ?_
      refine g_seq ?_
      refine g_reg ?_
      refine g_v (v_move rfl) rfl ?_
      refine g_v (v_move rfl) rfl ?_
      refine g_v (v_idxS (j) Tryz.underlying45 Tryz.sizeOf55 rfl rfl rfl hjl (by rw [ptR_len, hD.len]; exact hjl)) rfl ?_
      refine g_v (v_loadAS (row := encPt x) Tryz.isAgg55 Tryz.sizeOf55 rfl (ptR_at hx) rfl) rfl ?_
      refine g_l (l_alloc #[I 0, I 0, I 0, I 0] Tryz.zeroValue55) rfl ?_
      rintro _ _ ⟨b7, rfl, rfl⟩
      refine g_l0 (l_storeA (cs := #[I 0, I 0, I 0, I 0]) (vs := encPt (x)) (encPt (x)).toArray Tryz.sizeOf55 rfl rfl rfl rfl (by simp) (splice_whole rfl)) ?_
      rintro _ _ rfl
      refine g_nil ?_
      refine g_seq ?_
      refine g_reg ?_
      refine g_v (v_move rfl) rfl ?_
      refine g_v (v_loadA (vs := encPt x) Tryz.isAgg55 Tryz.sizeOf55 rfl rfl arr_ld) rfl ?_
      refine g_l (l_callV (fi := []) (cap := [ptr q 0]) (Pre := [pt q (.cells #[I id] 3 (0, 0))]) Tryz.call52 rfl rfl (ct_vault_Drop1 x q id)) rfl ?_
      rintro _ _ ⟨rfl, rfl⟩
      refine g_v (v_not rfl) rfl ?_
      refine g_nil ?_
      refine g_cond rfl (fun h29 => ?_) (fun h29 => ?_)
      · simp at h29
        refine g_seq ?_
        refine g_reg ?_
        refine g_v (v_move rfl) rfl ?_
        refine g_v (v_move rfl) rfl ?_
        refine g_v (v_loadA (vs := encPt x) Tryz.isAgg55 Tryz.sizeOf55 rfl rfl arr_ld) rfl ?_
        refine g_v (v_idxS (w) Tryz.underlying45 Tryz.sizeOf55 rfl rfl rfl hwl (by rw [ptR_len, hD.len]; exact hwl)) rfl ?_
        refine g_l0 (l_storeAS (j := w) (vs := encPt x) Tryz.sizeOf55 rfl rfl rfl rfl (by rw [ptR_len, hD.len]; omega) (by decide)) ?_
        rintro _ _ rfl
        rw [ptR_set]
        refine g_nil ?_
        refine g_reg ?_
        refine g_v (v_move rfl) rfl ?_
        refine g_v (v_add rfl rfl (w64 (by omega))) rfl ?_
        refine g_v (v_assign rfl) rfl ?_
        refine g_nil ?_
        refine g_blk ?_
        refine g_reg ?_
        refine g_v (v_move rfl) rfl ?_
        refine g_v (v_add rfl rfl (w64 (by omega))) rfl ?_
        refine g_v (v_assign rfl) rfl ?_
        refine g_nil ?_
        exact g_again (j + 1, w + 1, R.set w x) ⟨Dl_keep hD hwj hx h29, by simp only []; omega⟩ (by simp only []; omega) [0, 1, 5, 6] rfl rfl
      · simp at h29
        refine g_skip ?_
        refine g_blk ?_
        refine g_reg ?_
        refine g_v (v_move rfl) rfl ?_
        refine g_v (v_add rfl rfl (w64 (by omega))) rfl ?_
        refine g_v (v_assign rfl) rfl ?_
        refine g_nil ?_
        exact g_again (j + 1, w, R) ⟨Dl_skip hD hx h29, by simp only []; omega⟩ (by simp only []; omega) [0, 1, 5, 6] rfl rfl
    · simp at h19
      obtain rfl : j = L.length := by omega
      refine g_exit rfl ?_
      refine g_seq ?_
      refine g_ownTake s w ?_
      rw [ptR_take, Dl_end hD]
      have hfl : (L.filter fun x => !decide (x.id = id)).length = w := by rw [← Dl_end hD, List.length_take]; have := hD.len; omega
      refine g_reg ?_
      refine g_v (v_move rfl) rfl ?_
      refine g_v (v_move rfl) rfl ?_
      refine g_v (v_slLo (l := w) Tryz.underlying45 Tryz.sizeOf55 rfl rfl rfl (by omega)) rfl ?_
      refine g_l0 (l_clearTail (sz := 4) (l := w) s Tryz.underlying45 Tryz.zeroValue55 rfl rfl rfl (by unfold At; split; exact .inr (.inr (by omega)); exact .inr (.inl rfl)) (by rw [ptR_len]; omega) (by omega)) ?_
      rintro _ _ ⟨rfl, rfl⟩
      refine g_nil ?_
      refine g_seq ?_
      refine g_reg ?_
      refine g_v (v_move rfl) rfl ?_
      refine g_v (v_move rfl) rfl ?_
      refine g_v (v_slHi (h := w) Tryz.underlying45 Tryz.sizeOf55 rfl rfl rfl (by omega)) rfl ?_
      refine g_v (v_assign rfl) rfl ?_
      refine g_nil ?_
      exact g_ret1 rfl rfl (by rw [hfl]; rfl)

theorem ct_vault_Vault_Drop (b : Nat) (S : SI) (L : List Pt) (n : Int) (id : Int) (G0 : Gh) (hV : Vok S L n G0) (F : List HProp) : Ct Tryz.prog 20 [ptr b 0, I id] ([vlt b S L n] ++ F) (vR1 vlt (errT 89) b F (drpF S L n id)) := by
  show Ct Tryz.prog 20 [ptr b 0, I id] (vlt b S L n :: F) _
  have hok := Vok_ok hV
  have hll := hV.len
  have hn1 := hV.n1
  refine Ct.of Tryz.func20 rfl 33 Tryz.ntmps20 (by simp) fun w0 => ?_
  refine g_seq ?_
  refine g_reg ?_
  refine g_l (l_box #[I id] rfl rfl) rfl ?_
  rintro _ _ ⟨b3, rfl, rfl⟩
  refine g_v (v_assign rfl) rfl ?_
  refine g_nil ?_
  refine g_seq ?_
  refine g_reg ?_
  refine g_v (v_move rfl) rfl ?_
  refine g_v (v_load (v := I id) Tryz.isAgg3 rfl rfl) rfl ?_
  refine g_l (l_call (Pre := [vlt b S L n]) Tryz.call33 rfl (ct_vault_Vault_Find b S L n id (by omega))) rfl ?_
  rintro _ _ ⟨rfl, rfl⟩
  refine g_v (v_move rfl) rfl ?_
  refine g_v (v_extract (v := .agg (encPt ((findP L id).getD pt0)).toArray) rfl rfl) rfl ?_
  refine g_v (v_extract (v := Bo (findP L id).isSome) rfl rfl) rfl ?_
  refine g_l (l_alloc #[I 0, I 0, I 0, I 0] Tryz.zeroValue55) rfl ?_
  rintro _ _ ⟨b5, rfl, rfl⟩
  refine g_l0 (l_storeA (cs := #[I 0, I 0, I 0, I 0]) (vs := encPt (((findP L id).getD pt0))) (encPt (((findP L id).getD pt0))).toArray Tryz.sizeOf55 rfl rfl rfl rfl (by simp) (splice_whole rfl)) ?_
  rintro _ _ rfl
  refine g_v (v_assign rfl) rfl ?_
  refine g_nil ?_
  refine g_seq ?_
  refine g_seq ?_
  refine g_reg ?_
  refine g_v (v_move rfl) rfl ?_
  refine g_v (v_not rfl) rfl ?_
  refine g_nil ?_
  refine g_cond rfl (fun h14 => ?_) (fun h14 => ?_)
  · simp at h14
    refine g_seq ?_
    refine g_reg ?_
    refine g_v (v_iface Tryz.underlying89 rfl rfl) rfl ?_
    refine g_v (v_assign rfl) rfl ?_
    refine g_nil ?_
    exact g_nones1 rfl (by unfold drpF; rw [h14]) rfl rfl
  · simp at h14
    obtain ⟨p, hf⟩ := Option.isSome_iff_exists.1 h14
    have hpm := findP_some hf
    have hps := hV.pts p hpm.1
    rw [show (findP L id).getD pt0 = p by rw [hf]; rfl]
    refine g_skip ?_
    refine g_seq ?_
    refine g_openV b S L n ?_
    intro x s c
    refine g_draw (Lf := [pt b (.cells #[ptr x 0, sl s (L).length c, I (n)] 47 (0, 0)), pt b5 (.cells (encPt (p)).toArray 55 (0, 0))]) [(0, false), (1, false), (2, false), (3, false), (4, false), (5, false), (6, true)] (by kernel_rfl) (by kernel_rfl) rfl (by kernel_rfl) ?_
    refine d_v rfl (v_move rfl) rfl ?_
    refine d_v rfl (v_nilCheck rfl) rfl ?_
    refine d_v rfl (v_fieldAddr 0 Tryz.underlying47 rfl rfl Tryz.sizeOf44 (by decide) rfl) rfl ?_
    refine d_v rfl (v_load (v := ptr x 0) Tryz.isAgg44 rfl rfl) rfl ?_
    refine d_v rfl (v_fieldAddr 3 Tryz.underlying55 rfl rfl Tryz.sizeOf3 (by decide) rfl) rfl ?_
    refine d_v rfl (v_load (v := I p.root) Tryz.isAgg3 rfl rfl) rfl ?_
    refine d_l rfl (l_call (Pre := [ixl x S]) Tryz.call50 rfl (ct_index_Index_Free x S p.root 200 hok (by decide))) rfl ?_
    rintro _ _ ⟨rfl, rfl⟩
    refine d_nil ?_
    refine g_seq ?_
    refine g_reg ?_
    refine g_v (v_move rfl) rfl ?_
    refine g_v (v_move rfl) rfl ?_
    refine g_v (v_nilCheck rfl) rfl ?_
    refine g_v (v_fieldAddr 1 Tryz.underlying47 rfl rfl Tryz.sizeOf45 (by decide) rfl) rfl ?_
    refine g_v (v_load (v := sl s (L).length c) Tryz.isAgg45 rfl rfl) rfl ?_
    refine g_l (l_call (Pre := [owL 55 4 s c (ptR (L))]) Tryz.call45 rfl (ct_Clone_pt L s c (by omega))) rfl ?_
    rintro _ _ ⟨s28, c28, rfl, rfl⟩
    refine g_v (v_makeFunc rfl rfl) rfl ?_
    refine g_l (l_call (Pre := [owL 55 4 s28 c28 (ptR (L)), pt b3 (.cells #[I id] 3 (0, 0))]) Tryz.call51 rfl (ct_DeleteFunc_pt L s28 c28 b3 id (by omega))) rfl ?_
    rintro _ _ ⟨rfl, rfl⟩
    refine g_v (v_nilCheck rfl) rfl ?_
    refine g_v (v_fieldAddr 1 Tryz.underlying47 rfl rfl Tryz.sizeOf45 (by decide) rfl) rfl ?_
    refine g_l0 (l_store #[ptr x 0, sl s28 (L.filter fun x => !decide (x.id = id)).length c28, I n] Tryz.sizeOf45 rfl rfl rfl (by simp) rfl) ?_
    rintro _ _ rfl
    refine g_nil ?_
    refine g_seq ?_
    refine g_reg ?_
    refine g_v (v_assign rfl) rfl ?_
    refine g_nil ?_
    refine g_shutV b x s28 c28 (unR S p.root) ((L.filter fun x => !decide (x.id = id))) (n) ?_
    exact g_somes1 (S := unR S p.root) (P := (L.filter fun x => !decide (x.id = id))) (n := n) (r := 0) rfl (by unfold drpF; rw [hf]) rfl rfl

theorem ct_vault_Vault_Read (b : Nat) (S : SI) (L : List Pt) (n : Int) (id at_ : Int) (G0 : Gh) (hV : Vok S L n G0) (F : List HProp) : Ct Tryz.prog 32 [ptr b 0, I id, I at_] ([vlt b S L n] ++ F) (R1 (.tuple #[Str (rdE S L id at_).1, errT 89 (rdE S L id at_).2]) (vlt b S L n :: F)) := by
  show Ct Tryz.prog 32 [ptr b 0, I id, I at_] (vlt b S L n :: F) _
  have hok := Vok_ok hV
  have hll := hV.len
  refine Ct.of Tryz.func32 rfl 36 Tryz.ntmps32 (by simp) fun w0 => ?_
  refine g_seq ?_
  refine g_reg ?_
  refine g_v (v_assign rfl) rfl ?_
  refine g_v (v_assign rfl) rfl ?_
  refine g_nil ?_
  refine g_seq ?_
  refine g_reg ?_
  refine g_v (v_move rfl) rfl ?_
  refine g_v (v_move rfl) rfl ?_
  refine g_l (l_call (Pre := [vlt b S L n]) Tryz.call33 rfl (ct_vault_Vault_Find b S L n id (by omega))) rfl ?_
  rintro _ _ ⟨rfl, rfl⟩
  refine g_v (v_move rfl) rfl ?_
  refine g_v (v_extract (v := .agg (encPt ((findP L id).getD pt0)).toArray) rfl rfl) rfl ?_
  refine g_v (v_extract (v := Bo (findP L id).isSome) rfl rfl) rfl ?_
  refine g_l (l_alloc #[I 0, I 0, I 0, I 0] Tryz.zeroValue55) rfl ?_
  rintro _ _ ⟨b8, rfl, rfl⟩
  refine g_l0 (l_storeA (cs := #[I 0, I 0, I 0, I 0]) (vs := encPt (((findP L id).getD pt0))) (encPt (((findP L id).getD pt0))).toArray Tryz.sizeOf55 rfl rfl rfl rfl (by simp) (splice_whole rfl)) ?_
  rintro _ _ rfl
  refine g_v (v_assign rfl) rfl ?_
  refine g_nil ?_
  refine g_seq ?_
  refine g_seq ?_
  refine g_reg ?_
  refine g_v (v_move rfl) rfl ?_
  refine g_v (v_not rfl) rfl ?_
  refine g_nil ?_
  refine g_cond rfl (fun h17 => ?_) (fun h17 => ?_)
  · simp at h17
    refine g_seq ?_
    refine g_reg ?_
    refine g_v (v_iface Tryz.underlying89 rfl rfl) rfl ?_
    refine g_v (v_assign rfl) rfl ?_
    refine g_v (v_assign rfl) rfl ?_
    refine g_nil ?_
    rw [show rdE S L id at_ = ([], 5) by unfold rdE; rw [h17]]
    exact g_ret1 rfl rfl rfl
  · simp at h17
    obtain ⟨p, hf⟩ := Option.isSome_iff_exists.1 h17
    have hpm := findP_some hf
    have hps := hV.pts p hpm.1
    rw [show (findP L id).getD pt0 = p by rw [hf]; rfl]
    refine g_skip ?_
    refine g_seq ?_
    refine g_seq ?_
    refine g_reg ?_
    refine g_v (v_move rfl) rfl ?_
    refine g_v (v_lss rfl rfl) rfl ?_
    refine g_v (v_move rfl) rfl ?_
    refine g_gv rfl rfl (fun hg => v_move rfl) rfl rfl ?_
    refine g_gv rfl rfl (fun hg => v_fieldAddr 2 Tryz.underlying55 rfl rfl Tryz.sizeOf3 (by decide) rfl) rfl rfl ?_
    refine g_gv rfl rfl (fun hg => v_load (v := I p.size) Tryz.isAgg3 rfl rfl) rfl rfl ?_
    refine g_gv rfl rfl (fun hg => v_geq rfl rfl) rfl rfl ?_
    refine g_v (v_or rfl rfl) rfl ?_
    refine g_nil ?_
    refine g_cond rfl (fun h26 => ?_) (fun h26 => ?_)
    · simp at h26
      refine g_seq ?_
      refine g_reg ?_
      refine g_v (v_iface Tryz.underlying89 rfl rfl) rfl ?_
      refine g_v (v_assign rfl) rfl ?_
      refine g_v (v_assign rfl) rfl ?_
      refine g_nil ?_
      rw [show rdE S L id at_ = ([], 1) by unfold rdE; rw [hf]; simp only; rw [if_pos (by omega)]]
      exact g_ret1 rfl rfl rfl
    · simp at h26
      obtain ⟨a, rfl⟩ : ∃ a : Nat, at_ = a := ⟨at_.toNat, by omega⟩
      refine g_skip ?_
      refine g_seq ?_
      refine g_openV b S L n ?_
      intro x s c
      refine g_draw (Lf := [pt b (.cells #[ptr x 0, sl s (L).length c, I (n)] 47 (0, 0)), pt b8 (.cells (encPt (p)).toArray 55 (0, 0))]) [(0, false), (1, false), (2, false), (3, false), (4, false), (5, false), (6, false), (7, true), (8, false), (9, false)] (by kernel_rfl) (by kernel_rfl) rfl (by kernel_rfl) ?_
      refine d_v rfl (v_move rfl) rfl ?_
      refine d_v rfl (v_nilCheck rfl) rfl ?_
      refine d_v rfl (v_fieldAddr 0 Tryz.underlying47 rfl rfl Tryz.sizeOf44 (by decide) rfl) rfl ?_
      refine d_v rfl (v_load (v := ptr x 0) Tryz.isAgg44 rfl rfl) rfl ?_
      refine d_v rfl (v_fieldAddr 3 Tryz.underlying55 rfl rfl Tryz.sizeOf3 (by decide) rfl) rfl ?_
      refine d_v rfl (v_load (v := I p.root) Tryz.isAgg3 rfl rfl) rfl ?_
      refine d_v rfl (v_move rfl) rfl ?_
      refine d_l rfl (l_call (Pre := [ixl x S]) Tryz.call68 rfl (ct_index_Index_Get x S p.root a 200 hok (by decide) (by omega))) rfl ?_
      rintro _ _ ⟨rfl, rfl⟩
      refine d_v rfl (v_assign rfl) rfl ?_
      refine d_v rfl (v_assign rfl) rfl ?_
      refine d_nil ?_
      rw [show rdE S L id a = (getS S p.root a, 0) by unfold rdE; rw [hf]; simp only; rw [if_neg (by omega)]; rfl]
      refine g_shutV b x s c (S) (L) (n) ?_
      exact g_ret1 rfl rfl rfl

theorem ct_vault_Vault_Copy (b : Nat) (S : SI) (L : List Pt) (n : Int) (hl : L.length ≤ 1000000) (F : List HProp) : Ct Tryz.prog 12 [ptr b 0] ([vlt b S L n] ++ F) (fun v L' => ∃ q, v = ptr q 0 ∧ L' = vlt q S L n :: vlt b S L n :: F) := by
  show Ct Tryz.prog 12 [ptr b 0] (vlt b S L n :: F) _
  refine Ct.of Tryz.func12 rfl 19 Tryz.ntmps12 (by simp) fun w0 => ?_
  refine g_openV b S L n ?_
  intro x s c
  refine g_seq ?_
  refine g_reg ?_
  refine g_v (v_assign rfl) rfl ?_
  refine g_nil ?_
  refine g_seq ?_
  refine g_draw (Lf := [pt b (.cells #[ptr x 0, sl s (L).length c, I (n)] 47 (0, 0))]) [(0, false), (1, false), (2, false), (3, false), (5, false), (6, false), (7, false), (8, false), (10, false), (11, false), (12, false), (13, false), (4, true), (9, true), (14, false), (15, true), (16, false)] (by kernel_rfl) (by kernel_rfl) rfl (by kernel_rfl) ?_
  refine d_v rfl (v_move rfl) rfl ?_
  refine d_v rfl (v_nilCheck rfl) rfl ?_
  refine d_v rfl (v_fieldAddr 0 Tryz.underlying47 rfl rfl Tryz.sizeOf44 (by decide) rfl) rfl ?_
  refine d_v rfl (v_load (v := ptr x 0) Tryz.isAgg44 rfl rfl) rfl ?_
  refine d_v rfl (v_move rfl) rfl ?_
  refine d_v rfl (v_nilCheck rfl) rfl ?_
  refine d_v rfl (v_fieldAddr 1 Tryz.underlying47 rfl rfl Tryz.sizeOf45 (by decide) rfl) rfl ?_
  refine d_v rfl (v_load (v := sl s (L).length c) Tryz.isAgg45 rfl rfl) rfl ?_
  refine d_v rfl (v_move rfl) rfl ?_
  refine d_v rfl (v_nilCheck rfl) rfl ?_
  refine d_v rfl (v_fieldAddr 2 Tryz.underlying47 rfl rfl Tryz.sizeOf3 (by decide) rfl) rfl ?_
  refine d_v rfl (v_load (v := I n) Tryz.isAgg3 rfl rfl) rfl ?_
  refine d_l rfl (l_call (Pre := [ixl x S]) Tryz.call44 rfl (ct_index_Index_Copy x S)) rfl ?_
  rintro _ _ ⟨q7, rfl, rfl⟩
  refine d_l rfl (l_call (Pre := [owL 55 4 s c (ptR (L))]) Tryz.call45 rfl (ct_Clone_pt L s c hl)) rfl ?_
  rintro _ _ ⟨s12, c12, rfl, rfl⟩
  refine d_v rfl (v_build rfl (bldV3 q7 s12 L.length c12 n)) rfl ?_
  refine d_l rfl (l_box #[ptr q7 0, sl s12 L.length c12, I n] rfl rfl) rfl ?_
  rintro _ _ ⟨b18, rfl, rfl⟩
  refine d_v rfl (v_assign rfl) rfl ?_
  refine d_nil ?_
  refine g_shutV b18 q7 s12 c12 S L n ?_
  refine g_shutV b x s c (S) (L) (n) ?_
  refine g_sub (L2 := vlt b18 S L n :: vlt b S L n :: F) ?_
  exact fun a w hE hS => wp_ret (kq_ret (res_fpost (vs := [ptr b18 0]) rfl hE hS ⟨b18, rfl, rfl⟩))

end Go.Proofs.YthdjckbjjfiopacGreatDoor
