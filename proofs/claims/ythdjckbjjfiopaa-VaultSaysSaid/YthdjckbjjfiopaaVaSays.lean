/- The walk through the law VaultSays. No condition. -/
import Derived.Test.YthdjckbjjfiopaaRVa2
import Derived.Test.YthdjckbjjfiopaaAsIx
import Derived.Test.YthdjckbjjfiopaaTopVa
namespace Go.Proofs.Ythdjckbjjfiopaa
open Go.Sl Go.Proofs
set_option linter.unusedVariables false
set_option linter.unusedSimpArgs false
theorem rdE_nn (S : SI) (L : List Pt) (id at_ : Int) : 0 ≤ (rdE S L id at_).2 := by
  unfold rdE
  split
  · simp
  · split <;> simp
theorem eldF_len (L : List Pt) (disk keep : Int) : (eldF L disk keep).length ≤ L.length := by
  unfold eldF
  rw [List.length_take, List.length_map]
  exact Nat.le_trans (Nat.min_le_right _ _) (List.length_filter_le _ _)
theorem drpF_r {S : SI} {L : List Pt} {n id : Int} {S' : SI} {L' : List Pt} {n' r : Int} (h : drpF S L n id = .ok (S', L', n', r)) : r = 0 := by
  unfold drpF at h
  split at h
  · cases h
  · injection h with h; injection h with _ h; injection h with _ h; injection h with _ h; exact h.symm
theorem fillF_err {S : SI} {L : List Pt} {n : Int} {x : ActM} {e : Int} (h : fillF S L n x = .error e) : 0 < e := by
  unfold fillF at h
  split at h
  · exact ingF_err h
  · split at h
    · exact agnF_err h
    · split at h
      · exact drpF_err h
      · cases h

theorem ct_L_kept (b : Nat) (S : SI) (L : List Pt) (n : Int) (x : ActM) (z : ActZ) (G0 : Gh) (hV : Vok S L n G0) (hpl : x.puts.length ≤ 1000000) (hpd : ∀ p ∈ x.puts, p.data.length ≤ 1000000) (F : List HProp) : Ct Try.prog 114 [ptr b 0, .agg (encAct x z).toArray] ([vlt b S L n, roL 2 z.1.1 (putR x.puts)] ++ F) (vR vlt (errT 172) b (roL 2 z.1.1 (putR x.puts) :: F) (fillF S L n x)) := by
  show Ct Try.prog 114 [ptr b 0, .agg (encAct x z).toArray] (vlt b S L n :: roL 2 z.1.1 (putR x.puts) :: F) _
  have hll := hV.len
  refine Ct.of Try.func114 rfl 36 Try.ntmps114 (by simp) fun w0 => ?_
  refine g_seq ?_
  refine g_reg ?_
  refine g_l (l_box (encAct x z).toArray rfl rfl) rfl ?_
  rintro _ _ ⟨b3, rfl, rfl⟩
  refine g_v (v_assign rfl) rfl ?_
  refine g_v (v_assign rfl) rfl ?_
  refine g_nil ?_
  refine g_seq ?_
  refine g_seq ?_
  refine g_reg ?_
  refine g_v (v_fieldAddr 0 Try.underlying52 rfl rfl Try.sizeOf9 (by decide) rfl) rfl ?_
  refine g_v (v_load (v := Str x.kind) Try.isAgg9 rfl rfl) rfl ?_
  refine g_nil ?_
  refine g_block ?_
  refine g_seq ?_
  refine g_reg ?_
  refine g_v (v_seql rfl rfl) rfl ?_
  refine g_v (v_assign rfl) rfl ?_
  refine g_nil ?_
  refine g_cond rfl (fun h8 => ?_) (fun h8 => ?_)
  · have hk1 : x.kind = kIng := by simpa [kIng] using h8
    refine g_seq ?_
    refine g_reg ?_
    refine g_v (v_move rfl) rfl ?_
    refine g_v (v_fieldAddr 2 Try.underlying52 rfl rfl Try.sizeOf3 (by decide) rfl) rfl ?_
    refine g_v (v_load (v := I x.a) Try.isAgg3 rfl rfl) rfl ?_
    refine g_v (v_fieldAddr 3 Try.underlying52 rfl rfl Try.sizeOf3 (by decide) rfl) rfl ?_
    refine g_v (v_load (v := I x.b) Try.isAgg3 rfl rfl) rfl ?_
    refine g_v (v_fieldAddr 4 Try.underlying52 rfl rfl Try.sizeOf3 (by decide) rfl) rfl ?_
    refine g_v (v_load (v := I x.c) Try.isAgg3 rfl rfl) rfl ?_
    refine g_v (v_fieldAddr 7 Try.underlying52 rfl rfl Try.sizeOf49 (by decide) rfl) rfl ?_
    refine g_v (v_load (v := sl z.1.1 x.puts.length z.1.2) Try.isAgg49 rfl rfl) rfl ?_
    refine g_l (l_call (Pre := [vlt b S L n, roL 2 z.1.1 (putR x.puts)]) Try.call172 rfl (ct_vault_Vault_Ingest b S L n x.a x.b x.c x.puts z.1.1 z.1.2 G0 hV hpl hpd)) rfl ?_
    rintro v L' hv
    unfold vR at hv
    rcases hr : ingF S L n x.a x.b x.c x.puts with e0 | ⟨S1, L1, n1, r1⟩ <;> rw [hr] at hv <;> obtain ⟨rfl, rfl⟩ := hv
    · skip
      refine g_v (v_extract (v := I 0) rfl rfl) rfl ?_
      refine g_v (v_extract (v := errT 172 e0) rfl rfl) rfl ?_
      refine g_v (v_assign rfl) rfl ?_
      refine g_v (v_assign rfl) rfl ?_
      refine g_nil ?_
      exact g_nones rfl (show fillF S L n x = .error e0 by unfold fillF; rw [if_pos hk1]; exact hr) rfl rfl
    · skip
      refine g_v (v_extract (v := I r1) rfl rfl) rfl ?_
      refine g_v (v_extract (v := errT 172 0) rfl rfl) rfl ?_
      refine g_v (v_assign rfl) rfl ?_
      refine g_v (v_assign rfl) rfl ?_
      refine g_nil ?_
      exact g_somes rfl (show fillF S L n x = .ok (S1, L1, n1, r1) by unfold fillF; rw [if_pos hk1]; exact hr) rfl rfl
  · have hk1 : ¬ x.kind = kIng := by simpa [kIng] using h8
    refine g_seq ?_
    refine g_reg ?_
    refine g_v (v_seql rfl rfl) rfl ?_
    refine g_v (v_assign rfl) rfl ?_
    refine g_nil ?_
    refine g_cond rfl (fun h22 => ?_) (fun h22 => ?_)
    · have hk2 : x.kind = kAgn := by simpa [kAgn] using h22
      refine g_seq ?_
      refine g_reg ?_
      refine g_v (v_move rfl) rfl ?_
      refine g_v (v_fieldAddr 2 Try.underlying52 rfl rfl Try.sizeOf3 (by decide) rfl) rfl ?_
      refine g_v (v_load (v := I x.a) Try.isAgg3 rfl rfl) rfl ?_
      refine g_l (l_call (Pre := [vlt b S L n]) Try.call174 rfl (ct_vault_Vault_Again b S L n x.a G0 hV)) rfl ?_
      rintro v L' hv
      unfold vR at hv
      rcases hr : agnF S L n x.a with e0 | ⟨S1, L1, n1, r1⟩ <;> rw [hr] at hv <;> obtain ⟨rfl, rfl⟩ := hv
      · skip
        refine g_v (v_extract (v := I 0) rfl rfl) rfl ?_
        refine g_v (v_extract (v := errT 172 e0) rfl rfl) rfl ?_
        refine g_v (v_assign rfl) rfl ?_
        refine g_v (v_assign rfl) rfl ?_
        refine g_nil ?_
        exact g_nones rfl (show fillF S L n x = .error e0 by unfold fillF; rw [if_neg hk1, if_pos hk2]; exact hr) rfl rfl
      · skip
        refine g_v (v_extract (v := I r1) rfl rfl) rfl ?_
        refine g_v (v_extract (v := errT 172 0) rfl rfl) rfl ?_
        refine g_v (v_assign rfl) rfl ?_
        refine g_v (v_assign rfl) rfl ?_
        refine g_nil ?_
        exact g_somes rfl (show fillF S L n x = .ok (S1, L1, n1, r1) by unfold fillF; rw [if_neg hk1, if_pos hk2]; exact hr) rfl rfl
    · have hk2 : ¬ x.kind = kAgn := by simpa [kAgn] using h22
      refine g_seq ?_
      refine g_reg ?_
      refine g_v (v_seql rfl rfl) rfl ?_
      refine g_v (v_assign rfl) rfl ?_
      refine g_nil ?_
      refine g_cond rfl (fun h30 => ?_) (fun h30 => ?_)
      · have hk3 : x.kind = kDrp := by simpa [kDrp] using h30
        refine g_seq ?_
        refine g_reg ?_
        refine g_v (v_move rfl) rfl ?_
        refine g_v (v_fieldAddr 2 Try.underlying52 rfl rfl Try.sizeOf3 (by decide) rfl) rfl ?_
        refine g_v (v_load (v := I x.a) Try.isAgg3 rfl rfl) rfl ?_
        refine g_l (l_call (Pre := [vlt b S L n]) Try.call175 rfl (ct_vault_Vault_Drop b S L n x.a G0 hV)) rfl ?_
        rintro v L' hv
        unfold vR1 at hv
        rcases hr : drpF S L n x.a with e0 | ⟨S1, L1, n1, r1⟩ <;> rw [hr] at hv <;> obtain ⟨rfl, rfl⟩ := hv
        · skip
          refine g_v (v_assign rfl) rfl ?_
          refine g_v (v_assign rfl) rfl ?_
          refine g_nil ?_
          exact g_nones rfl (show fillF S L n x = .error e0 by unfold fillF; rw [if_neg hk1, if_neg hk2, if_pos hk3]; exact hr) rfl rfl
        · obtain rfl : r1 = 0 := (drpF_r hr)
          refine g_v (v_assign rfl) rfl ?_
          refine g_v (v_assign rfl) rfl ?_
          refine g_nil ?_
          exact g_somes rfl (show fillF S L n x = .ok (S1, L1, n1, 0) by unfold fillF; rw [if_neg hk1, if_neg hk2, if_pos hk3]; exact hr) rfl rfl
      · have hk3 : ¬ x.kind = kDrp := by simpa [kDrp] using h30
        refine g_skip ?_
        refine g_blk ?_
        refine g_seq ?_
        refine g_reg ?_
        refine g_v (v_assign rfl) rfl ?_
        refine g_v (v_assign rfl) rfl ?_
        refine g_nil ?_
        exact g_somes (r := 0) rfl (by unfold fillF; rw [if_neg hk1, if_neg hk2, if_neg hk3]) rfl rfl

theorem ct_L_keptRef (b : Nat) (S : SI) (L : List Pt) (n : Int) (x : ActM) (z : ActZ) (G0 : Gh) (hV : Vok S L n G0) (hpl : x.puts.length ≤ 1000000) (hpd : ∀ p ∈ x.puts, p.data.length ≤ 1000000) (F : List HProp) : Ct Try.prog 115 [ptr b 0, .agg (encAct x z).toArray] ([rvl b S L n, roL 2 z.1.1 (putR x.puts)] ++ F) (vR rvl (I) b (roL 2 z.1.1 (putR x.puts) :: F) (fillF S L n x)) := by
  show Ct Try.prog 115 [ptr b 0, .agg (encAct x z).toArray] (rvl b S L n :: roL 2 z.1.1 (putR x.puts) :: F) _
  have hll := hV.len
  refine Ct.of Try.func115 rfl 36 Try.ntmps115 (by simp) fun w0 => ?_
  refine g_seq ?_
  refine g_reg ?_
  refine g_l (l_box (encAct x z).toArray rfl rfl) rfl ?_
  rintro _ _ ⟨b3, rfl, rfl⟩
  refine g_v (v_assign rfl) rfl ?_
  refine g_v (v_assign rfl) rfl ?_
  refine g_nil ?_
  refine g_seq ?_
  refine g_seq ?_
  refine g_reg ?_
  refine g_v (v_fieldAddr 0 Try.underlying52 rfl rfl Try.sizeOf9 (by decide) rfl) rfl ?_
  refine g_v (v_load (v := Str x.kind) Try.isAgg9 rfl rfl) rfl ?_
  refine g_nil ?_
  refine g_block ?_
  refine g_seq ?_
  refine g_reg ?_
  refine g_v (v_seql rfl rfl) rfl ?_
  refine g_v (v_assign rfl) rfl ?_
  refine g_nil ?_
  refine g_cond rfl (fun h8 => ?_) (fun h8 => ?_)
  · have hk1 : x.kind = kIng := by simpa [kIng] using h8
    refine g_seq ?_
    refine g_reg ?_
    refine g_v (v_move rfl) rfl ?_
    refine g_v (v_fieldAddr 2 Try.underlying52 rfl rfl Try.sizeOf3 (by decide) rfl) rfl ?_
    refine g_v (v_load (v := I x.a) Try.isAgg3 rfl rfl) rfl ?_
    refine g_v (v_fieldAddr 3 Try.underlying52 rfl rfl Try.sizeOf3 (by decide) rfl) rfl ?_
    refine g_v (v_load (v := I x.b) Try.isAgg3 rfl rfl) rfl ?_
    refine g_v (v_fieldAddr 4 Try.underlying52 rfl rfl Try.sizeOf3 (by decide) rfl) rfl ?_
    refine g_v (v_load (v := I x.c) Try.isAgg3 rfl rfl) rfl ?_
    refine g_v (v_fieldAddr 7 Try.underlying52 rfl rfl Try.sizeOf49 (by decide) rfl) rfl ?_
    refine g_v (v_load (v := sl z.1.1 x.puts.length z.1.2) Try.isAgg49 rfl rfl) rfl ?_
    refine g_l (l_call (Pre := [rvl b S L n, roL 2 z.1.1 (putR x.puts)]) Try.call176 rfl (ct_RV_Ingest b S L n x.a x.b x.c x.puts z.1.1 z.1.2 G0 hV hpl hpd)) rfl ?_
    rintro v L' hv
    unfold vR at hv
    rcases hr : ingF S L n x.a x.b x.c x.puts with e0 | ⟨S1, L1, n1, r1⟩ <;> rw [hr] at hv <;> obtain ⟨rfl, rfl⟩ := hv
    · skip
      refine g_v (v_extract (v := I 0) rfl rfl) rfl ?_
      refine g_v (v_extract (v := I e0) rfl rfl) rfl ?_
      refine g_v (v_assign rfl) rfl ?_
      refine g_v (v_assign rfl) rfl ?_
      refine g_nil ?_
      exact g_nones rfl (show fillF S L n x = .error e0 by unfold fillF; rw [if_pos hk1]; exact hr) rfl rfl
    · skip
      refine g_v (v_extract (v := I r1) rfl rfl) rfl ?_
      refine g_v (v_extract (v := I 0) rfl rfl) rfl ?_
      refine g_v (v_assign rfl) rfl ?_
      refine g_v (v_assign rfl) rfl ?_
      refine g_nil ?_
      exact g_somes rfl (show fillF S L n x = .ok (S1, L1, n1, r1) by unfold fillF; rw [if_pos hk1]; exact hr) rfl rfl
  · have hk1 : ¬ x.kind = kIng := by simpa [kIng] using h8
    refine g_seq ?_
    refine g_reg ?_
    refine g_v (v_seql rfl rfl) rfl ?_
    refine g_v (v_assign rfl) rfl ?_
    refine g_nil ?_
    refine g_cond rfl (fun h22 => ?_) (fun h22 => ?_)
    · have hk2 : x.kind = kAgn := by simpa [kAgn] using h22
      refine g_seq ?_
      refine g_reg ?_
      refine g_v (v_move rfl) rfl ?_
      refine g_v (v_fieldAddr 2 Try.underlying52 rfl rfl Try.sizeOf3 (by decide) rfl) rfl ?_
      refine g_v (v_load (v := I x.a) Try.isAgg3 rfl rfl) rfl ?_
      refine g_l (l_call (Pre := [rvl b S L n]) Try.call177 rfl (ct_RV_Again b S L n x.a G0 hV)) rfl ?_
      rintro v L' hv
      unfold vR at hv
      rcases hr : agnF S L n x.a with e0 | ⟨S1, L1, n1, r1⟩ <;> rw [hr] at hv <;> obtain ⟨rfl, rfl⟩ := hv
      · skip
        refine g_v (v_extract (v := I 0) rfl rfl) rfl ?_
        refine g_v (v_extract (v := I e0) rfl rfl) rfl ?_
        refine g_v (v_assign rfl) rfl ?_
        refine g_v (v_assign rfl) rfl ?_
        refine g_nil ?_
        exact g_nones rfl (show fillF S L n x = .error e0 by unfold fillF; rw [if_neg hk1, if_pos hk2]; exact hr) rfl rfl
      · skip
        refine g_v (v_extract (v := I r1) rfl rfl) rfl ?_
        refine g_v (v_extract (v := I 0) rfl rfl) rfl ?_
        refine g_v (v_assign rfl) rfl ?_
        refine g_v (v_assign rfl) rfl ?_
        refine g_nil ?_
        exact g_somes rfl (show fillF S L n x = .ok (S1, L1, n1, r1) by unfold fillF; rw [if_neg hk1, if_pos hk2]; exact hr) rfl rfl
    · have hk2 : ¬ x.kind = kAgn := by simpa [kAgn] using h22
      refine g_seq ?_
      refine g_reg ?_
      refine g_v (v_seql rfl rfl) rfl ?_
      refine g_v (v_assign rfl) rfl ?_
      refine g_nil ?_
      refine g_cond rfl (fun h30 => ?_) (fun h30 => ?_)
      · have hk3 : x.kind = kDrp := by simpa [kDrp] using h30
        refine g_seq ?_
        refine g_reg ?_
        refine g_v (v_move rfl) rfl ?_
        refine g_v (v_fieldAddr 2 Try.underlying52 rfl rfl Try.sizeOf3 (by decide) rfl) rfl ?_
        refine g_v (v_load (v := I x.a) Try.isAgg3 rfl rfl) rfl ?_
        refine g_l (l_call (Pre := [rvl b S L n]) Try.call178 rfl (ct_RV_Drop b S L n x.a G0 hV)) rfl ?_
        rintro v L' hv
        unfold vR1 at hv
        rcases hr : drpF S L n x.a with e0 | ⟨S1, L1, n1, r1⟩ <;> rw [hr] at hv <;> obtain ⟨rfl, rfl⟩ := hv
        · skip
          refine g_v (v_assign rfl) rfl ?_
          refine g_v (v_assign rfl) rfl ?_
          refine g_nil ?_
          exact g_nones rfl (show fillF S L n x = .error e0 by unfold fillF; rw [if_neg hk1, if_neg hk2, if_pos hk3]; exact hr) rfl rfl
        · obtain rfl : r1 = 0 := (drpF_r hr)
          refine g_v (v_assign rfl) rfl ?_
          refine g_v (v_assign rfl) rfl ?_
          refine g_nil ?_
          exact g_somes rfl (show fillF S L n x = .ok (S1, L1, n1, 0) by unfold fillF; rw [if_neg hk1, if_neg hk2, if_pos hk3]; exact hr) rfl rfl
      · have hk3 : ¬ x.kind = kDrp := by simpa [kDrp] using h30
        refine g_skip ?_
        refine g_blk ?_
        refine g_seq ?_
        refine g_reg ?_
        refine g_v (v_assign rfl) rfl ?_
        refine g_v (v_assign rfl) rfl ?_
        refine g_nil ?_
        exact g_somes (r := 0) rfl (by unfold fillF; rw [if_neg hk1, if_neg hk2, if_neg hk3]) rfl rfl

theorem ct_L_asVault (b b2 : Nat) (S : SI) (L : List Pt) (n : Int) (G0 : Gh) (hV : Vok S L n G0) (F : List HProp) : Ct Try.prog 116 [ptr b 0, ptr b2 0] ([vlt b S L n, rvl b2 S L n] ++ F) (R1 (Bo true) (vlt b S L n :: rvl b2 S L n :: F)) := by
  show Ct Try.prog 116 [ptr b 0, ptr b2 0] (vlt b S L n :: rvl b2 S L n :: F) _
  have hok := Vok_ok hV
  have hll := hV.len
  refine Ct.of Try.func116 rfl 35 Try.ntmps116 (by simp) fun w0 => ?_
  refine g_openV b S L n ?_
  intro x s c
  refine g_openRV b2 S L n ?_
  intro x2 s2 c2
  refine g_seq ?_
  refine g_reg ?_
  refine g_v (v_assign rfl) rfl ?_
  refine g_nil ?_
  refine g_seq ?_
  refine g_seq ?_
  refine g_draw (Lf := [pt b (.cells #[ptr x 0, sl s (L).length c, I (n)] 236 (0, 0)), pt b2 (.cells #[ptr x2 0, sl s2 (L).length c2, I (n)] 238 (0, 0))]) [(0, false), (1, false), (2, false), (3, false), (4, false), (5, false), (6, false), (7, false), (8, true), (9, false), (10, false), (11, false), (12, false), (13, false), (14, false), (15, false), (16, false), (17, false), (18, false), (19, false), (20, false)] (by kernel_rfl) (by kernel_rfl) rfl (by kernel_rfl) ?_
  refine d_v rfl (v_move rfl) rfl ?_
  refine d_v rfl (v_nilCheck rfl) rfl ?_
  refine d_v rfl (v_fieldAddr 0 Try.underlying236 rfl rfl Try.sizeOf139 (by decide) rfl) rfl ?_
  refine d_v rfl (v_load (v := ptr x 0) Try.isAgg139 rfl rfl) rfl ?_
  refine d_v rfl (v_move rfl) rfl ?_
  refine d_v rfl (v_nilCheck rfl) rfl ?_
  refine d_v rfl (v_fieldAddr 0 Try.underlying238 rfl rfl Try.sizeOf120 (by decide) rfl) rfl ?_
  refine d_v rfl (v_load (v := ptr x2 0) Try.isAgg120 rfl rfl) rfl ?_
  refine d_l rfl (l_call (Pre := [ixl x S, ixr x2 (xS S)]) Try.call96 rfl (ct_L_asIndex x x2 S 200 hok (by decide))) rfl ?_
  rintro _ _ ⟨rfl, rfl⟩
  refine d_v rfl (v_not rfl) rfl ?_
  refine d_v rfl (v_move rfl) rfl ?_
  refine d_gv1 rfl rfl rfl (by simp) (v_move rfl) rfl ?_
  refine d_gv1 rfl rfl rfl (by simp) (v_nilCheck rfl) rfl ?_
  refine d_gv1 rfl rfl rfl (by simp) (v_fieldAddr 2 Try.underlying236 rfl rfl Try.sizeOf3 (by decide) rfl) rfl ?_
  refine d_gv1 rfl rfl rfl (by simp) (v_load (v := I n) Try.isAgg3 rfl rfl) rfl ?_
  refine d_gv1 rfl rfl rfl (by simp) (v_move rfl) rfl ?_
  refine d_gv1 rfl rfl rfl (by simp) (v_nilCheck rfl) rfl ?_
  refine d_gv1 rfl rfl rfl (by simp) (v_fieldAddr 2 Try.underlying238 rfl rfl Try.sizeOf3 (by decide) rfl) rfl ?_
  refine d_gv1 rfl rfl rfl (by simp) (v_load (v := I n) Try.isAgg3 rfl rfl) rfl ?_
  refine d_gv1 rfl rfl rfl (by simp) (v_neq rfl rfl) rfl ?_
  refine d_v rfl (v_or rfl rfl) rfl ?_
  refine d_nil ?_
  refine g_cond rfl (fun h25 => ?_) (fun h25 => ?_)
  · simp at h25
  · skip
    refine g_skip ?_
    refine g_seq ?_
    refine g_draw (Lf := [pt b (.cells #[ptr x 0, sl s (L).length c, I (n)] 236 (0, 0)), pt b2 (.cells #[ptr x2 0, sl s2 (L).length c2, I (n)] 238 (0, 0))]) [(0, false), (1, false), (2, false), (3, false), (4, false), (5, false), (6, false), (7, false), (8, true), (9, false)] (by kernel_rfl) (by kernel_rfl) rfl (by kernel_rfl) ?_
    refine d_v rfl (v_move rfl) rfl ?_
    refine d_v rfl (v_nilCheck rfl) rfl ?_
    refine d_v rfl (v_fieldAddr 1 Try.underlying236 rfl rfl Try.sizeOf234 (by decide) rfl) rfl ?_
    refine d_v rfl (v_load (v := sl s (L).length c) Try.isAgg234 rfl rfl) rfl ?_
    refine d_v rfl (v_move rfl) rfl ?_
    refine d_v rfl (v_nilCheck rfl) rfl ?_
    refine d_v rfl (v_fieldAddr 1 Try.underlying238 rfl rfl Try.sizeOf234 (by decide) rfl) rfl ?_
    refine d_v rfl (v_load (v := sl s2 L.length c2) Try.isAgg234 rfl rfl) rfl ?_
    refine d_l rfl (l_call (Pre := [owL 166 4 s c (ptR (L)), owL 166 4 s2 c2 (ptR (L))]) Try.call179 rfl (ct_R_SamePoints L L s s2 c c2 (by omega))) rfl ?_
    rintro _ _ ⟨rfl, rfl⟩
    refine d_v rfl (v_assign rfl) rfl ?_
    refine d_nil ?_
    refine g_shutRV b2 x2 s2 c2 S L n ?_
    refine g_shutV b x s c S L n ?_
    first | exact g_ret1 rfl rfl (by simp [tup]) | exact g_end1 rfl rfl (by simp [tup])

theorem ct_L_vaults  (F : List HProp) : Ct Try.prog 109 [] ([] ++ F) (R1 (Bo true) F) := by
  show Ct Try.prog 109 [] (F) _
  obtain ⟨S, L, n, G, root, hr, hV, hL, hg⟩ := vz
  have hfP : findP L 1 = some ⟨1, 1, 4, root⟩ := by rw [hL]; rfl
  have hrd : rdE S L 1 2 = ([120], 0) := by
    unfold rdE
    rw [hfP]
    simp only
    rw [if_neg (by decide)]
    exact congrArg (fun x => (x, (0 : Int))) hg
  refine Ct.of Try.func109 rfl 34 Try.ntmps109 (by simp) fun w0 => ?_
  refine g_seq ?_
  refine g_reg ?_
  refine g_v (v_assign rfl) rfl ?_
  refine g_nil ?_
  refine g_seq ?_
  refine g_reg ?_
  refine g_l (l_call (Pre := []) Try.call110 rfl (ct_vault_New)) rfl ?_
  rintro _ _ ⟨q, rfl, rfl⟩
  refine g_v (v_assign rfl) rfl ?_
  refine g_nil ?_
  refine g_seq ?_
  refine g_reg ?_
  refine g_v (v_move rfl) rfl ?_
  refine g_v (v_build rfl (bldPut 2 [120])) rfl ?_
  refine g_l (l_buildSlice (putR [⟨2, [120]⟩]) Try.underlying49 Try.sizeOf178 Try.zeroValue178 rfl rfl rfl (by intro r hr; simp [putR] at hr; subst hr; rfl) (by decide) (by decide)) rfl ?_
  rintro _ _ ⟨b10, rfl, rfl⟩
  refine g_freeze (some ⟨b10, 0, none⟩) ?_
  refine g_l (l_call (Pre := [vlt q (mkG gZ) [] 1, roL 2 (some ⟨b10, 0, none⟩) (putR [⟨2, [120]⟩])]) Try.call172 rfl (ct_vault_Vault_Ingest q (mkG gZ) [] 1 0 1 4 [⟨2, [120]⟩] (some ⟨b10, 0, none⟩) 1 gZ Vok_z (by decide) (by intro p hp; simp at hp; subst hp; decide))) rfl ?_
  rintro v L' hv
  unfold vR at hv
  rw [hr] at hv
  obtain ⟨rfl, rfl⟩ := hv
  refine g_v (v_move rfl) rfl ?_
  refine g_v (v_extract (v := I 1) rfl rfl) rfl ?_
  refine g_v (v_extract (v := errV 0) rfl rfl) rfl ?_
  refine g_v (v_assign rfl) rfl ?_
  refine g_v (v_assign rfl) rfl ?_
  refine g_nil ?_
  refine g_seq ?_
  refine g_reg ?_
  refine g_v (v_move rfl) rfl ?_
  refine g_v (v_move rfl) rfl ?_
  refine g_l (l_call (Pre := [vlt q S L n]) Try.call117 rfl (ct_vault_Vault_Read q S L n 1 2 G hV)) rfl ?_
  rintro _ _ ⟨rfl, rfl⟩
  rw [hrd]
  refine g_v (v_move rfl) rfl ?_
  refine g_v (v_extract (v := Str [120]) rfl rfl) rfl ?_
  refine g_v (v_extract (v := errV 0) rfl rfl) rfl ?_
  refine g_v (v_assign rfl) rfl ?_
  refine g_v (v_assign rfl) rfl ?_
  refine g_nil ?_
  refine g_seq ?_
  refine g_reg ?_
  refine g_v (v_move rfl) rfl ?_
  refine g_l (l_call (Pre := []) Try.call14 rfl (ct_L_same (0) (0) (by decide))) rfl ?_
  rintro _ _ ⟨rfl, rfl⟩
  refine g_v (v_move rfl) rfl ?_
  refine g_gv1 rfl rfl (by simp) (v_move rfl) rfl ?_
  refine g_gl rfl rfl (by simp) (l_call (Pre := []) Try.call14 rfl (ct_L_same (0) (0) (by decide))) rfl ?_
  rintro _ _ ⟨rfl, rfl⟩
  refine g_v (v_and rfl rfl) rfl ?_
  refine g_v (v_move rfl) rfl ?_
  refine g_gv1 rfl rfl (by simp) (v_move rfl) rfl ?_
  refine g_gv1 rfl rfl (by simp) (v_eql rfl rfl) rfl ?_
  refine g_v (v_and rfl rfl) rfl ?_
  refine g_v (v_move rfl) rfl ?_
  refine g_gv1 rfl rfl (by simp) (v_move rfl) rfl ?_
  refine g_gv1 rfl rfl (by simp) (v_seql rfl rfl) rfl ?_
  refine g_v (v_and rfl rfl) rfl ?_
  refine g_v (v_assign rfl) rfl ?_
  refine g_nil ?_
  refine g_ret1 rfl rfl ?_
  show Bo _ = Bo true
  simp

theorem ct_L_VaultSays (l : List ActM) (f : Nat → ActZ) (s : Option Addr) (cap : Nat) (hl : l.length ≤ 9223372036854775807) (hla : ∀ x ∈ l, x.puts.length ≤ 9223372036854775807 ∧ x.changes.length ≤ 9223372036854775807) (hlc : ∀ x ∈ l, x.c ≤ 9223372036854775807) (F : List HProp) : Ct Try.prog 11 [sl s l.length cap] ([acts s l f] ++ F) (R1 (Bo true) (acts s l f :: F)) := by
  show Ct Try.prog 11 [sl s l.length cap] (acts s l f :: F) _
  refine Ct.of Try.func11 rfl 149 Try.ntmps11 (by simp) fun w0 => ?_
  refine g_seq ?_
  refine g_reg ?_
  refine g_v (v_assign rfl) rfl ?_
  refine g_nil ?_
  refine g_seq ?_
  refine g_reg ?_
  refine g_l (l_call (Pre := []) Try.call109 rfl (ct_L_vaults)) rfl ?_
  rintro _ _ ⟨rfl, rfl⟩
  refine g_v (v_assign rfl) rfl ?_
  refine g_nil ?_
  refine g_seq ?_
  refine g_seq ?_
  refine g_reg ?_
  refine g_v (v_move rfl) rfl ?_
  refine g_v (v_not rfl) rfl ?_
  refine g_v (v_move rfl) rfl ?_
  refine g_gv1 rfl rfl rfl (v_move rfl) rfl ?_
  refine g_gl rfl rfl rfl (l_call (Pre := [acts s l f]) Try.call28 rfl (ct_L_LightActs l f s cap 40 hl hla)) rfl ?_
  rintro _ _ ⟨rfl, rfl⟩
  refine g_gv1 rfl rfl rfl (v_not rfl) rfl ?_
  refine g_v (v_or rfl rfl) rfl ?_
  refine g_nil ?_
  refine g_cond rfl (fun h27 => ?_) (fun h27 => ?_)
  · skip
    refine g_seq ?_
    refine g_reg ?_
    refine g_v (v_move rfl) rfl ?_
    refine g_v (v_assign rfl) rfl ?_
    refine g_nil ?_
    refine g_ret1 rfl rfl ?_
    exact rfl
  · have h27' : lightA l 40 = true := by simpa using h27
    have hll := lightL h27'
    refine g_skip ?_
    refine g_seq ?_
    refine g_reg ?_
    refine g_l (l_call (Pre := []) Try.call110 rfl (ct_vault_New)) rfl ?_
    rintro _ _ ⟨p0, rfl, rfl⟩
    refine g_v (v_assign rfl) rfl ?_
    refine g_nil ?_
    refine g_seq ?_
    refine g_reg ?_
    refine g_l (l_call (Pre := []) Try.call111 rfl (ct_R_NewVault)) rfl ?_
    rintro _ _ ⟨q0, rfl, rfl⟩
    refine g_v (v_assign rfl) rfl ?_
    refine g_nil ?_
    refine g_seq ?_
    refine g_seq ?_
    refine g_reg ?_
    refine g_v (v_assign rfl) rfl ?_
    refine g_nil ?_
    refine g_block ?_
    refine g_loop (α := Nat × Nat × Nat × SI × List Pt × Int) (fun z => z.1 ≤ l.length ∧ ∃ G, Vok z.2.2.2.1 z.2.2.2.2.1 z.2.2.2.2.2 G) (fun z => U [(0, sl s l.length cap), (4, ptr z.2.1 0), (5, ptr z.2.2.1 0), (6, I z.1)]) (fun z => vlt z.2.1 z.2.2.2.1 z.2.2.2.2.1 z.2.2.2.2.2 :: rvl z.2.2.1 z.2.2.2.1 z.2.2.2.2.1 z.2.2.2.2.2 :: acts s l f :: F) (fun z => l.length - z.1) (0, p0, q0, mkG gZ, [], 1) ⟨by simp, gZ, Vok_z⟩ [0, 4, 5, 6] rfl rfl ?_
    rintro ⟨i, p, q, S, L, n⟩ ⟨hi, G0, hV⟩
    simp only [] at hi hV ⊢
    have hlen := hV.len
    refine g_seq ?_
    refine g_seq ?_
    refine g_reg ?_
    refine g_v (v_move rfl) rfl ?_
    refine g_v (v_move rfl) rfl ?_
    refine g_v (v_len Try.underlying39 rfl) rfl ?_
    refine g_v (v_lss rfl rfl) rfl ?_
    refine g_nil ?_
    refine g_cond rfl (fun h34 => ?_) (fun h34 => ?_)
    · simp at h34
      have hkn : i < l.length := by omega
      obtain ⟨x, hx⟩ : ∃ x, l[i]? = some x := ⟨_, List.getElem?_eq_getElem hkn⟩
      have hkr : i < (actR l f).length := by rw [actR_len]; exact hkn
      have hxp := lightPu h27' (List.mem_of_getElem? hx)
      have hxc := hlc x (List.mem_of_getElem? hx)
      refine g_skip ?_
      refine g_seq ?_
      refine g_block ?_
      refine g_seq ?_
      refine g_reg ?_
      refine g_v (v_move rfl) rfl ?_
      refine g_v (v_move rfl) rfl ?_
      refine g_v (v_idxS i Try.underlying39 Try.sizeOf52 rfl rfl rfl hkn hkr) rfl ?_
      refine g_v (v_loadAS (row := encAct x (f i)) Try.isAgg52 Try.sizeOf52 rfl (actR_at hx) rfl) rfl ?_
      refine g_l (l_alloc #[Str [], Str [], I 0, I 0, I 0, I 0, .int .u64 0, sl none 0 0, sl none 0 0] Try.zeroValue52) rfl ?_
      rintro _ _ ⟨b7, rfl, rfl⟩
      refine g_l0 (l_storeA (cs := #[Str [], Str [], I 0, I 0, I 0, I 0, .int .u64 0, sl none 0 0, sl none 0 0]) (vs := encAct x (f i)) (encAct x (f i)).toArray Try.sizeOf52 rfl rfl rfl rfl (by simp) (splice_all rfl)) ?_
      rintro _ _ rfl
      refine g_nil ?_
      refine g_seq ?_
      refine g_reg ?_
      refine g_v (v_move rfl) rfl ?_
      refine g_l (l_call (Pre := [vlt p S L n]) Try.call112 rfl (ct_vault_Vault_Copy p S L n (by omega))) rfl ?_
      rintro _ _ ⟨p2, rfl, rfl⟩
      refine g_v (v_assign rfl) rfl ?_
      refine g_nil ?_
      refine g_seq ?_
      refine g_reg ?_
      refine g_v (v_move rfl) rfl ?_
      refine g_l (l_call (Pre := [rvl q S L n]) Try.call113 rfl (ct_RV_Copy q S L n (by omega))) rfl ?_
      rintro _ _ ⟨q2, rfl, rfl⟩
      refine g_v (v_assign rfl) rfl ?_
      refine g_nil ?_
      refine g_seq ?_
      refine g_actPuts s l f i hx ?_
      refine g_reg ?_
      refine g_v (v_move rfl) rfl ?_
      refine g_v (v_loadA (vs := encAct x (f i)) Try.isAgg52 Try.sizeOf52 rfl rfl arr_ld) rfl ?_
      refine g_l (l_call (Pre := [vlt p2 S L n, roL 2 (f i).1.1 (putR x.puts)]) Try.call114 rfl (ct_L_kept p2 S L n x (f i) G0 hV (by omega) (fun p hp => Nat.le_trans (hxp.2 p hp) (by decide)))) rfl ?_
      rintro v L' hv
      unfold vR at hv
      rcases hr : fillF S L n x with e0 | ⟨S1, L1, n1, r1⟩ <;> rw [hr] at hv <;> obtain ⟨rfl, rfl⟩ := hv
      · have he0 := fillF_err hr
        refine g_v (v_move rfl) rfl ?_
        refine g_v (v_extract (v := I 0) rfl rfl) rfl ?_
        refine g_v (v_extract (v := errV e0) rfl rfl) rfl ?_
        refine g_v (v_assign rfl) rfl ?_
        refine g_v (v_assign rfl) rfl ?_
        refine g_nil ?_
        refine g_seq ?_
        refine g_reg ?_
        refine g_v (v_move rfl) rfl ?_
        refine g_v (v_loadA (vs := encAct x (f i)) Try.isAgg52 Try.sizeOf52 rfl rfl arr_ld) rfl ?_
        refine g_l (l_call (Pre := [rvl q2 S L n, roL 2 (f i).1.1 (putR x.puts)]) Try.call115 rfl (ct_L_keptRef q2 S L n x (f i) G0 hV (by omega) (fun p hp => Nat.le_trans (hxp.2 p hp) (by decide)))) rfl ?_
        rintro v L' hv
        unfold vR at hv
        rw [hr] at hv
        obtain ⟨rfl, rfl⟩ := hv
        refine g_v (v_move rfl) rfl ?_
        refine g_v (v_extract (v := I 0) rfl rfl) rfl ?_
        refine g_v (v_extract (v := I e0) rfl rfl) rfl ?_
        refine g_v (v_assign rfl) rfl ?_
        refine g_v (v_assign rfl) rfl ?_
        refine g_nil ?_
        refine g_seq ?_
        refine g_seq ?_
        refine g_reg ?_
        refine g_v (v_move rfl) rfl ?_
        refine g_v (v_move rfl) rfl ?_
        refine g_v (v_neq rfl rfl) rfl ?_
        refine g_v (v_move rfl) rfl ?_
        refine g_gv1 rfl rfl (by simp) (v_move rfl) rfl ?_
        refine g_gv1 rfl rfl (by simp) (v_move rfl) rfl ?_
        refine g_gl rfl rfl (by simp) (l_call (Pre := []) Try.call14 rfl (ct_L_same (e0) (e0) (by omega))) rfl ?_
        rintro _ _ ⟨rfl, rfl⟩
        refine g_gv1 rfl rfl (by simp) (v_not rfl) rfl ?_
        refine g_v (v_or rfl rfl) rfl ?_
        refine g_v (v_move rfl) rfl ?_
        refine g_gv1 rfl rfl (by simp) (v_move rfl) rfl ?_
        refine g_gv1 rfl rfl (by simp) (v_move rfl) rfl ?_
        refine g_gl rfl rfl (by simp) (l_call (Pre := [vlt p S L n, rvl q S L n]) Try.call116 rfl (ct_L_asVault p q S L n G0 hV)) rfl ?_
        rintro _ _ ⟨rfl, rfl⟩
        refine g_gv1 rfl rfl (by simp) (v_not rfl) rfl ?_
        refine g_v (v_or rfl rfl) rfl ?_
        refine g_nil ?_
        refine g_cond rfl (fun h71 => ?_) (fun h71 => ?_)
        · simp at h71
        · skip
          refine g_skip ?_
          refine g_seq ?_
          refine g_seq ?_
          refine g_reg ?_
          refine g_v (v_move rfl) rfl ?_
          refine g_v (v_eql rfl rfl) rfl ?_
          refine g_nil ?_
          refine g_cut (α := Nat × Nat × SI × List Pt × Int) (fun z => ∃ G, Vok z.2.2.1 z.2.2.2.1 z.2.2.2.2 G) (fun z => U [(0, sl s l.length cap), (4, ptr z.1 0), (5, ptr z.2.1 0), (6, I i), (7, ptr b7 0)]) (fun z => vlt z.1 z.2.2.1 z.2.2.2.1 z.2.2.2.2 :: rvl z.2.1 z.2.2.1 z.2.2.2.1 z.2.2.2.2 :: pt b7 (.cells (encAct x (f i)).toArray 52 (0, 0)) :: acts s l f :: F) ?_ ?_
          · skip
            refine g_cond rfl (fun h73 => ?_) (fun h73 => ?_)
            · simp at h73
              omega
            · skip
              refine g_skip ?_
              exact g_here (p, q, S, L, n) ⟨G0, hV⟩ [0, 4, 5, 6, 7] rfl rfl
          rintro ⟨p', q', S', L', n'⟩ ⟨G', hV'⟩
          simp only [] at hV' ⊢
          have hlen' := hV'.len
          refine g_seq ?_
          refine g_reg ?_
          refine g_v (v_move rfl) rfl ?_
          refine g_v (v_fieldAddr 2 Try.underlying52 rfl rfl Try.sizeOf3 (by decide) rfl) rfl ?_
          refine g_v (v_load (v := I x.a) Try.isAgg3 rfl rfl) rfl ?_
          refine g_v (v_fieldAddr 3 Try.underlying52 rfl rfl Try.sizeOf3 (by decide) rfl) rfl ?_
          refine g_v (v_load (v := I x.b) Try.isAgg3 rfl rfl) rfl ?_
          refine g_l (l_call (Pre := [vlt p' S' L' n']) Try.call117 rfl (ct_vault_Vault_Read p' S' L' n' x.a x.b G' hV')) rfl ?_
          rintro _ _ ⟨rfl, rfl⟩
          refine g_v (v_move rfl) rfl ?_
          refine g_v (v_extract (v := Str (rdE S' L' x.a x.b).1) rfl rfl) rfl ?_
          refine g_v (v_extract (v := errV (rdE S' L' x.a x.b).2) rfl rfl) rfl ?_
          refine g_v (v_assign rfl) rfl ?_
          refine g_v (v_assign rfl) rfl ?_
          refine g_nil ?_
          refine g_seq ?_
          refine g_reg ?_
          refine g_v (v_move rfl) rfl ?_
          refine g_v (v_fieldAddr 2 Try.underlying52 rfl rfl Try.sizeOf3 (by decide) rfl) rfl ?_
          refine g_v (v_load (v := I x.a) Try.isAgg3 rfl rfl) rfl ?_
          refine g_v (v_fieldAddr 3 Try.underlying52 rfl rfl Try.sizeOf3 (by decide) rfl) rfl ?_
          refine g_v (v_load (v := I x.b) Try.isAgg3 rfl rfl) rfl ?_
          refine g_l (l_call (Pre := [rvl q' S' L' n']) Try.call118 rfl (ct_RV_Read q' S' L' n' x.a x.b G' hV')) rfl ?_
          rintro _ _ ⟨rfl, rfl⟩
          refine g_v (v_move rfl) rfl ?_
          refine g_v (v_extract (v := Str (rdE S' L' x.a x.b).1) rfl rfl) rfl ?_
          refine g_v (v_extract (v := I (rdE S' L' x.a x.b).2) rfl rfl) rfl ?_
          refine g_v (v_assign rfl) rfl ?_
          refine g_v (v_assign rfl) rfl ?_
          refine g_nil ?_
          refine g_seq ?_
          refine g_reg ?_
          refine g_v (v_move rfl) rfl ?_
          refine g_v (v_fieldAddr 2 Try.underlying52 rfl rfl Try.sizeOf3 (by decide) rfl) rfl ?_
          refine g_v (v_load (v := I x.a) Try.isAgg3 rfl rfl) rfl ?_
          refine g_l (l_call (Pre := [vlt p' S' L' n']) Try.call119 rfl (ct_vault_Vault_Find p' S' L' n' x.a (by omega))) rfl ?_
          rintro _ _ ⟨rfl, rfl⟩
          refine g_v (v_move rfl) rfl ?_
          refine g_v (v_extract (v := .agg (encPt ((findP L' x.a).getD pt0)).toArray) rfl rfl) rfl ?_
          refine g_v (v_extract (v := Bo (findP L' x.a).isSome) rfl rfl) rfl ?_
          refine g_l (l_alloc #[I 0, I 0, I 0, I 0] Try.zeroValue166) rfl ?_
          rintro _ _ ⟨b16, rfl, rfl⟩
          refine g_l0 (l_storeA (cs := #[I 0, I 0, I 0, I 0]) (vs := encPt (((findP L' x.a).getD pt0))) (encPt (((findP L' x.a).getD pt0))).toArray Try.sizeOf166 rfl rfl rfl rfl (by simp) (splice_whole rfl)) ?_
          rintro _ _ rfl
          refine g_v (v_assign rfl) rfl ?_
          refine g_nil ?_
          refine g_seq ?_
          refine g_reg ?_
          refine g_v (v_move rfl) rfl ?_
          refine g_v (v_fieldAddr 2 Try.underlying52 rfl rfl Try.sizeOf3 (by decide) rfl) rfl ?_
          refine g_v (v_load (v := I x.a) Try.isAgg3 rfl rfl) rfl ?_
          refine g_l (l_call (Pre := [rvl q' S' L' n']) Try.call120 rfl (ct_RV_Find q' S' L' n' x.a (by omega))) rfl ?_
          rintro _ _ ⟨rfl, rfl⟩
          refine g_v (v_move rfl) rfl ?_
          refine g_v (v_extract (v := .agg (encPt ((findP L' x.a).getD pt0)).toArray) rfl rfl) rfl ?_
          refine g_v (v_extract (v := Bo (findP L' x.a).isSome) rfl rfl) rfl ?_
          refine g_l (l_alloc #[I 0, I 0, I 0, I 0] Try.zeroValue166) rfl ?_
          rintro _ _ ⟨b18, rfl, rfl⟩
          refine g_l0 (l_storeA (cs := #[I 0, I 0, I 0, I 0]) (vs := encPt (((findP L' x.a).getD pt0))) (encPt (((findP L' x.a).getD pt0))).toArray Try.sizeOf166 rfl rfl rfl rfl (by simp) (splice_whole rfl)) ?_
          rintro _ _ rfl
          refine g_v (v_assign rfl) rfl ?_
          refine g_nil ?_
          refine g_seq ?_
          refine g_draw (Lf := [pt b7 (.cells (encAct x (f i)).toArray 52 (0, 0)), pt b16 (.cells (encPt (((findP L' x.a).getD pt0))).toArray 166 (0, 0)), pt b18 (.cells (encPt (((findP L' x.a).getD pt0))).toArray 166 (0, 0))]) [(0, false), (1, false), (2, false), (3, false), (4, false), (5, false), (6, true), (7, false), (8, false), (9, false), (10, false), (11, false), (12, false), (13, false), (14, false), (15, false), (16, false), (17, false), (18, false), (19, false), (20, false), (21, false), (22, false), (23, false), (24, false), (26, false), (27, false), (28, false), (29, false), (30, false), (25, true), (31, true), (32, true), (33, false), (34, false), (35, false), (36, false), (37, false), (38, true), (39, false), (40, false)] (by kernel_rfl) (by kernel_rfl) rfl (by kernel_rfl) ?_
          refine d_v rfl (v_move rfl) rfl ?_
          refine d_v rfl (v_move rfl) rfl ?_
          refine d_v rfl (v_sneq rfl rfl) rfl ?_
          refine d_v rfl (v_move rfl) rfl ?_
          refine d_gv1 rfl rfl rfl (by simp) (v_move rfl) rfl ?_
          refine d_gv1 rfl rfl rfl (by simp) (v_move rfl) rfl ?_
          refine d_gl rfl rfl rfl (by simp) (l_call (Pre := []) Try.call14 rfl (ct_L_same ((rdE S' L' x.a x.b).2) ((rdE S' L' x.a x.b).2) (rdE_nn _ _ _ _))) rfl ?_
          rintro _ _ ⟨rfl, rfl⟩
          refine d_gv1 rfl rfl rfl (by simp) (v_not rfl) rfl ?_
          refine d_v rfl (v_or rfl rfl) rfl ?_
          refine d_v rfl (v_move rfl) rfl ?_
          refine d_gv1 rfl rfl rfl (by simp) (v_loadA (vs := encPt ((findP L' x.a).getD pt0)) Try.isAgg166 Try.sizeOf166 rfl rfl arr_ld) rfl ?_
          refine d_gv1 rfl rfl rfl (by simp) (v_loadA (vs := encPt ((findP L' x.a).getD pt0)) Try.isAgg166 Try.sizeOf166 rfl rfl arr_ld) rfl ?_
          refine d_gv1 rfl rfl rfl (by simp) (v_aneq Try.eqGuardType166 rfl rfl (eq_Pt ((findP L' x.a).getD pt0) ((findP L' x.a).getD pt0))) rfl ?_
          refine d_v rfl (v_or rfl rfl) rfl ?_
          refine d_v rfl (v_move rfl) rfl ?_
          refine d_gv1 rfl rfl rfl (by simp) (v_move rfl) rfl ?_
          refine d_gv1 rfl rfl rfl (by simp) (v_move rfl) rfl ?_
          refine d_gv1 rfl rfl rfl (by simp) (v_bneq Try.underlying4 rfl rfl) rfl ?_
          refine d_v rfl (v_or rfl rfl) rfl ?_
          refine d_v rfl (v_move rfl) rfl ?_
          refine d_gv1 rfl rfl rfl (by simp) (v_move rfl) rfl ?_
          refine d_gv1 rfl rfl rfl (by simp) (v_fieldAddr 3 Try.underlying52 rfl rfl Try.sizeOf3 (by decide) rfl) rfl ?_
          refine d_gv1 rfl rfl rfl (by simp) (v_load (v := I x.b) Try.isAgg3 rfl rfl) rfl ?_
          refine d_gv1 rfl rfl rfl (by simp) (v_fieldAddr 4 Try.underlying52 rfl rfl Try.sizeOf3 (by decide) rfl) rfl ?_
          refine d_gv1 rfl rfl rfl (by simp) (v_load (v := I x.c) Try.isAgg3 rfl rfl) rfl ?_
          refine d_gv1 rfl rfl rfl (by simp) (v_move rfl) rfl ?_
          refine d_gv1 rfl rfl rfl (by simp) (v_fieldAddr 3 Try.underlying52 rfl rfl Try.sizeOf3 (by decide) rfl) rfl ?_
          refine d_gv1 rfl rfl rfl (by simp) (v_load (v := I x.b) Try.isAgg3 rfl rfl) rfl ?_
          refine d_gv1 rfl rfl rfl (by simp) (v_fieldAddr 4 Try.underlying52 rfl rfl Try.sizeOf3 (by decide) rfl) rfl ?_
          refine d_gv1 rfl rfl rfl (by simp) (v_load (v := I x.c) Try.isAgg3 rfl rfl) rfl ?_
          refine d_gl rfl rfl rfl (by simp) (l_call (Pre := [vlt p' S' L' n']) Try.call121 rfl (ct_vault_Vault_Eldest p' S' L' n' x.b x.c (by omega) hxc)) rfl ?_
          rintro _ _ ⟨s133, c133, rfl, rfl⟩
          refine g_freeze s133 ?_
          refine d_gl rfl rfl rfl (by simp) (l_call (Pre := [rvl q' S' L' n']) Try.call122 rfl (ct_RV_Eldest q' S' L' n' x.b x.c (by omega) hxc)) rfl ?_
          rintro _ _ ⟨s139, c139, rfl, rfl⟩
          refine g_freeze s139 ?_
          refine d_gl rfl rfl rfl (by simp) (l_call (Pre := [roL 1 s133 (intR (eldF L' x.b x.c)), roL 1 s139 (intR (eldF L' x.b x.c))]) Try.call84 rfl (ct_R_SameNumbers (eldF L' x.b x.c) (eldF L' x.b x.c) s133 s139 c133 c139 (by have := eldF_len L' x.b x.c; omega))) rfl ?_
          rintro _ _ ⟨rfl, rfl⟩
          refine d_gv1 rfl rfl rfl (by simp) (v_not rfl) rfl ?_
          refine d_v rfl (v_or rfl rfl) rfl ?_
          refine d_v rfl (v_move rfl) rfl ?_
          refine d_gv1 rfl rfl rfl (by simp) (v_move rfl) rfl ?_
          refine d_gv1 rfl rfl rfl (by simp) (v_move rfl) rfl ?_
          refine d_gl rfl rfl rfl (by simp) (l_call (Pre := [vlt p' S' L' n', rvl q' S' L' n']) Try.call116 rfl (ct_L_asVault p' q' S' L' n' G' hV')) rfl ?_
          rintro _ _ ⟨rfl, rfl⟩
          refine d_gv1 rfl rfl rfl (by simp) (v_not rfl) rfl ?_
          refine d_v rfl (v_or rfl rfl) rfl ?_
          refine d_nil ?_
          refine g_cond rfl (fun h148 => ?_) (fun h148 => ?_)
          · simp at h148
          · skip
            refine g_skip ?_
            refine g_blk ?_
            refine g_reg ?_
            refine g_v (v_move rfl) rfl ?_
            refine g_v (v_add rfl rfl (w64 (by omega))) rfl ?_
            refine g_v (v_assign rfl) rfl ?_
            refine g_nil ?_
            exact g_again (i + 1, p', q', S', L', n') ⟨by simp only []; omega, G', hV'⟩ (by simp only []; omega) [0, 4, 5, 6] rfl rfl
      · obtain ⟨G1, hV1, _⟩ := fill_keeps (x := x) hV
        rw [fillR_ok hr] at hV1
        refine g_v (v_move rfl) rfl ?_
        refine g_v (v_extract (v := I r1) rfl rfl) rfl ?_
        refine g_v (v_extract (v := errV 0) rfl rfl) rfl ?_
        refine g_v (v_assign rfl) rfl ?_
        refine g_v (v_assign rfl) rfl ?_
        refine g_nil ?_
        refine g_seq ?_
        refine g_reg ?_
        refine g_v (v_move rfl) rfl ?_
        refine g_v (v_loadA (vs := encAct x (f i)) Try.isAgg52 Try.sizeOf52 rfl rfl arr_ld) rfl ?_
        refine g_l (l_call (Pre := [rvl q2 S L n, roL 2 (f i).1.1 (putR x.puts)]) Try.call115 rfl (ct_L_keptRef q2 S L n x (f i) G0 hV (by omega) (fun p hp => Nat.le_trans (hxp.2 p hp) (by decide)))) rfl ?_
        rintro v L' hv
        unfold vR at hv
        rw [hr] at hv
        obtain ⟨rfl, rfl⟩ := hv
        refine g_v (v_move rfl) rfl ?_
        refine g_v (v_extract (v := I r1) rfl rfl) rfl ?_
        refine g_v (v_extract (v := I 0) rfl rfl) rfl ?_
        refine g_v (v_assign rfl) rfl ?_
        refine g_v (v_assign rfl) rfl ?_
        refine g_nil ?_
        refine g_seq ?_
        refine g_seq ?_
        refine g_reg ?_
        refine g_v (v_move rfl) rfl ?_
        refine g_v (v_move rfl) rfl ?_
        refine g_v (v_neq rfl rfl) rfl ?_
        refine g_v (v_move rfl) rfl ?_
        refine g_gv1 rfl rfl (by simp) (v_move rfl) rfl ?_
        refine g_gv1 rfl rfl (by simp) (v_move rfl) rfl ?_
        refine g_gl rfl rfl (by simp) (l_call (Pre := []) Try.call14 rfl (ct_L_same (0) (0) (by decide))) rfl ?_
        rintro _ _ ⟨rfl, rfl⟩
        refine g_gv1 rfl rfl (by simp) (v_not rfl) rfl ?_
        refine g_v (v_or rfl rfl) rfl ?_
        refine g_v (v_move rfl) rfl ?_
        refine g_gv1 rfl rfl (by simp) (v_move rfl) rfl ?_
        refine g_gv1 rfl rfl (by simp) (v_move rfl) rfl ?_
        refine g_gl rfl rfl (by simp) (l_call (Pre := [vlt p S L n, rvl q S L n]) Try.call116 rfl (ct_L_asVault p q S L n G0 hV)) rfl ?_
        rintro _ _ ⟨rfl, rfl⟩
        refine g_gv1 rfl rfl (by simp) (v_not rfl) rfl ?_
        refine g_v (v_or rfl rfl) rfl ?_
        refine g_nil ?_
        refine g_cond rfl (fun h71 => ?_) (fun h71 => ?_)
        · simp at h71
        · skip
          refine g_skip ?_
          refine g_seq ?_
          refine g_seq ?_
          refine g_reg ?_
          refine g_v (v_move rfl) rfl ?_
          refine g_v (v_eql rfl rfl) rfl ?_
          refine g_nil ?_
          refine g_cut (α := Nat × Nat × SI × List Pt × Int) (fun z => ∃ G, Vok z.2.2.1 z.2.2.2.1 z.2.2.2.2 G) (fun z => U [(0, sl s l.length cap), (4, ptr z.1 0), (5, ptr z.2.1 0), (6, I i), (7, ptr b7 0)]) (fun z => vlt z.1 z.2.2.1 z.2.2.2.1 z.2.2.2.2 :: rvl z.2.1 z.2.2.1 z.2.2.2.1 z.2.2.2.2 :: pt b7 (.cells (encAct x (f i)).toArray 52 (0, 0)) :: acts s l f :: F) ?_ ?_
          · skip
            refine g_cond rfl (fun h73 => ?_) (fun h73 => ?_)
            · skip
              refine g_seq ?_
              refine g_reg ?_
              refine g_v (v_move rfl) rfl ?_
              refine g_v (v_assign rfl) rfl ?_
              refine g_nil ?_
              refine g_reg ?_
              refine g_v (v_move rfl) rfl ?_
              refine g_v (v_assign rfl) rfl ?_
              refine g_nil ?_
              exact g_here (p2, q2, S1, L1, n1) ⟨G1, hV1⟩ [0, 4, 5, 6, 7] rfl rfl
            · simp at h73
          rintro ⟨p', q', S', L', n'⟩ ⟨G', hV'⟩
          simp only [] at hV' ⊢
          have hlen' := hV'.len
          refine g_seq ?_
          refine g_reg ?_
          refine g_v (v_move rfl) rfl ?_
          refine g_v (v_fieldAddr 2 Try.underlying52 rfl rfl Try.sizeOf3 (by decide) rfl) rfl ?_
          refine g_v (v_load (v := I x.a) Try.isAgg3 rfl rfl) rfl ?_
          refine g_v (v_fieldAddr 3 Try.underlying52 rfl rfl Try.sizeOf3 (by decide) rfl) rfl ?_
          refine g_v (v_load (v := I x.b) Try.isAgg3 rfl rfl) rfl ?_
          refine g_l (l_call (Pre := [vlt p' S' L' n']) Try.call117 rfl (ct_vault_Vault_Read p' S' L' n' x.a x.b G' hV')) rfl ?_
          rintro _ _ ⟨rfl, rfl⟩
          refine g_v (v_move rfl) rfl ?_
          refine g_v (v_extract (v := Str (rdE S' L' x.a x.b).1) rfl rfl) rfl ?_
          refine g_v (v_extract (v := errV (rdE S' L' x.a x.b).2) rfl rfl) rfl ?_
          refine g_v (v_assign rfl) rfl ?_
          refine g_v (v_assign rfl) rfl ?_
          refine g_nil ?_
          refine g_seq ?_
          refine g_reg ?_
          refine g_v (v_move rfl) rfl ?_
          refine g_v (v_fieldAddr 2 Try.underlying52 rfl rfl Try.sizeOf3 (by decide) rfl) rfl ?_
          refine g_v (v_load (v := I x.a) Try.isAgg3 rfl rfl) rfl ?_
          refine g_v (v_fieldAddr 3 Try.underlying52 rfl rfl Try.sizeOf3 (by decide) rfl) rfl ?_
          refine g_v (v_load (v := I x.b) Try.isAgg3 rfl rfl) rfl ?_
          refine g_l (l_call (Pre := [rvl q' S' L' n']) Try.call118 rfl (ct_RV_Read q' S' L' n' x.a x.b G' hV')) rfl ?_
          rintro _ _ ⟨rfl, rfl⟩
          refine g_v (v_move rfl) rfl ?_
          refine g_v (v_extract (v := Str (rdE S' L' x.a x.b).1) rfl rfl) rfl ?_
          refine g_v (v_extract (v := I (rdE S' L' x.a x.b).2) rfl rfl) rfl ?_
          refine g_v (v_assign rfl) rfl ?_
          refine g_v (v_assign rfl) rfl ?_
          refine g_nil ?_
          refine g_seq ?_
          refine g_reg ?_
          refine g_v (v_move rfl) rfl ?_
          refine g_v (v_fieldAddr 2 Try.underlying52 rfl rfl Try.sizeOf3 (by decide) rfl) rfl ?_
          refine g_v (v_load (v := I x.a) Try.isAgg3 rfl rfl) rfl ?_
          refine g_l (l_call (Pre := [vlt p' S' L' n']) Try.call119 rfl (ct_vault_Vault_Find p' S' L' n' x.a (by omega))) rfl ?_
          rintro _ _ ⟨rfl, rfl⟩
          refine g_v (v_move rfl) rfl ?_
          refine g_v (v_extract (v := .agg (encPt ((findP L' x.a).getD pt0)).toArray) rfl rfl) rfl ?_
          refine g_v (v_extract (v := Bo (findP L' x.a).isSome) rfl rfl) rfl ?_
          refine g_l (l_alloc #[I 0, I 0, I 0, I 0] Try.zeroValue166) rfl ?_
          rintro _ _ ⟨b16, rfl, rfl⟩
          refine g_l0 (l_storeA (cs := #[I 0, I 0, I 0, I 0]) (vs := encPt (((findP L' x.a).getD pt0))) (encPt (((findP L' x.a).getD pt0))).toArray Try.sizeOf166 rfl rfl rfl rfl (by simp) (splice_whole rfl)) ?_
          rintro _ _ rfl
          refine g_v (v_assign rfl) rfl ?_
          refine g_nil ?_
          refine g_seq ?_
          refine g_reg ?_
          refine g_v (v_move rfl) rfl ?_
          refine g_v (v_fieldAddr 2 Try.underlying52 rfl rfl Try.sizeOf3 (by decide) rfl) rfl ?_
          refine g_v (v_load (v := I x.a) Try.isAgg3 rfl rfl) rfl ?_
          refine g_l (l_call (Pre := [rvl q' S' L' n']) Try.call120 rfl (ct_RV_Find q' S' L' n' x.a (by omega))) rfl ?_
          rintro _ _ ⟨rfl, rfl⟩
          refine g_v (v_move rfl) rfl ?_
          refine g_v (v_extract (v := .agg (encPt ((findP L' x.a).getD pt0)).toArray) rfl rfl) rfl ?_
          refine g_v (v_extract (v := Bo (findP L' x.a).isSome) rfl rfl) rfl ?_
          refine g_l (l_alloc #[I 0, I 0, I 0, I 0] Try.zeroValue166) rfl ?_
          rintro _ _ ⟨b18, rfl, rfl⟩
          refine g_l0 (l_storeA (cs := #[I 0, I 0, I 0, I 0]) (vs := encPt (((findP L' x.a).getD pt0))) (encPt (((findP L' x.a).getD pt0))).toArray Try.sizeOf166 rfl rfl rfl rfl (by simp) (splice_whole rfl)) ?_
          rintro _ _ rfl
          refine g_v (v_assign rfl) rfl ?_
          refine g_nil ?_
          refine g_seq ?_
          refine g_draw (Lf := [pt b7 (.cells (encAct x (f i)).toArray 52 (0, 0)), pt b16 (.cells (encPt (((findP L' x.a).getD pt0))).toArray 166 (0, 0)), pt b18 (.cells (encPt (((findP L' x.a).getD pt0))).toArray 166 (0, 0))]) [(0, false), (1, false), (2, false), (3, false), (4, false), (5, false), (6, true), (7, false), (8, false), (9, false), (10, false), (11, false), (12, false), (13, false), (14, false), (15, false), (16, false), (17, false), (18, false), (19, false), (20, false), (21, false), (22, false), (23, false), (24, false), (26, false), (27, false), (28, false), (29, false), (30, false), (25, true), (31, true), (32, true), (33, false), (34, false), (35, false), (36, false), (37, false), (38, true), (39, false), (40, false)] (by kernel_rfl) (by kernel_rfl) rfl (by kernel_rfl) ?_
          refine d_v rfl (v_move rfl) rfl ?_
          refine d_v rfl (v_move rfl) rfl ?_
          refine d_v rfl (v_sneq rfl rfl) rfl ?_
          refine d_v rfl (v_move rfl) rfl ?_
          refine d_gv1 rfl rfl rfl (by simp) (v_move rfl) rfl ?_
          refine d_gv1 rfl rfl rfl (by simp) (v_move rfl) rfl ?_
          refine d_gl rfl rfl rfl (by simp) (l_call (Pre := []) Try.call14 rfl (ct_L_same ((rdE S' L' x.a x.b).2) ((rdE S' L' x.a x.b).2) (rdE_nn _ _ _ _))) rfl ?_
          rintro _ _ ⟨rfl, rfl⟩
          refine d_gv1 rfl rfl rfl (by simp) (v_not rfl) rfl ?_
          refine d_v rfl (v_or rfl rfl) rfl ?_
          refine d_v rfl (v_move rfl) rfl ?_
          refine d_gv1 rfl rfl rfl (by simp) (v_loadA (vs := encPt ((findP L' x.a).getD pt0)) Try.isAgg166 Try.sizeOf166 rfl rfl arr_ld) rfl ?_
          refine d_gv1 rfl rfl rfl (by simp) (v_loadA (vs := encPt ((findP L' x.a).getD pt0)) Try.isAgg166 Try.sizeOf166 rfl rfl arr_ld) rfl ?_
          refine d_gv1 rfl rfl rfl (by simp) (v_aneq Try.eqGuardType166 rfl rfl (eq_Pt ((findP L' x.a).getD pt0) ((findP L' x.a).getD pt0))) rfl ?_
          refine d_v rfl (v_or rfl rfl) rfl ?_
          refine d_v rfl (v_move rfl) rfl ?_
          refine d_gv1 rfl rfl rfl (by simp) (v_move rfl) rfl ?_
          refine d_gv1 rfl rfl rfl (by simp) (v_move rfl) rfl ?_
          refine d_gv1 rfl rfl rfl (by simp) (v_bneq Try.underlying4 rfl rfl) rfl ?_
          refine d_v rfl (v_or rfl rfl) rfl ?_
          refine d_v rfl (v_move rfl) rfl ?_
          refine d_gv1 rfl rfl rfl (by simp) (v_move rfl) rfl ?_
          refine d_gv1 rfl rfl rfl (by simp) (v_fieldAddr 3 Try.underlying52 rfl rfl Try.sizeOf3 (by decide) rfl) rfl ?_
          refine d_gv1 rfl rfl rfl (by simp) (v_load (v := I x.b) Try.isAgg3 rfl rfl) rfl ?_
          refine d_gv1 rfl rfl rfl (by simp) (v_fieldAddr 4 Try.underlying52 rfl rfl Try.sizeOf3 (by decide) rfl) rfl ?_
          refine d_gv1 rfl rfl rfl (by simp) (v_load (v := I x.c) Try.isAgg3 rfl rfl) rfl ?_
          refine d_gv1 rfl rfl rfl (by simp) (v_move rfl) rfl ?_
          refine d_gv1 rfl rfl rfl (by simp) (v_fieldAddr 3 Try.underlying52 rfl rfl Try.sizeOf3 (by decide) rfl) rfl ?_
          refine d_gv1 rfl rfl rfl (by simp) (v_load (v := I x.b) Try.isAgg3 rfl rfl) rfl ?_
          refine d_gv1 rfl rfl rfl (by simp) (v_fieldAddr 4 Try.underlying52 rfl rfl Try.sizeOf3 (by decide) rfl) rfl ?_
          refine d_gv1 rfl rfl rfl (by simp) (v_load (v := I x.c) Try.isAgg3 rfl rfl) rfl ?_
          refine d_gl rfl rfl rfl (by simp) (l_call (Pre := [vlt p' S' L' n']) Try.call121 rfl (ct_vault_Vault_Eldest p' S' L' n' x.b x.c (by omega) hxc)) rfl ?_
          rintro _ _ ⟨s133, c133, rfl, rfl⟩
          refine g_freeze s133 ?_
          refine d_gl rfl rfl rfl (by simp) (l_call (Pre := [rvl q' S' L' n']) Try.call122 rfl (ct_RV_Eldest q' S' L' n' x.b x.c (by omega) hxc)) rfl ?_
          rintro _ _ ⟨s139, c139, rfl, rfl⟩
          refine g_freeze s139 ?_
          refine d_gl rfl rfl rfl (by simp) (l_call (Pre := [roL 1 s133 (intR (eldF L' x.b x.c)), roL 1 s139 (intR (eldF L' x.b x.c))]) Try.call84 rfl (ct_R_SameNumbers (eldF L' x.b x.c) (eldF L' x.b x.c) s133 s139 c133 c139 (by have := eldF_len L' x.b x.c; omega))) rfl ?_
          rintro _ _ ⟨rfl, rfl⟩
          refine d_gv1 rfl rfl rfl (by simp) (v_not rfl) rfl ?_
          refine d_v rfl (v_or rfl rfl) rfl ?_
          refine d_v rfl (v_move rfl) rfl ?_
          refine d_gv1 rfl rfl rfl (by simp) (v_move rfl) rfl ?_
          refine d_gv1 rfl rfl rfl (by simp) (v_move rfl) rfl ?_
          refine d_gl rfl rfl rfl (by simp) (l_call (Pre := [vlt p' S' L' n', rvl q' S' L' n']) Try.call116 rfl (ct_L_asVault p' q' S' L' n' G' hV')) rfl ?_
          rintro _ _ ⟨rfl, rfl⟩
          refine d_gv1 rfl rfl rfl (by simp) (v_not rfl) rfl ?_
          refine d_v rfl (v_or rfl rfl) rfl ?_
          refine d_nil ?_
          refine g_cond rfl (fun h148 => ?_) (fun h148 => ?_)
          · simp at h148
          · skip
            refine g_skip ?_
            refine g_blk ?_
            refine g_reg ?_
            refine g_v (v_move rfl) rfl ?_
            refine g_v (v_add rfl rfl (w64 (by omega))) rfl ?_
            refine g_v (v_assign rfl) rfl ?_
            refine g_nil ?_
            exact g_again (i + 1, p', q', S', L', n') ⟨by simp only []; omega, G', hV'⟩ (by simp only []; omega) [0, 4, 5, 6] rfl rfl
    · skip
      refine g_exit rfl ?_
      refine g_seq ?_
      refine g_reg ?_
      refine g_v (v_assign rfl) rfl ?_
      refine g_nil ?_
      refine g_ret1 rfl rfl ?_
      exact rfl

end Go.Proofs.Ythdjckbjjfiopaa
