/- The walk through the law VaultSays. No condition. -/
import Derived.Test.YthdjckbjjfiopaaGreatDoorRVa2
import Derived.Test.YthdjckbjjfiopaaGreatDoorAsIx
import Derived.Test.YthdjckbjjfiopaaGreatDoorTopVa
namespace Go.Proofs.YthdjckbjjfiopaaGreatDoor
open Go.Sl Go.Proofs
set_option linter.unusedVariables false
set_option linter.unusedSimpArgs false
theorem drpF_r {S : SI} {L : List Pt} {n id : Int} {S' : SI} {L' : List Pt} {n' r : Int} (h : drpF S L n id = .ok (S', L', n', r)) : r = 0 := by
  unfold drpF at h
  split at h
  · cases h
  · injection h with h; injection h with _ h; injection h with _ h; injection h with _ h; exact h.symm
theorem fillF_err {S : SI} {L : List Pt} {n : Int} {x : ActM} {e : Int} (h : fillF S L n x = .error e) : 0 < e := by
  unfold fillF at h
  split at h
  · exact ingF_err h
  · split at h
    · exact agnF_err h
    · split at h
      · exact drpF_err h
      · cases h

theorem ct_L_kept (b : Nat) (S : SI) (L : List Pt) (n : Int) (x : ActM) (z : ActZ) (G0 : Gh) (hV : Vok S L n G0) (hpl : x.puts.length ≤ 1000000) (hpd : ∀ p ∈ x.puts, p.data.length ≤ 9223372036854775807) (F : List HProp) : Ct Tryz.prog 11 [ptr b 0, .agg (encAct x z).toArray] ([vlt b S L n, roL 2 z.1.1 (putR x.puts)] ++ F) (vR vlt (errT 80) b (roL 2 z.1.1 (putR x.puts) :: F) (fillF S L n x)) := by
  show Ct Tryz.prog 11 [ptr b 0, .agg (encAct x z).toArray] (vlt b S L n :: roL 2 z.1.1 (putR x.puts) :: F) _
  have hll := hV.len
  refine Ct.of Tryz.func11 rfl 36 Tryz.ntmps11 (by simp) fun w0 => ?_
  refine g_seq ?_
  refine g_reg ?_
  refine g_l (l_box (encAct x z).toArray rfl rfl) rfl ?_
  rintro _ _ ⟨b3, rfl, rfl⟩
  refine g_v (v_assign rfl) rfl ?_
  refine g_v (v_assign rfl) rfl ?_
  refine g_nil ?_
  refine g_seq ?_
  refine g_seq ?_
  refine g_reg ?_
  refine g_v (v_fieldAddr 0 Tryz.underlying38 rfl rfl Tryz.sizeOf9 (by decide) rfl) rfl ?_
  refine g_v (v_load (v := Str x.kind) Tryz.isAgg9 rfl rfl) rfl ?_
  refine g_nil ?_
  refine g_block ?_
  refine g_seq ?_
  refine g_reg ?_
  refine g_v (v_seql rfl rfl) rfl ?_
  refine g_v (v_assign rfl) rfl ?_
  refine g_nil ?_
  refine g_cond rfl (fun h8 => ?_) (fun h8 => ?_)
  · have hk1 : x.kind = kIng := by simpa [kIng] using h8
    refine g_seq ?_
    refine g_reg ?_
    refine g_v (v_move rfl) rfl ?_
    refine g_v (v_fieldAddr 2 Tryz.underlying38 rfl rfl Tryz.sizeOf3 (by decide) rfl) rfl ?_
    refine g_v (v_load (v := I x.a) Tryz.isAgg3 rfl rfl) rfl ?_
    refine g_v (v_fieldAddr 3 Tryz.underlying38 rfl rfl Tryz.sizeOf3 (by decide) rfl) rfl ?_
    refine g_v (v_load (v := I x.b) Tryz.isAgg3 rfl rfl) rfl ?_
    refine g_v (v_fieldAddr 4 Tryz.underlying38 rfl rfl Tryz.sizeOf3 (by decide) rfl) rfl ?_
    refine g_v (v_load (v := I x.c) Tryz.isAgg3 rfl rfl) rfl ?_
    refine g_v (v_fieldAddr 7 Tryz.underlying38 rfl rfl Tryz.sizeOf36 (by decide) rfl) rfl ?_
    refine g_v (v_load (v := sl z.1.1 x.puts.length z.1.2) Tryz.isAgg36 rfl rfl) rfl ?_
    refine g_l (l_call (Pre := [vlt b S L n, roL 2 z.1.1 (putR x.puts)]) Tryz.call24 rfl (ct_vault_Vault_Ingest b S L n x.a x.b x.c x.puts z.1.1 z.1.2 G0 hV hpl hpd)) rfl ?_
    rintro v L' hv
    unfold vR at hv
    rcases hr : ingF S L n x.a x.b x.c x.puts with e0 | ⟨S1, L1, n1, r1⟩ <;> rw [hr] at hv <;> obtain ⟨rfl, rfl⟩ := hv
    · skip
      refine g_v (v_extract (v := I 0) rfl rfl) rfl ?_
      refine g_v (v_extract (v := errT 80 e0) rfl rfl) rfl ?_
      refine g_v (v_assign rfl) rfl ?_
      refine g_v (v_assign rfl) rfl ?_
      refine g_nil ?_
      exact g_nones rfl (show fillF S L n x = .error e0 by unfold fillF; rw [if_pos hk1]; exact hr) rfl rfl
    · skip
      refine g_v (v_extract (v := I r1) rfl rfl) rfl ?_
      refine g_v (v_extract (v := errT 80 0) rfl rfl) rfl ?_
      refine g_v (v_assign rfl) rfl ?_
      refine g_v (v_assign rfl) rfl ?_
      refine g_nil ?_
      exact g_somes rfl (show fillF S L n x = .ok (S1, L1, n1, r1) by unfold fillF; rw [if_pos hk1]; exact hr) rfl rfl
  · have hk1 : ¬ x.kind = kIng := by simpa [kIng] using h8
    refine g_seq ?_
    refine g_reg ?_
    refine g_v (v_seql rfl rfl) rfl ?_
    refine g_v (v_assign rfl) rfl ?_
    refine g_nil ?_
    refine g_cond rfl (fun h22 => ?_) (fun h22 => ?_)
    · have hk2 : x.kind = kAgn := by simpa [kAgn] using h22
      refine g_seq ?_
      refine g_reg ?_
      refine g_v (v_move rfl) rfl ?_
      refine g_v (v_fieldAddr 2 Tryz.underlying38 rfl rfl Tryz.sizeOf3 (by decide) rfl) rfl ?_
      refine g_v (v_load (v := I x.a) Tryz.isAgg3 rfl rfl) rfl ?_
      refine g_l (l_call (Pre := [vlt b S L n]) Tryz.call25 rfl (ct_vault_Vault_Again b S L n x.a G0 hV)) rfl ?_
      rintro v L' hv
      unfold vR at hv
      rcases hr : agnF S L n x.a with e0 | ⟨S1, L1, n1, r1⟩ <;> rw [hr] at hv <;> obtain ⟨rfl, rfl⟩ := hv
      · skip
        refine g_v (v_extract (v := I 0) rfl rfl) rfl ?_
        refine g_v (v_extract (v := errT 80 e0) rfl rfl) rfl ?_
        refine g_v (v_assign rfl) rfl ?_
        refine g_v (v_assign rfl) rfl ?_
        refine g_nil ?_
        exact g_nones rfl (show fillF S L n x = .error e0 by unfold fillF; rw [if_neg hk1, if_pos hk2]; exact hr) rfl rfl
      · skip
        refine g_v (v_extract (v := I r1) rfl rfl) rfl ?_
        refine g_v (v_extract (v := errT 80 0) rfl rfl) rfl ?_
        refine g_v (v_assign rfl) rfl ?_
        refine g_v (v_assign rfl) rfl ?_
        refine g_nil ?_
        exact g_somes rfl (show fillF S L n x = .ok (S1, L1, n1, r1) by unfold fillF; rw [if_neg hk1, if_pos hk2]; exact hr) rfl rfl
    · have hk2 : ¬ x.kind = kAgn := by simpa [kAgn] using h22
      refine g_seq ?_
      refine g_reg ?_
      refine g_v (v_seql rfl rfl) rfl ?_
      refine g_v (v_assign rfl) rfl ?_
      refine g_nil ?_
      refine g_cond rfl (fun h30 => ?_) (fun h30 => ?_)
      · have hk3 : x.kind = kDrp := by simpa [kDrp] using h30
        refine g_seq ?_
        refine g_reg ?_
        refine g_v (v_move rfl) rfl ?_
        refine g_v (v_fieldAddr 2 Tryz.underlying38 rfl rfl Tryz.sizeOf3 (by decide) rfl) rfl ?_
        refine g_v (v_load (v := I x.a) Tryz.isAgg3 rfl rfl) rfl ?_
        refine g_l (l_call (Pre := [vlt b S L n]) Tryz.call26 rfl (ct_vault_Vault_Drop b S L n x.a G0 hV)) rfl ?_
        rintro v L' hv
        unfold vR1 at hv
        rcases hr : drpF S L n x.a with e0 | ⟨S1, L1, n1, r1⟩ <;> rw [hr] at hv <;> obtain ⟨rfl, rfl⟩ := hv
        · skip
          refine g_v (v_assign rfl) rfl ?_
          refine g_v (v_assign rfl) rfl ?_
          refine g_nil ?_
          exact g_nones rfl (show fillF S L n x = .error e0 by unfold fillF; rw [if_neg hk1, if_neg hk2, if_pos hk3]; exact hr) rfl rfl
        · obtain rfl : r1 = 0 := (drpF_r hr)
          refine g_v (v_assign rfl) rfl ?_
          refine g_v (v_assign rfl) rfl ?_
          refine g_nil ?_
          exact g_somes rfl (show fillF S L n x = .ok (S1, L1, n1, 0) by unfold fillF; rw [if_neg hk1, if_neg hk2, if_pos hk3]; exact hr) rfl rfl
      · have hk3 : ¬ x.kind = kDrp := by simpa [kDrp] using h30
        refine g_skip ?_
        refine g_blk ?_
        refine g_seq ?_
        refine g_reg ?_
        refine g_v (v_assign rfl) rfl ?_
        refine g_v (v_assign rfl) rfl ?_
        refine g_nil ?_
        exact g_somes (r := 0) rfl (by unfold fillF; rw [if_neg hk1, if_neg hk2, if_neg hk3]) rfl rfl

theorem ct_L_keptRef (b : Nat) (S : SI) (L : List Pt) (n : Int) (x : ActM) (z : ActZ) (G0 : Gh) (hV : Vok S L n G0) (hpl : x.puts.length ≤ 1000000) (hpd : ∀ p ∈ x.puts, p.data.length ≤ 9223372036854775807) (F : List HProp) : Ct Tryz.prog 12 [ptr b 0, .agg (encAct x z).toArray] ([rvl b S L n, roL 2 z.1.1 (putR x.puts)] ++ F) (vR rvl (I) b (roL 2 z.1.1 (putR x.puts) :: F) (fillF S L n x)) := by
  show Ct Tryz.prog 12 [ptr b 0, .agg (encAct x z).toArray] (rvl b S L n :: roL 2 z.1.1 (putR x.puts) :: F) _
  have hll := hV.len
  refine Ct.of Tryz.func12 rfl 36 Tryz.ntmps12 (by simp) fun w0 => ?_
  refine g_seq ?_
  refine g_reg ?_
  refine g_l (l_box (encAct x z).toArray rfl rfl) rfl ?_
  rintro _ _ ⟨b3, rfl, rfl⟩
  refine g_v (v_assign rfl) rfl ?_
  refine g_v (v_assign rfl) rfl ?_
  refine g_nil ?_
  refine g_seq ?_
  refine g_seq ?_
  refine g_reg ?_
  refine g_v (v_fieldAddr 0 Tryz.underlying38 rfl rfl Tryz.sizeOf9 (by decide) rfl) rfl ?_
  refine g_v (v_load (v := Str x.kind) Tryz.isAgg9 rfl rfl) rfl ?_
  refine g_nil ?_
  refine g_block ?_
  refine g_seq ?_
  refine g_reg ?_
  refine g_v (v_seql rfl rfl) rfl ?_
  refine g_v (v_assign rfl) rfl ?_
  refine g_nil ?_
  refine g_cond rfl (fun h8 => ?_) (fun h8 => ?_)
  · have hk1 : x.kind = kIng := by simpa [kIng] using h8
    refine g_seq ?_
    refine g_reg ?_
    refine g_v (v_move rfl) rfl ?_
    refine g_v (v_fieldAddr 2 Tryz.underlying38 rfl rfl Tryz.sizeOf3 (by decide) rfl) rfl ?_
    refine g_v (v_load (v := I x.a) Tryz.isAgg3 rfl rfl) rfl ?_
    refine g_v (v_fieldAddr 3 Tryz.underlying38 rfl rfl Tryz.sizeOf3 (by decide) rfl) rfl ?_
    refine g_v (v_load (v := I x.b) Tryz.isAgg3 rfl rfl) rfl ?_
    refine g_v (v_fieldAddr 4 Tryz.underlying38 rfl rfl Tryz.sizeOf3 (by decide) rfl) rfl ?_
    refine g_v (v_load (v := I x.c) Tryz.isAgg3 rfl rfl) rfl ?_
    refine g_v (v_fieldAddr 7 Tryz.underlying38 rfl rfl Tryz.sizeOf36 (by decide) rfl) rfl ?_
    refine g_v (v_load (v := sl z.1.1 x.puts.length z.1.2) Tryz.isAgg36 rfl rfl) rfl ?_
    refine g_l (l_call (Pre := [rvl b S L n, roL 2 z.1.1 (putR x.puts)]) Tryz.call27 rfl (ct_RV_Ingest b S L n x.a x.b x.c x.puts z.1.1 z.1.2 G0 hV hpl hpd)) rfl ?_
    rintro v L' hv
    unfold vR at hv
    rcases hr : ingF S L n x.a x.b x.c x.puts with e0 | ⟨S1, L1, n1, r1⟩ <;> rw [hr] at hv <;> obtain ⟨rfl, rfl⟩ := hv
    · skip
      refine g_v (v_extract (v := I 0) rfl rfl) rfl ?_
      refine g_v (v_extract (v := I e0) rfl rfl) rfl ?_
      refine g_v (v_assign rfl) rfl ?_
      refine g_v (v_assign rfl) rfl ?_
      refine g_nil ?_
      exact g_nones rfl (show fillF S L n x = .error e0 by unfold fillF; rw [if_pos hk1]; exact hr) rfl rfl
    · skip
      refine g_v (v_extract (v := I r1) rfl rfl) rfl ?_
      refine g_v (v_extract (v := I 0) rfl rfl) rfl ?_
      refine g_v (v_assign rfl) rfl ?_
      refine g_v (v_assign rfl) rfl ?_
      refine g_nil ?_
      exact g_somes rfl (show fillF S L n x = .ok (S1, L1, n1, r1) by unfold fillF; rw [if_pos hk1]; exact hr) rfl rfl
  · have hk1 : ¬ x.kind = kIng := by simpa [kIng] using h8
    refine g_seq ?_
    refine g_reg ?_
    refine g_v (v_seql rfl rfl) rfl ?_
    refine g_v (v_assign rfl) rfl ?_
    refine g_nil ?_
    refine g_cond rfl (fun h22 => ?_) (fun h22 => ?_)
    · have hk2 : x.kind = kAgn := by simpa [kAgn] using h22
      refine g_seq ?_
      refine g_reg ?_
      refine g_v (v_move rfl) rfl ?_
      refine g_v (v_fieldAddr 2 Tryz.underlying38 rfl rfl Tryz.sizeOf3 (by decide) rfl) rfl ?_
      refine g_v (v_load (v := I x.a) Tryz.isAgg3 rfl rfl) rfl ?_
      refine g_l (l_call (Pre := [rvl b S L n]) Tryz.call28 rfl (ct_RV_Again b S L n x.a G0 hV)) rfl ?_
      rintro v L' hv
      unfold vR at hv
      rcases hr : agnF S L n x.a with e0 | ⟨S1, L1, n1, r1⟩ <;> rw [hr] at hv <;> obtain ⟨rfl, rfl⟩ := hv
      · skip
        refine g_v (v_extract (v := I 0) rfl rfl) rfl ?_
        refine g_v (v_extract (v := I e0) rfl rfl) rfl ?_
        refine g_v (v_assign rfl) rfl ?_
        refine g_v (v_assign rfl) rfl ?_
        refine g_nil ?_
        exact g_nones rfl (show fillF S L n x = .error e0 by unfold fillF; rw [if_neg hk1, if_pos hk2]; exact hr) rfl rfl
      · skip
        refine g_v (v_extract (v := I r1) rfl rfl) rfl ?_
        refine g_v (v_extract (v := I 0) rfl rfl) rfl ?_
        refine g_v (v_assign rfl) rfl ?_
        refine g_v (v_assign rfl) rfl ?_
        refine g_nil ?_
        exact g_somes rfl (show fillF S L n x = .ok (S1, L1, n1, r1) by unfold fillF; rw [if_neg hk1, if_pos hk2]; exact hr) rfl rfl
    · have hk2 : ¬ x.kind = kAgn := by simpa [kAgn] using h22
      refine g_seq ?_
      refine g_reg ?_
      refine g_v (v_seql rfl rfl) rfl ?_
      refine g_v (v_assign rfl) rfl ?_
      refine g_nil ?_
      refine g_cond rfl (fun h30 => ?_) (fun h30 => ?_)
      · have hk3 : x.kind = kDrp := by simpa [kDrp] using h30
        refine g_seq ?_
        refine g_reg ?_
        refine g_v (v_move rfl) rfl ?_
        refine g_v (v_fieldAddr 2 Tryz.underlying38 rfl rfl Tryz.sizeOf3 (by decide) rfl) rfl ?_
        refine g_v (v_load (v := I x.a) Tryz.isAgg3 rfl rfl) rfl ?_
        refine g_l (l_call (Pre := [rvl b S L n]) Tryz.call29 rfl (ct_RV_Drop b S L n x.a G0 hV)) rfl ?_
        rintro v L' hv
        unfold vR1 at hv
        rcases hr : drpF S L n x.a with e0 | ⟨S1, L1, n1, r1⟩ <;> rw [hr] at hv <;> obtain ⟨rfl, rfl⟩ := hv
        · skip
          refine g_v (v_assign rfl) rfl ?_
          refine g_v (v_assign rfl) rfl ?_
          refine g_nil ?_
          exact g_nones rfl (show fillF S L n x = .error e0 by unfold fillF; rw [if_neg hk1, if_neg hk2, if_pos hk3]; exact hr) rfl rfl
        · obtain rfl : r1 = 0 := (drpF_r hr)
          refine g_v (v_assign rfl) rfl ?_
          refine g_v (v_assign rfl) rfl ?_
          refine g_nil ?_
          exact g_somes rfl (show fillF S L n x = .ok (S1, L1, n1, 0) by unfold fillF; rw [if_neg hk1, if_neg hk2, if_pos hk3]; exact hr) rfl rfl
      · have hk3 : ¬ x.kind = kDrp := by simpa [kDrp] using h30
        refine g_skip ?_
        refine g_blk ?_
        refine g_seq ?_
        refine g_reg ?_
        refine g_v (v_assign rfl) rfl ?_
        refine g_v (v_assign rfl) rfl ?_
        refine g_nil ?_
        exact g_somes (r := 0) rfl (by unfold fillF; rw [if_neg hk1, if_neg hk2, if_neg hk3]) rfl rfl

theorem ct_L_asVault (b b2 : Nat) (S : SI) (L : List Pt) (n : Int) (G0 : Gh) (hV : Vok S L n G0) (F : List HProp) : Ct Tryz.prog 18 [ptr b 0, ptr b2 0] ([vlt b S L n, rvl b2 S L n] ++ F) (R1 (Bo true) (vlt b S L n :: rvl b2 S L n :: F)) := by
  show Ct Tryz.prog 18 [ptr b 0, ptr b2 0] (vlt b S L n :: rvl b2 S L n :: F) _
  have hok := Vok_ok hV
  have hll := hV.len
  refine Ct.of Tryz.func18 rfl 35 Tryz.ntmps18 (by simp) fun w0 => ?_
  refine g_openV b S L n ?_
  intro x s c
  refine g_openRV b2 S L n ?_
  intro x2 s2 c2
  refine g_seq ?_
  refine g_reg ?_
  refine g_v (v_assign rfl) rfl ?_
  refine g_nil ?_
  refine g_seq ?_
  refine g_seq ?_
  refine g_draw (Lf := [pt b (.cells #[ptr x 0, sl s (L).length c, I (n)] 58 (0, 0)), pt b2 (.cells #[ptr x2 0, sl s2 (L).length c2, I (n)] 70 (0, 0))]) [(0, false), (1, false), (2, false), (3, false), (4, false), (5, false), (6, false), (7, false), (8, true), (9, false), (10, false), (11, false), (12, false), (13, false), (14, false), (15, false), (16, false), (17, false), (18, false), (19, false), (20, false)] (by kernel_rfl) (by kernel_rfl) rfl (by kernel_rfl) ?_
  refine d_v rfl (v_move rfl) rfl ?_
  refine d_v rfl (v_nilCheck rfl) rfl ?_
  refine d_v rfl (v_fieldAddr 0 Tryz.underlying58 rfl rfl Tryz.sizeOf54 (by decide) rfl) rfl ?_
  refine d_v rfl (v_load (v := ptr x 0) Tryz.isAgg54 rfl rfl) rfl ?_
  refine d_v rfl (v_move rfl) rfl ?_
  refine d_v rfl (v_nilCheck rfl) rfl ?_
  refine d_v rfl (v_fieldAddr 0 Tryz.underlying70 rfl rfl Tryz.sizeOf59 (by decide) rfl) rfl ?_
  refine d_v rfl (v_load (v := ptr x2 0) Tryz.isAgg59 rfl rfl) rfl ?_
  refine d_l rfl (l_call (Pre := [ixl x S, ixr x2 (xS S)]) Tryz.call38 rfl (ct_L_asIndex x x2 S 200 hok (by decide))) rfl ?_
  rintro _ _ ⟨rfl, rfl⟩
  refine d_v rfl (v_not rfl) rfl ?_
  refine d_v rfl (v_move rfl) rfl ?_
  refine d_gv1 rfl rfl rfl (by simp) (v_move rfl) rfl ?_
  refine d_gv1 rfl rfl rfl (by simp) (v_nilCheck rfl) rfl ?_
  refine d_gv1 rfl rfl rfl (by simp) (v_fieldAddr 2 Tryz.underlying58 rfl rfl Tryz.sizeOf3 (by decide) rfl) rfl ?_
  refine d_gv1 rfl rfl rfl (by simp) (v_load (v := I n) Tryz.isAgg3 rfl rfl) rfl ?_
  refine d_gv1 rfl rfl rfl (by simp) (v_move rfl) rfl ?_
  refine d_gv1 rfl rfl rfl (by simp) (v_nilCheck rfl) rfl ?_
  refine d_gv1 rfl rfl rfl (by simp) (v_fieldAddr 2 Tryz.underlying70 rfl rfl Tryz.sizeOf3 (by decide) rfl) rfl ?_
  refine d_gv1 rfl rfl rfl (by simp) (v_load (v := I n) Tryz.isAgg3 rfl rfl) rfl ?_
  refine d_gv1 rfl rfl rfl (by simp) (v_neq rfl rfl) rfl ?_
  refine d_v rfl (v_or rfl rfl) rfl ?_
  refine d_nil ?_
  refine g_cond rfl (fun h25 => ?_) (fun h25 => ?_)
  · simp at h25
  · skip
    refine g_skip ?_
    refine g_seq ?_
    refine g_draw (Lf := [pt b (.cells #[ptr x 0, sl s (L).length c, I (n)] 58 (0, 0)), pt b2 (.cells #[ptr x2 0, sl s2 (L).length c2, I (n)] 70 (0, 0))]) [(0, false), (1, false), (2, false), (3, false), (4, false), (5, false), (6, false), (7, false), (8, true), (9, false)] (by kernel_rfl) (by kernel_rfl) rfl (by kernel_rfl) ?_
    refine d_v rfl (v_move rfl) rfl ?_
    refine d_v rfl (v_nilCheck rfl) rfl ?_
    refine d_v rfl (v_fieldAddr 1 Tryz.underlying58 rfl rfl Tryz.sizeOf56 (by decide) rfl) rfl ?_
    refine d_v rfl (v_load (v := sl s (L).length c) Tryz.isAgg56 rfl rfl) rfl ?_
    refine d_v rfl (v_move rfl) rfl ?_
    refine d_v rfl (v_nilCheck rfl) rfl ?_
    refine d_v rfl (v_fieldAddr 1 Tryz.underlying70 rfl rfl Tryz.sizeOf56 (by decide) rfl) rfl ?_
    refine d_v rfl (v_load (v := sl s2 L.length c2) Tryz.isAgg56 rfl rfl) rfl ?_
    refine d_l rfl (l_call (Pre := [owL 73 4 s c (ptR (L)), owL 73 4 s2 c2 (ptR (L))]) Tryz.call39 rfl (ct_R_SamePoints L L s s2 c c2 (by omega))) rfl ?_
    rintro _ _ ⟨rfl, rfl⟩
    refine d_v rfl (v_assign rfl) rfl ?_
    refine d_nil ?_
    refine g_shutRV b2 x2 s2 c2 S L n ?_
    refine g_shutV b x s c S L n ?_
    first | exact g_ret1 rfl rfl (by simp [tup]) | exact g_end1 rfl rfl (by simp [tup])

-- counterfoil/counterfoillaw.vaults is not in this seat
-- counterfoil/counterfoillaw.VaultSays is not in this seat
end Go.Proofs.YthdjckbjjfiopaaGreatDoor
