/- Walks through the reference's disk, flushing, restarting, and new disks. No condition. -/
import Derived.Test.YthdjckbjjfiopaaDisk
namespace Go.Proofs.Ythdjckbjjfiopaa
open Go.Sl Go.Proofs
set_option linter.unusedVariables false
set_option linter.unusedSimpArgs false
def flushedD (D : DiskM) : DiskM := ⟨D.now, D.now, [], D.fuse, D.down⟩
def flushD (D : DiskM) : DiskM := if stepE D = 0 then flushedD (stepD D) else stepD D
theorem copy_all {r1 r2 : List Bytes} (h : r1.length = r2.length) : (strR r1).take 0 ++ ((strR r2).drop 0).take (Nat.min r2.length r1.length) ++ (strR r1).drop (0 + Nat.min r2.length r1.length) = strR r2 := by
  have e : Nat.min r2.length r1.length = r2.length := Nat.min_eq_left (by omega)
  rw [e, Nat.zero_add, List.drop_zero, List.take_zero, List.nil_append, List.take_of_length_le (by simp [strR]), List.drop_of_length_le (by simp [strR]; omega), List.append_nil]
theorem stepE_cases (D : DiskM) : stepE D = 0 ∨ stepE D = 9 := by unfold stepE; split <;> simp

theorem ct_R_noughts (n : Nat) (hn : n ≤ 100000) (F : List HProp) : Ct Try.prog 129 [I n] ([] ++ F) (R1 (Str (nulls n)) F) := by
  show Ct Try.prog 129 [I n] (F) _
  refine Ct.of Try.func129 rfl 6 Try.ntmps129 (by simp) fun w0 => ?_
  refine g_seq ?_
  refine g_reg ?_
  refine g_v (v_assign rfl) rfl ?_
  refine g_nil ?_
  refine g_seq ?_
  refine g_reg ?_
  refine g_v (v_move rfl) rfl ?_
  refine g_l (l_makeSlice n Try.underlying197 Try.sizeOf5 Try.zeroValue5 Try.typeInfo5 rfl (by decide) rfl rfl rfl ⟨by omega, by decide⟩) rfl ?_
  rintro _ _ ⟨b4, rfl, rfl⟩
  refine g_v (v_bytesStr (l := nulls n) Try.underlying197 Try.underlying5 Try.underlying9 rfl (bytesR_rep _) (by simp [nulls])) rfl ?_
  refine g_v (v_assign rfl) rfl ?_
  refine g_nil ?_
  refine g_ret1 rfl rfl ?_
  exact rfl

theorem ct_R_Disk_Write (b : Nat) (D : DiskM) (n : Int) (s : Bytes) (hf : -1 ≤ D.fuse ∧ D.fuse ≤ 9223372036854775807) (hw : D.wait.length ≤ 1000000) (F : List HProp) : Ct Try.prog 33 [ptr b 0, I n, Str s] ([dsk 64 188 b (D)] ++ F) (R1 (I (writeE D n s)) (dsk 64 188 b (writeD D n s) :: F)) := by
  show Ct Try.prog 33 [ptr b 0, I n, Str s] (dsk 64 188 b (D) :: F) _
  refine Ct.of Try.func33 rfl 54 Try.ntmps33 (by simp) fun w0 => ?_
  refine g_open (dsk 64 188 b (D)) rfl ?_
  rintro ⟨⟨s1, c1⟩, ⟨s2, c2⟩, ⟨s3, c3⟩⟩
  show G _ _ _ (pt b (.cells #[sl s1 (D.kept).length c1, sl s2 (D.now).length c2, sl s3 (D.wait).length c3, I (D.fuse), Bo (D.down)] 64 (0, 0)) :: owL 9 1 s1 c1 (strR (D.kept)) :: owL 9 1 s2 c2 (strR (D.now)) :: owL 188 2 s3 c3 (turnR (D.wait)) :: F)
  refine g_seq ?_
  refine g_reg ?_
  refine g_v (v_assign rfl) rfl ?_
  refine g_nil ?_
  refine g_seq ?_
  refine g_seq ?_
  refine g_reg ?_
  refine g_v (v_move rfl) rfl ?_
  refine g_v (v_lss rfl rfl) rfl ?_
  refine g_v (v_move rfl) rfl ?_
  refine g_gv rfl rfl (fun hg => v_move rfl) rfl rfl ?_
  refine g_gv rfl rfl (fun hg => v_move rfl) rfl rfl ?_
  refine g_gv rfl rfl (fun hg => v_nilCheck rfl) rfl rfl ?_
  refine g_gv rfl rfl (fun hg => v_fieldAddr 1 Try.underlying64 rfl rfl Try.sizeOf61 (by decide) rfl) rfl rfl ?_
  refine g_gv rfl rfl (fun hg => v_load Try.isAgg61 rfl rfl) rfl rfl ?_
  refine g_gv rfl rfl (fun hg => v_len Try.underlying61 rfl) rfl rfl ?_
  refine g_gv rfl rfl (fun hg => v_geq rfl rfl) rfl rfl ?_
  refine g_v (v_or rfl rfl) rfl ?_
  refine g_v (v_move rfl) rfl ?_
  refine g_gv rfl rfl (fun hg => v_move rfl) rfl rfl ?_
  refine g_gv rfl rfl (fun hg => v_slen Try.underlying9 rfl) rfl rfl ?_
  refine g_gv rfl rfl (fun hg => v_gtr rfl rfl) rfl rfl ?_
  refine g_v (v_or rfl rfl) rfl ?_
  refine g_nil ?_
  refine g_cond rfl (fun h23 => ?_) (fun h23 => ?_)
  · simp at h23
    have hbad : badW D n s := by unfold badW; omega
    refine g_seq ?_
    refine g_reg ?_
    refine g_v (v_assign rfl) rfl ?_
    refine g_nil ?_
    refine g_pack (A := dskP 64 188 b ⟨D.kept, D.now, D.wait, D.fuse, D.down⟩) [pt b (.cells #[sl s1 (D.kept).length c1, sl s2 (D.now).length c2, sl s3 (D.wait).length c3, I (D.fuse), Bo (D.down)] 64 (0, 0)), owL 9 1 s1 c1 (strR (D.kept)), owL 9 1 s2 c2 (strR (D.now)), owL 188 2 s3 c3 (turnR (D.wait))] (dsk 64 188 b (⟨D.kept, D.now, D.wait, D.fuse, D.down⟩)) ((s1, c1), (s2, c2), (s3, c3)) rfl rfl ?_
    show G _ _ _ (dsk 64 188 b (D) :: F)
    have eD : writeD D n s = D := by unfold writeD; rw [if_pos hbad]
    rw [show dsk 64 188 b (D) = dsk 64 188 b (writeD D n s) by rw [eD]]
    exact g_ret1 rfl rfl (by rw [show writeE D n s = 1 by unfold writeE; rw [if_pos hbad]]; rfl)
  · simp at h23
    have hbad : ¬ badW D n s := by unfold badW; omega
    refine g_skip ?_
    refine g_seq ?_
    refine g_seq ?_
    refine g_reg ?_
    refine g_v (v_move rfl) rfl ?_
    refine g_pack (A := dskP 64 188 b ⟨D.kept, D.now, D.wait, D.fuse, D.down⟩) [pt b (.cells #[sl s1 (D.kept).length c1, sl s2 (D.now).length c2, sl s3 (D.wait).length c3, I (D.fuse), Bo (D.down)] 64 (0, 0)), owL 9 1 s1 c1 (strR (D.kept)), owL 9 1 s2 c2 (strR (D.now)), owL 188 2 s3 c3 (turnR (D.wait))] (dsk 64 188 b (⟨D.kept, D.now, D.wait, D.fuse, D.down⟩)) ((s1, c1), (s2, c2), (s3, c3)) rfl rfl ?_
    show G _ _ _ (dsk 64 188 b (D) :: F)
    refine g_l (l_call (Pre := [dsk 64 188 b (D)]) Try.call131 rfl (ct_R_Disk_step b D hf)) rfl ?_
    rintro _ _ ⟨rfl, rfl⟩
    have hnow := stepD_now D
    have hwait := stepD_wait D
    have hsc := stepE_cases D
    generalize hD1 : stepD D = D1 at *
    refine g_v (v_assign rfl) rfl ?_
    refine g_nil ?_
    refine g_seq ?_
    refine g_reg ?_
    refine g_v (v_move rfl) rfl ?_
    refine g_v (v_gtr rfl rfl) rfl ?_
    refine g_nil ?_
    refine g_cond rfl (fun h27 => ?_) (fun h27 => ?_)
    · simp at h27
      have he0 : ¬ stepE D = 0 := by omega
      refine g_seq ?_
      refine g_reg ?_
      refine g_v (v_move rfl) rfl ?_
      refine g_v (v_assign rfl) rfl ?_
      refine g_nil ?_
      rw [show D1 = writeD D n s by unfold writeD; rw [if_neg hbad, if_neg he0, hD1]]
      exact g_ret1 rfl rfl (by rw [show writeE D n s = stepE D by unfold writeE; rw [if_neg hbad]]; rfl)
    · simp at h27
      have he0 : stepE D = 0 := by omega
      refine g_open (dsk 64 188 b (D1)) rfl ?_
      rintro ⟨⟨s1, c1⟩, ⟨s2, c2⟩, ⟨s3, c3⟩⟩
      show G _ _ _ (pt b (.cells #[sl s1 (D1.kept).length c1, sl s2 (D1.now).length c2, sl s3 (D1.wait).length c3, I (D1.fuse), Bo (D1.down)] 64 (0, 0)) :: owL 9 1 s1 c1 (strR (D1.kept)) :: owL 9 1 s2 c2 (strR (D1.now)) :: owL 188 2 s3 c3 (turnR (D1.wait)) :: F)
      rw [← hnow] at h23
      rw [← hwait] at hw
      obtain ⟨x, hx⟩ : ∃ x, D1.now[n.toNat]? = some x := ⟨_, List.getElem?_eq_getElem (by omega)⟩
      have hrow := strR_at hx
      have hlt : n.toNat < D1.now.length := by omega
      have hlt2 : n.toNat < (strR D1.now).length := by rw [strR_len]; exact hlt
      have hy : (D1.now.set n.toNat (fullB s))[n.toNat]? = some (fullB s) := by simp [hlt]
      have hrow2 := strR_at hy
      refine g_skip ?_
      refine g_seq ?_
      refine g_reg ?_
      refine g_v (v_move rfl) rfl ?_
      refine g_v (v_move rfl) rfl ?_
      refine g_v (v_slen Try.underlying9 rfl) rfl ?_
      refine g_v (v_sub rfl rfl (w64 (by omega))) rfl ?_
      refine g_l (l_call (Pre := []) Try.call129 rfl (by have := ct_R_noughts (80 - s.length) (by omega); rwa [show ((80 - s.length : Nat) : Int) = 80 - (s.length : Int) by omega] at this)) rfl ?_
      rintro _ _ ⟨rfl, rfl⟩
      refine g_v (v_cat rfl rfl (by simp [nulls]; omega)) rfl ?_
      refine g_v (v_assign rfl) rfl ?_
      refine g_nil ?_
      rw [show s ++ nulls (80 - s.length) = fullB s from rfl]
      refine g_seq ?_
      refine g_reg ?_
      refine g_v (v_move rfl) rfl ?_
      refine g_v (v_nilCheck rfl) rfl ?_
      refine g_v (v_fieldAddr 1 Try.underlying64 rfl rfl Try.sizeOf61 (by decide) rfl) rfl ?_
      refine g_v (v_load Try.isAgg61 rfl rfl) rfl ?_
      refine g_v (v_move rfl) rfl ?_
      refine g_v (v_move rfl) rfl ?_
      refine g_v (v_idxS n.toNat Try.underlying61 Try.sizeOf9 rfl rfl (by omega) hlt hlt2) rfl ?_
      refine g_l0 (l_storeS0 (row := [Str x]) Try.sizeOf9 rfl rfl rfl hrow (by decide)) ?_
      rintro _ _ rfl
      rw [strR_set]
      refine g_nil ?_
      refine g_seq ?_
      refine g_reg ?_
      refine g_v (v_move rfl) rfl ?_
      refine g_v (v_move rfl) rfl ?_
      refine g_v (v_nilCheck rfl) rfl ?_
      refine g_v (v_fieldAddr 2 Try.underlying64 rfl rfl Try.sizeOf62 (by decide) rfl) rfl ?_
      refine g_v (v_load Try.isAgg62 rfl rfl) rfl ?_
      refine g_v (v_move rfl) rfl ?_
      refine g_v (v_move rfl) rfl ?_
      refine g_v (v_build rfl (bld188_0_1 _ rfl _ rfl)) rfl ?_
      refine g_l (l_buildSlice [[I n, Str (fullB s)]] Try.underlying62 Try.sizeOf188 Try.zeroValue188 rfl rfl rfl (by simp) (by decide) (by decide)) rfl ?_
      rintro _ _ ⟨b50, rfl, rfl⟩
      refine g_l (l_append Try.underlying62 Try.sizeOf188 Try.zeroValue188 rfl Try.typeInfo188 (by decide) rfl rfl (turnR_len _) rfl (by simp) (by simp [ones, one]) ⟨by omega, by decide, by decide⟩) rfl ?_
      rintro _ _ ⟨s51, c51, rfl, rfl⟩
      rw [turnR_app _ (by omega)]
      refine g_v (v_nilCheck rfl) rfl ?_
      refine g_v (v_fieldAddr 2 Try.underlying64 rfl rfl Try.sizeOf62 (by decide) rfl) rfl ?_
      refine g_l0 (l_store #[sl s1 (D1.kept).length c1, sl s2 (D1.now).length c2, sl s51 (D1.wait.length + 1) c51, I (D1.fuse), Bo (D1.down)] Try.sizeOf62 rfl rfl rfl (by simp) rfl) ?_
      rintro _ _ rfl
      refine g_nil ?_
      refine g_seq ?_
      refine g_reg ?_
      refine g_v (v_assign rfl) rfl ?_
      refine g_nil ?_
      refine g_pack (A := dskP 64 188 b (wroteD D1 n s)) [pt b (.cells #[sl s1 (D1.kept).length c1, sl s2 (D1.now).length c2, sl s51 (D1.wait.length + 1) c51, I (D1.fuse), Bo (D1.down)] 64 (0, 0)), owL 9 1 s1 c1 (strR (D1.kept)), owL 9 1 s2 c2 (strR (D1.now.set n.toNat (fullB s))), owL 188 2 s51 c51 (turnR (D1.wait ++ [(n.toNat, fullB s)]))] (dsk 64 188 b (wroteD D1 n s)) ((s1, c1), (s2, c2), (s51, c51)) rfl (by simp [dskP, wroteD]) ?_
      rw [show wroteD D1 n s = writeD D n s by unfold writeD; rw [if_neg hbad, if_pos he0, hD1]]
      exact g_ret1 rfl rfl (by rw [show writeE D n s = stepE D by unfold writeE; rw [if_neg hbad]]; rw [he0]; rfl)

theorem ct_disk_Flush (b : Nat) (D : DiskM) (hf : -1 ≤ D.fuse ∧ D.fuse ≤ 9223372036854775807) (hk : D.kept.length = D.now.length) (hn : D.now.length ≤ 1000000) (F : List HProp) : Ct Try.prog 36 [ptr b 0] ([dsk 184 187 b (D)] ++ F) (R1 (errV (stepE D)) (dsk 184 187 b (flushD D) :: F)) := by
  show Ct Try.prog 36 [ptr b 0] (dsk 184 187 b (D) :: F) _
  refine Ct.of Try.func36 rfl 21 Try.ntmps36 (by simp) fun w0 => ?_
  refine g_seq ?_
  refine g_reg ?_
  refine g_v (v_assign rfl) rfl ?_
  refine g_nil ?_
  refine g_seq ?_
  refine g_reg ?_
  refine g_v (v_move rfl) rfl ?_
  refine g_l (l_call (Pre := [dsk 184 187 b (D)]) Try.call130 rfl (ct_disk_step b D hf)) rfl ?_
  rintro _ _ ⟨rfl, rfl⟩
  have hnow := stepD_now D
  have hkept := stepD_kept D
  have hsc := stepE_cases D
  generalize hD1 : stepD D = D1 at *
  rw [← hnow, ← hkept] at hk
  rw [← hnow] at hn
  refine g_v (v_assign rfl) rfl ?_
  refine g_nil ?_
  refine g_seq ?_
  refine g_seq ?_
  refine g_reg ?_
  refine g_v (v_move rfl) rfl ?_
  refine g_v (v_ieql Try.underlying26 rfl) rfl ?_
  refine g_nil ?_
  refine g_cond rfl (fun h7 => ?_) (fun h7 => ?_)
  · simp at h7
    have he0 : stepE D = 0 := h7
    refine g_open (dsk 184 187 b (D1)) rfl ?_
    rintro ⟨⟨s1, c1⟩, ⟨s2, c2⟩, ⟨s3, c3⟩⟩
    show G _ _ _ (pt b (.cells #[sl s1 (D1.kept).length c1, sl s2 (D1.now).length c2, sl s3 (D1.wait).length c3, I (D1.fuse), Bo (D1.down)] 184 (0, 0)) :: owL 9 1 s1 c1 (strR (D1.kept)) :: owL 9 1 s2 c2 (strR (D1.now)) :: owL 187 2 s3 c3 (turnR (D1.wait)) :: F)
    refine g_seq ?_
    refine g_draw (Lf := pt b (.cells #[sl s1 (D1.kept).length c1, sl s2 (D1.now).length c2, sl s3 (D1.wait).length c3, I (D1.fuse), Bo (D1.down)] 184 (0, 0)) :: F) [(0, false), (1, false), (2, false), (3, false), (4, false), (5, false), (6, false), (7, false), (8, true)] (by kernel_rfl) (by kernel_rfl) rfl (by kernel_rfl) ?_
    refine d_v rfl (v_move rfl) rfl ?_
    refine d_v rfl (v_nilCheck rfl) rfl ?_
    refine d_v rfl (v_fieldAddr 0 Try.underlying184 rfl rfl Try.sizeOf61 (by decide) rfl) rfl ?_
    refine d_v rfl (v_load Try.isAgg61 rfl rfl) rfl ?_
    refine d_v rfl (v_move rfl) rfl ?_
    refine d_v rfl (v_nilCheck rfl) rfl ?_
    refine d_v rfl (v_fieldAddr 1 Try.underlying184 rfl rfl Try.sizeOf61 (by decide) rfl) rfl ?_
    refine d_v rfl (v_load Try.isAgg61 rfl rfl) rfl ?_
    refine d_l rfl (l_copy (s := s1) (s2 := s2) (l := 0) (p := 0) Try.underlying61 Try.sizeOf9 (by decide) rfl rfl (.inl ⟨rfl, rfl⟩) (.inl ⟨rfl, rfl⟩) (by simp [strR]) (by simp [strR]) (by simp [strR]) (by simp [strR, ones, one])) rfl ?_
    rintro _ _ ⟨rfl, rfl⟩
    refine g_owEq s1 (strR D1.now) (copy_all hk) ?_
    refine d_nil ?_
    refine g_reg ?_
    refine g_v (v_move rfl) rfl ?_
    refine g_v (v_nilCheck rfl) rfl ?_
    refine g_v (v_fieldAddr 2 Try.underlying184 rfl rfl Try.sizeOf182 (by decide) rfl) rfl ?_
    refine g_l0 (l_store #[sl s1 (D1.kept).length c1, sl s2 (D1.now).length c2, sl none 0 0, I (D1.fuse), Bo (D1.down)] Try.sizeOf182 rfl rfl rfl (by simp) rfl) ?_
    rintro _ _ rfl
    refine g_nil ?_
    refine g_nilown 187 2 (turnR []) rfl ?_
    refine g_seq ?_
    skip
    refine g_reg ?_
    refine g_v (v_move rfl) rfl ?_
    refine g_v (v_assign rfl) rfl ?_
    refine g_nil ?_
    refine g_pack (A := dskP 184 187 b (flushedD D1)) [pt b (.cells #[sl s1 (D1.kept).length c1, sl s2 (D1.now).length c2, sl none 0 0, I (D1.fuse), Bo (D1.down)] 184 (0, 0)), owL 9 1 s1 c1 (strR D1.now), owL 9 1 s2 c2 (strR D1.now), owL 187 2 none 0 (turnR [])] (dsk 184 187 b (flushedD D1)) ((s1, c1), (s2, c2), (none, 0)) rfl (by simp [dskP, flushedD, hk]) ?_
    rw [show flushedD D1 = flushD D by unfold flushD; rw [if_pos he0, hD1]]
    exact g_ret1 rfl rfl (by rw [he0]; rfl)
  · simp at h7
    have he0 : ¬ stepE D = 0 := h7
    refine g_skip ?_
    refine g_seq ?_
    skip
    refine g_reg ?_
    refine g_v (v_move rfl) rfl ?_
    refine g_v (v_assign rfl) rfl ?_
    refine g_nil ?_
    rw [show D1 = flushD D by unfold flushD; rw [if_neg he0, hD1]]
    exact g_ret1 rfl rfl rfl

theorem ct_R_Disk_Flush (b : Nat) (D : DiskM) (hf : -1 ≤ D.fuse ∧ D.fuse ≤ 9223372036854775807) (hk : D.kept.length = D.now.length) (hn : D.now.length ≤ 1000000) (F : List HProp) : Ct Try.prog 37 [ptr b 0] ([dsk 64 188 b (D)] ++ F) (R1 (I (stepE D)) (dsk 64 188 b (flushD D) :: F)) := by
  show Ct Try.prog 37 [ptr b 0] (dsk 64 188 b (D) :: F) _
  refine Ct.of Try.func37 rfl 20 Try.ntmps37 (by simp) fun w0 => ?_
  refine g_seq ?_
  refine g_reg ?_
  refine g_v (v_assign rfl) rfl ?_
  refine g_nil ?_
  refine g_seq ?_
  refine g_seq ?_
  refine g_reg ?_
  refine g_v (v_move rfl) rfl ?_
  refine g_l (l_call (Pre := [dsk 64 188 b (D)]) Try.call131 rfl (ct_R_Disk_step b D hf)) rfl ?_
  rintro _ _ ⟨rfl, rfl⟩
  have hnow := stepD_now D
  have hkept := stepD_kept D
  have hsc := stepE_cases D
  generalize hD1 : stepD D = D1 at *
  rw [← hnow, ← hkept] at hk
  rw [← hnow] at hn
  refine g_v (v_assign rfl) rfl ?_
  refine g_nil ?_
  refine g_seq ?_
  refine g_reg ?_
  refine g_v (v_move rfl) rfl ?_
  refine g_v (v_gtr rfl rfl) rfl ?_
  refine g_nil ?_
  refine g_cond rfl (fun h7 => ?_) (fun h7 => ?_)
  · simp at h7
    have he0 : ¬ stepE D = 0 := by omega
    refine g_seq ?_
    refine g_reg ?_
    refine g_v (v_move rfl) rfl ?_
    refine g_v (v_assign rfl) rfl ?_
    refine g_nil ?_
    rw [show D1 = flushD D by unfold flushD; rw [if_neg he0, hD1]]
    exact g_ret1 rfl rfl rfl
  · simp at h7
    have he0 : stepE D = 0 := by omega
    refine g_open (dsk 64 188 b (D1)) rfl ?_
    rintro ⟨⟨s1, c1⟩, ⟨s2, c2⟩, ⟨s3, c3⟩⟩
    show G _ _ _ (pt b (.cells #[sl s1 (D1.kept).length c1, sl s2 (D1.now).length c2, sl s3 (D1.wait).length c3, I (D1.fuse), Bo (D1.down)] 64 (0, 0)) :: owL 9 1 s1 c1 (strR (D1.kept)) :: owL 9 1 s2 c2 (strR (D1.now)) :: owL 188 2 s3 c3 (turnR (D1.wait)) :: F)
    refine g_skip ?_
    refine g_seq ?_
    refine g_reg ?_
    refine g_v (v_move rfl) rfl ?_
    refine g_v (v_move rfl) rfl ?_
    refine g_v (v_nilCheck rfl) rfl ?_
    refine g_v (v_fieldAddr 1 Try.underlying64 rfl rfl Try.sizeOf61 (by decide) rfl) rfl ?_
    refine g_v (v_load Try.isAgg61 rfl rfl) rfl ?_
    refine g_nilown 9 1 [] rfl ?_
    refine g_l (l_append Try.underlying61 Try.sizeOf9 Try.zeroValue9 rfl Try.typeInfo9 (by decide) rfl rfl rfl (strR_len _) (by simp [strR]) (by simp [strR, ones, one]) ⟨by omega, by decide, by decide⟩) rfl ?_
    rintro _ _ ⟨s14, c14, rfl, rfl⟩
    rw [Nat.zero_add]
    simp only [List.nil_append]
    refine g_v (v_nilCheck rfl) rfl ?_
    refine g_v (v_fieldAddr 0 Try.underlying64 rfl rfl Try.sizeOf61 (by decide) rfl) rfl ?_
    refine g_l0 (l_store #[sl s14 (D1.now).length c14, sl s2 (D1.now).length c2, sl s3 (D1.wait).length c3, I (D1.fuse), Bo (D1.down)] Try.sizeOf61 rfl rfl rfl (by simp) rfl) ?_
    rintro _ _ rfl
    refine g_nil ?_
    refine g_seq ?_
    refine g_reg ?_
    refine g_v (v_move rfl) rfl ?_
    refine g_v (v_nilCheck rfl) rfl ?_
    refine g_v (v_fieldAddr 2 Try.underlying64 rfl rfl Try.sizeOf62 (by decide) rfl) rfl ?_
    refine g_l0 (l_store #[sl s14 (D1.now).length c14, sl s2 (D1.now).length c2, sl none 0 0, I (D1.fuse), Bo (D1.down)] Try.sizeOf62 rfl rfl rfl (by simp) rfl) ?_
    rintro _ _ rfl
    refine g_nil ?_
    refine g_nilown 188 2 (turnR []) rfl ?_
    refine g_seq ?_
    refine g_reg ?_
    refine g_v (v_assign rfl) rfl ?_
    refine g_nil ?_
    refine g_pack (A := dskP 64 188 b (flushedD D1)) [pt b (.cells #[sl s14 (D1.now).length c14, sl s2 (D1.now).length c2, sl none 0 0, I (D1.fuse), Bo (D1.down)] 64 (0, 0)), owL 9 1 s14 c14 (strR D1.now), owL 9 1 s2 c2 (strR D1.now), owL 188 2 none 0 (turnR [])] (dsk 64 188 b (flushedD D1)) ((s14, c14), (s2, c2), (none, 0)) rfl (by simp [dskP, flushedD]) ?_
    rw [show flushedD D1 = flushD D by unfold flushD; rw [if_pos he0, hD1]]
    exact g_ret1 rfl rfl (by rw [he0]; rfl)

end Go.Proofs.Ythdjckbjjfiopaa
