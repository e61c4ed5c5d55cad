/- Walks through the reference's disk, flushing, restarting, and new disks. No condition. -/
import Derived.Test.YthdjckbjjfiopacDisk
namespace Go.Proofs.Ythdjckbjjfiopac
open Go.Sl Go.Proofs
set_option linter.unusedVariables false
set_option linter.unusedSimpArgs false
def flushedD (D : DiskM) : DiskM := ⟨D.now, D.now, [], D.fuse, D.down⟩
def flushD (D : DiskM) : DiskM := if stepE D = 0 then flushedD (stepD D) else stepD D
theorem copy_all {r1 r2 : List Bytes} (h : r1.length = r2.length) : (strR r1).take 0 ++ ((strR r2).drop 0).take (Nat.min r2.length r1.length) ++ (strR r1).drop (0 + Nat.min r2.length r1.length) = strR r2 := by
  have e : Nat.min r2.length r1.length = r2.length := Nat.min_eq_left (by omega)
  rw [e, Nat.zero_add, List.drop_zero, List.take_zero, List.nil_append, List.take_of_length_le (by simp [strR]), List.drop_of_length_le (by simp [strR]; omega), List.append_nil]
theorem stepE_cases (D : DiskM) : stepE D = 0 ∨ stepE D = 9 := by unfold stepE; split <;> simp

-- counterfoil/counterfoilref.noughts is not in this seat
-- (*counterfoil/counterfoilref.Disk).Write is not in this seat
theorem ct_disk_Flush (b : Nat) (D : DiskM) (hf : -1 ≤ D.fuse ∧ D.fuse ≤ 9223372036854775807) (hk : D.kept.length = D.now.length) (hn : D.now.length ≤ 1000000) (F : List HProp) : Ct Try.prog 60 [ptr b 0] ([dsk 117 135 b (D)] ++ F) (R1 (errV (stepE D)) (dsk 117 135 b (flushD D) :: F)) := by
  show Ct Try.prog 60 [ptr b 0] (dsk 117 135 b (D) :: F) _
  refine Ct.of Try.func60 rfl 21 Try.ntmps60 (by simp) fun w0 => ?_
  refine g_seq ?_
  refine g_reg ?_
  refine g_v (v_assign rfl) rfl ?_
  refine g_nil ?_
  refine g_seq ?_
  refine g_reg ?_
  refine g_v (v_move rfl) rfl ?_
  refine g_l (l_call (Pre := [dsk 117 135 b (D)]) Try.call88 rfl (ct_disk_step b D hf)) rfl ?_
  rintro _ _ ⟨rfl, rfl⟩
  have hnow := stepD_now D
  have hkept := stepD_kept D
  have hsc := stepE_cases D
  generalize hD1 : stepD D = D1 at *
  rw [← hnow, ← hkept] at hk
  rw [← hnow] at hn
  refine g_v (v_assign rfl) rfl ?_
  refine g_nil ?_
  refine g_seq ?_
  refine g_seq ?_
  refine g_reg ?_
  refine g_v (v_move rfl) rfl ?_
  refine g_v (v_ieql Try.underlying33 rfl) rfl ?_
  refine g_nil ?_
  refine g_cond rfl (fun h7 => ?_) (fun h7 => ?_)
  · simp at h7
    have he0 : stepE D = 0 := h7
    refine g_open (dsk 117 135 b (D1)) rfl ?_
    rintro ⟨⟨s1, c1⟩, ⟨s2, c2⟩, ⟨s3, c3⟩⟩
    show G _ _ _ (pt b (.cells #[sl s1 (D1.kept).length c1, sl s2 (D1.now).length c2, sl s3 (D1.wait).length c3, I (D1.fuse), Bo (D1.down)] 117 (0, 0)) :: owL 9 1 s1 c1 (strR (D1.kept)) :: owL 9 1 s2 c2 (strR (D1.now)) :: owL 135 2 s3 c3 (turnR (D1.wait)) :: F)
    refine g_seq ?_
    refine g_draw (Lf := pt b (.cells #[sl s1 (D1.kept).length c1, sl s2 (D1.now).length c2, sl s3 (D1.wait).length c3, I (D1.fuse), Bo (D1.down)] 117 (0, 0)) :: F) [(0, false), (1, false), (2, false), (3, false), (4, false), (5, false), (6, false), (7, false), (8, true)] (by kernel_rfl) (by kernel_rfl) rfl (by kernel_rfl) ?_
    refine d_v rfl (v_move rfl) rfl ?_
    refine d_v rfl (v_nilCheck rfl) rfl ?_
    refine d_v rfl (v_fieldAddr 0 Try.underlying117 rfl rfl Try.sizeOf28 (by decide) rfl) rfl ?_
    refine d_v rfl (v_load Try.isAgg28 rfl rfl) rfl ?_
    refine d_v rfl (v_move rfl) rfl ?_
    refine d_v rfl (v_nilCheck rfl) rfl ?_
    refine d_v rfl (v_fieldAddr 1 Try.underlying117 rfl rfl Try.sizeOf28 (by decide) rfl) rfl ?_
    refine d_v rfl (v_load Try.isAgg28 rfl rfl) rfl ?_
    refine d_l rfl (l_copy (s := s1) (s2 := s2) (l := 0) (p := 0) Try.underlying28 Try.sizeOf9 (by decide) rfl rfl (.inl ⟨rfl, rfl⟩) (.inl ⟨rfl, rfl⟩) (by simp [strR]) (by simp [strR]) (by simp [strR]) (by simp [strR, ones, one])) rfl ?_
    rintro _ _ ⟨rfl, rfl⟩
    refine g_owEq s1 (strR D1.now) (copy_all hk) ?_
    refine d_nil ?_
    refine g_reg ?_
    refine g_v (v_move rfl) rfl ?_
    refine g_v (v_nilCheck rfl) rfl ?_
    refine g_v (v_fieldAddr 2 Try.underlying117 rfl rfl Try.sizeOf115 (by decide) rfl) rfl ?_
    refine g_l0 (l_store #[sl s1 (D1.kept).length c1, sl s2 (D1.now).length c2, sl none 0 0, I (D1.fuse), Bo (D1.down)] Try.sizeOf115 rfl rfl rfl (by simp) rfl) ?_
    rintro _ _ rfl
    refine g_nil ?_
    refine g_nilown 135 2 (turnR []) rfl ?_
    refine g_seq ?_
    skip
    refine g_reg ?_
    refine g_v (v_move rfl) rfl ?_
    refine g_v (v_assign rfl) rfl ?_
    refine g_nil ?_
    refine g_pack (A := dskP 117 135 b (flushedD D1)) [pt b (.cells #[sl s1 (D1.kept).length c1, sl s2 (D1.now).length c2, sl none 0 0, I (D1.fuse), Bo (D1.down)] 117 (0, 0)), owL 9 1 s1 c1 (strR D1.now), owL 9 1 s2 c2 (strR D1.now), owL 135 2 none 0 (turnR [])] (dsk 117 135 b (flushedD D1)) ((s1, c1), (s2, c2), (none, 0)) rfl (by simp [dskP, flushedD, hk]) ?_
    rw [show flushedD D1 = flushD D by unfold flushD; rw [if_pos he0, hD1]]
    exact g_ret1 rfl rfl (by rw [he0]; rfl)
  · simp at h7
    have he0 : ¬ stepE D = 0 := h7
    refine g_skip ?_
    refine g_seq ?_
    skip
    refine g_reg ?_
    refine g_v (v_move rfl) rfl ?_
    refine g_v (v_assign rfl) rfl ?_
    refine g_nil ?_
    rw [show D1 = flushD D by unfold flushD; rw [if_neg he0, hD1]]
    exact g_ret1 rfl rfl rfl

-- (*counterfoil/counterfoilref.Disk).Flush is not in this seat
end Go.Proofs.Ythdjckbjjfiopac
