/- Walks through package disk. No condition. -/
import Derived.Test.YthdjckbjjfiopacLib1
import Derived.Test.YthdjckbjjfiopacSlB
import Derived.Test.YthdjckbjjfiopacArea5
namespace Go.Proofs.Ythdjckbjjfiopac
open Go.Sl Go.Proofs
set_option linter.unusedVariables false
set_option linter.unusedSimpArgs false
structure DiskM where
  kept : List Bytes
  now : List Bytes
  wait : List (Nat × Bytes)
  fuse : Int
  down : Bool
def turnR (l : List (Nat × Bytes)) : List (List Value) := l.map fun t => [I t.1, Str t.2]
theorem turnR_len (l : List (Nat × Bytes)) : (turnR l).length = l.length := by simp [turnR]
def dskP (T TT b : Nat) (D : DiskM) (z : (Option Addr × Nat) × (Option Addr × Nat) × (Option Addr × Nat)) : List HProp :=
  [pt b (.cells #[sl z.1.1 D.kept.length z.1.2, sl z.2.1.1 D.now.length z.2.1.2, sl z.2.2.1 D.wait.length z.2.2.2, I D.fuse, Bo D.down] T (0, 0)), owL 9 1 z.1.1 z.1.2 (strR D.kept), owL 9 1 z.2.1.1 z.2.1.2 (strR D.now), owL TT 2 z.2.2.1 z.2.2.2 (turnR D.wait)]
/-- a disk at b -/
def dsk (T TT b : Nat) (D : DiskM) : HProp := hx (dskP T TT b D)
/-- what is known of a disk of n sectors -/
def okD (n : Nat) (D : DiskM) : Prop := D.kept.length = n ∧ D.now.length = n ∧ -1 ≤ D.fuse ∧ D.fuse ≤ 9223372036854775807 ∧ (∀ t ∈ D.wait, t.1 < n) ∧ n ≤ 1000 ∧ D.wait.length ≤ 1000000
def stepE (D : DiskM) : Int := if D.down = true ∨ D.fuse = 0 then 9 else 0
def stepD (D : DiskM) : DiskM := if D.down = true then D else if D.fuse = 0 then ⟨D.kept, D.now, D.wait, -1, true⟩ else ⟨D.kept, D.now, D.wait, if D.fuse - 1 < -1 then -1 else D.fuse - 1, D.down⟩
def readV (D : DiskM) (n : Int) : Bytes × Int := if D.down = true then ([], 9) else if n < 0 ∨ (D.now.length : Int) ≤ n then ([], 1) else ((D.now[n.toNat]?).getD [], 0)
theorem readV_down {D : DiskM} {n : Int} (h : D.down = true) : readV D n = ([], 9) := by unfold readV; rw [if_pos h]
theorem readV_out {D : DiskM} {n : Int} (h : D.down = false) (hn : n < 0 ∨ (D.now.length : Int) ≤ n) : readV D n = ([], 1) := by unfold readV; rw [if_neg (by simp [h]), if_pos hn]
theorem readV_in {D : DiskM} {n : Int} {x : Bytes} (h : D.down = false) (hn : ¬ (n < 0 ∨ (D.now.length : Int) ≤ n)) (hx : D.now[n.toNat]? = some x) : readV D n = (x, 0) := by unfold readV; rw [if_neg (by simp [h]), if_neg hn, hx]; rfl
theorem strR_at {l : List Bytes} {k : Nat} {x : Bytes} (h : l[k]? = some x) : (strR l)[k]? = some [Str x] := by simp [strR, h]
def badW (D : DiskM) (n : Int) (s : Bytes) : Prop := n < 0 ∨ (D.now.length : Int) ≤ n ∨ 80 < s.length
instance (D : DiskM) (n : Int) (s : Bytes) : Decidable (badW D n s) := by unfold badW; infer_instance
def writeE (D : DiskM) (n : Int) (s : Bytes) : Int := if badW D n s then 1 else stepE D
def wroteD (D : DiskM) (n : Int) (s : Bytes) : DiskM := ⟨D.kept, D.now.set n.toNat (fullB s), D.wait ++ [(n.toNat, fullB s)], D.fuse, D.down⟩
def writeD (D : DiskM) (n : Int) (s : Bytes) : DiskM := if badW D n s then D else if stepE D = 0 then wroteD (stepD D) n s else stepD D
theorem stepD_now (D : DiskM) : (stepD D).now = D.now := by unfold stepD; split; rfl; split <;> rfl
theorem stepD_kept (D : DiskM) : (stepD D).kept = D.kept := by unfold stepD; split; rfl; split <;> rfl
theorem stepD_wait (D : DiskM) : (stepD D).wait = D.wait := by unfold stepD; split; rfl; split <;> rfl
theorem strR_set (l : List Bytes) (j : Nat) (x y : Bytes) : (strR l).set j ([Str x].set 0 (Str y)) = strR (l.set j y) := by simp [strR, List.map_set]
theorem turnR_app (l : List (Nat × Bytes)) {n : Int} (h : 0 ≤ n) (x : Bytes) : turnR l ++ [[I n, Str x]] = turnR (l ++ [(n.toNat, x)]) := by simp [turnR, Int.toNat_of_nonneg h]

theorem ct_disk_step (b : Nat) (D : DiskM) (hf : -1 ≤ D.fuse ∧ D.fuse ≤ 9223372036854775807) (F : List HProp) : Ct Try.prog 88 [ptr b 0] ([dsk 117 135 b (D)] ++ F) (R1 (errV (stepE D)) (dsk 117 135 b (stepD D) :: F)) := by
  show Ct Try.prog 88 [ptr b 0] (dsk 117 135 b (D) :: F) _
  refine Ct.of Try.func88 rfl 35 Try.ntmps88 (by simp) fun w0 => ?_
  refine g_open (dsk 117 135 b (D)) rfl ?_
  rintro ⟨⟨s1, c1⟩, ⟨s2, c2⟩, ⟨s3, c3⟩⟩
  show G _ _ _ (pt b (.cells #[sl s1 (D.kept).length c1, sl s2 (D.now).length c2, sl s3 (D.wait).length c3, I (D.fuse), Bo (D.down)] 117 (0, 0)) :: owL 9 1 s1 c1 (strR (D.kept)) :: owL 9 1 s2 c2 (strR (D.now)) :: owL 135 2 s3 c3 (turnR (D.wait)) :: F)
  refine g_seq ?_
  refine g_reg ?_
  refine g_v (v_assign rfl) rfl ?_
  refine g_nil ?_
  refine g_seq ?_
  refine g_seq ?_
  refine g_reg ?_
  refine g_v (v_move rfl) rfl ?_
  refine g_v (v_nilCheck rfl) rfl ?_
  refine g_v (v_fieldAddr 4 Try.underlying117 rfl rfl Try.sizeOf4 (by decide) rfl) rfl ?_
  refine g_v (v_load Try.isAgg4 rfl rfl) rfl ?_
  refine g_v (v_not rfl) rfl ?_
  refine g_v (v_move rfl) rfl ?_
  refine g_gv rfl rfl (fun hg => v_move rfl) rfl rfl ?_
  refine g_gv rfl rfl (fun hg => v_nilCheck rfl) rfl rfl ?_
  refine g_gv rfl rfl (fun hg => v_fieldAddr 3 Try.underlying117 rfl rfl Try.sizeOf3 (by decide) rfl) rfl rfl ?_
  refine g_gv rfl rfl (fun hg => v_load Try.isAgg3 rfl rfl) rfl rfl ?_
  refine g_gv rfl rfl (fun hg => v_eql rfl rfl) rfl rfl ?_
  refine g_v (v_and rfl rfl) rfl ?_
  refine g_nil ?_
  refine g_cond rfl (fun h14 => ?_) (fun h14 => ?_)
  · simp at h14
    obtain ⟨h14a, h14b⟩ := h14
    refine g_reg ?_
    refine g_v (v_move rfl) rfl ?_
    refine g_v (v_move rfl) rfl ?_
    refine g_v (v_nilCheck rfl) rfl ?_
    refine g_v (v_fieldAddr 4 Try.underlying117 rfl rfl Try.sizeOf4 (by decide) rfl) rfl ?_
    refine g_l0 (l_store #[sl s1 (D.kept).length c1, sl s2 (D.now).length c2, sl s3 (D.wait).length c3, I (D.fuse), Bo (true)] Try.sizeOf4 rfl rfl rfl (by simp) rfl) ?_
    rintro _ _ rfl
    refine g_v (v_nilCheck rfl) rfl ?_
    refine g_v (v_fieldAddr 3 Try.underlying117 rfl rfl Try.sizeOf3 (by decide) rfl) rfl ?_
    refine g_l0 (l_store #[sl s1 (D.kept).length c1, sl s2 (D.now).length c2, sl s3 (D.wait).length c3, I (-1), Bo (true)] Try.sizeOf3 rfl rfl rfl (by simp) rfl) ?_
    rintro _ _ rfl
    refine g_nil ?_
    refine g_seq ?_
    refine g_seq ?_
    refine g_reg ?_
    refine g_v (v_move rfl) rfl ?_
    refine g_v (v_nilCheck rfl) rfl ?_
    refine g_v (v_fieldAddr 4 Try.underlying117 rfl rfl Try.sizeOf4 (by decide) rfl) rfl ?_
    refine g_v (v_load Try.isAgg4 rfl rfl) rfl ?_
    refine g_nil ?_
    refine g_cond rfl (fun h24 => ?_) (fun h24 => ?_)
    · skip
      refine g_seq ?_
      refine g_reg ?_
      refine g_v (v_iface Try.underlying94 rfl rfl) rfl ?_
      refine g_v (v_assign rfl) rfl ?_
      refine g_nil ?_
      refine g_pack (A := dskP 117 135 b ⟨D.kept, D.now, D.wait, -1, true⟩) [pt b (.cells #[sl s1 (D.kept).length c1, sl s2 (D.now).length c2, sl s3 (D.wait).length c3, I (-1), Bo (true)] 117 (0, 0)), owL 9 1 s1 c1 (strR (D.kept)), owL 9 1 s2 c2 (strR (D.now)), owL 135 2 s3 c3 (turnR (D.wait))] (dsk 117 135 b (⟨D.kept, D.now, D.wait, -1, true⟩)) ((s1, c1), (s2, c2), (s3, c3)) rfl rfl ?_
      rw [show (⟨D.kept, D.now, D.wait, -1, true⟩ : DiskM) = stepD D by simp [stepD, h14a, h14b]]
      exact g_ret1 rfl rfl (by rw [show stepE D = 9 by simp [stepE, h14b]]; rfl)
    · cases h24
  · simp at h14
    refine g_skip ?_
    refine g_seq ?_
    refine g_seq ?_
    refine g_reg ?_
    refine g_v (v_move rfl) rfl ?_
    refine g_v (v_nilCheck rfl) rfl ?_
    refine g_v (v_fieldAddr 4 Try.underlying117 rfl rfl Try.sizeOf4 (by decide) rfl) rfl ?_
    refine g_v (v_load Try.isAgg4 rfl rfl) rfl ?_
    refine g_nil ?_
    refine g_cond rfl (fun h24 => ?_) (fun h24 => ?_)
    · skip
      refine g_seq ?_
      refine g_reg ?_
      refine g_v (v_iface Try.underlying94 rfl rfl) rfl ?_
      refine g_v (v_assign rfl) rfl ?_
      refine g_nil ?_
      refine g_pack (A := dskP 117 135 b ⟨D.kept, D.now, D.wait, D.fuse, D.down⟩) [pt b (.cells #[sl s1 (D.kept).length c1, sl s2 (D.now).length c2, sl s3 (D.wait).length c3, I (D.fuse), Bo (D.down)] 117 (0, 0)), owL 9 1 s1 c1 (strR (D.kept)), owL 9 1 s2 c2 (strR (D.now)), owL 135 2 s3 c3 (turnR (D.wait))] (dsk 117 135 b (⟨D.kept, D.now, D.wait, D.fuse, D.down⟩)) ((s1, c1), (s2, c2), (s3, c3)) rfl rfl ?_
      rw [show (⟨D.kept, D.now, D.wait, D.fuse, D.down⟩ : DiskM) = stepD D by unfold stepD; rw [if_pos h24]]
      exact g_ret1 rfl rfl (by rw [show stepE D = 9 by simp [stepE, h24]]; rfl)
    · skip
      refine g_skip ?_
      refine g_seq ?_
      refine g_reg ?_
      refine g_v (v_move rfl) rfl ?_
      refine g_v (v_move rfl) rfl ?_
      refine g_v (v_nilCheck rfl) rfl ?_
      refine g_v (v_fieldAddr 3 Try.underlying117 rfl rfl Try.sizeOf3 (by decide) rfl) rfl ?_
      refine g_v (v_load Try.isAgg3 rfl rfl) rfl ?_
      refine g_v (v_sub rfl rfl (w64 (by omega))) rfl ?_
      refine g_v (v_max rfl rfl) rfl ?_
      refine g_v (v_nilCheck rfl) rfl ?_
      refine g_v (v_fieldAddr 3 Try.underlying117 rfl rfl Try.sizeOf3 (by decide) rfl) rfl ?_
      refine g_l0 (l_store #[sl s1 (D.kept).length c1, sl s2 (D.now).length c2, sl s3 (D.wait).length c3, I (if D.fuse - 1 < -1 then -1 else D.fuse - 1), Bo (D.down)] Try.sizeOf3 rfl rfl rfl (by simp) rfl) ?_
      rintro _ _ rfl
      refine g_nil ?_
      refine g_seq ?_
      refine g_reg ?_
      refine g_v (v_assign rfl) rfl ?_
      refine g_nil ?_
      refine g_pack (A := dskP 117 135 b ⟨D.kept, D.now, D.wait, if D.fuse - 1 < -1 then -1 else D.fuse - 1, D.down⟩) [pt b (.cells #[sl s1 (D.kept).length c1, sl s2 (D.now).length c2, sl s3 (D.wait).length c3, I (if D.fuse - 1 < -1 then -1 else D.fuse - 1), Bo (D.down)] 117 (0, 0)), owL 9 1 s1 c1 (strR (D.kept)), owL 9 1 s2 c2 (strR (D.now)), owL 135 2 s3 c3 (turnR (D.wait))] (dsk 117 135 b (⟨D.kept, D.now, D.wait, if D.fuse - 1 < -1 then -1 else D.fuse - 1, D.down⟩)) ((s1, c1), (s2, c2), (s3, c3)) rfl rfl ?_
      rw [show (⟨D.kept, D.now, D.wait, if D.fuse - 1 < -1 then -1 else D.fuse - 1, D.down⟩ : DiskM) = stepD D by simp [stepD, h24, h14 h24]]
      exact g_ret1 rfl rfl (by rw [show stepE D = 0 by simp [stepE, h24, h14 h24]]; rfl)

theorem ct_disk_Sectors (b : Nat) (D : DiskM) (F : List HProp) : Ct Try.prog 63 [ptr b 0] ([dsk 117 135 b (D)] ++ F) (R1 (I D.now.length) (dsk 117 135 b (D) :: F)) := by
  show Ct Try.prog 63 [ptr b 0] (dsk 117 135 b (D) :: F) _
  refine Ct.of Try.func63 rfl 8 Try.ntmps63 (by simp) fun w0 => ?_
  refine g_open (dsk 117 135 b (D)) rfl ?_
  rintro ⟨⟨s1, c1⟩, ⟨s2, c2⟩, ⟨s3, c3⟩⟩
  show G _ _ _ (pt b (.cells #[sl s1 (D.kept).length c1, sl s2 (D.now).length c2, sl s3 (D.wait).length c3, I (D.fuse), Bo (D.down)] 117 (0, 0)) :: owL 9 1 s1 c1 (strR (D.kept)) :: owL 9 1 s2 c2 (strR (D.now)) :: owL 135 2 s3 c3 (turnR (D.wait)) :: F)
  refine g_seq ?_
  refine g_reg ?_
  refine g_v (v_assign rfl) rfl ?_
  refine g_nil ?_
  refine g_seq ?_
  refine g_reg ?_
  refine g_v (v_move rfl) rfl ?_
  refine g_v (v_nilCheck rfl) rfl ?_
  refine g_v (v_fieldAddr 1 Try.underlying117 rfl rfl Try.sizeOf28 (by decide) rfl) rfl ?_
  refine g_v (v_load Try.isAgg28 rfl rfl) rfl ?_
  refine g_v (v_len Try.underlying28 rfl) rfl ?_
  refine g_v (v_assign rfl) rfl ?_
  refine g_nil ?_
  refine g_pack (A := dskP 117 135 b ⟨D.kept, D.now, D.wait, D.fuse, D.down⟩) [pt b (.cells #[sl s1 (D.kept).length c1, sl s2 (D.now).length c2, sl s3 (D.wait).length c3, I (D.fuse), Bo (D.down)] 117 (0, 0)), owL 9 1 s1 c1 (strR (D.kept)), owL 9 1 s2 c2 (strR (D.now)), owL 135 2 s3 c3 (turnR (D.wait))] (dsk 117 135 b (⟨D.kept, D.now, D.wait, D.fuse, D.down⟩)) ((s1, c1), (s2, c2), (s3, c3)) rfl rfl ?_
  show G _ _ _ (dsk 117 135 b (D) :: F)
  exact g_ret1 rfl rfl rfl

theorem ct_disk_Down (b : Nat) (D : DiskM) (F : List HProp) : Ct Try.prog 68 [ptr b 0] ([dsk 117 135 b (D)] ++ F) (R1 (Bo D.down) (dsk 117 135 b (D) :: F)) := by
  show Ct Try.prog 68 [ptr b 0] (dsk 117 135 b (D) :: F) _
  refine Ct.of Try.func68 rfl 7 Try.ntmps68 (by simp) fun w0 => ?_
  refine g_open (dsk 117 135 b (D)) rfl ?_
  rintro ⟨⟨s1, c1⟩, ⟨s2, c2⟩, ⟨s3, c3⟩⟩
  show G _ _ _ (pt b (.cells #[sl s1 (D.kept).length c1, sl s2 (D.now).length c2, sl s3 (D.wait).length c3, I (D.fuse), Bo (D.down)] 117 (0, 0)) :: owL 9 1 s1 c1 (strR (D.kept)) :: owL 9 1 s2 c2 (strR (D.now)) :: owL 135 2 s3 c3 (turnR (D.wait)) :: F)
  refine g_seq ?_
  refine g_reg ?_
  refine g_v (v_assign rfl) rfl ?_
  refine g_nil ?_
  refine g_seq ?_
  refine g_reg ?_
  refine g_v (v_move rfl) rfl ?_
  refine g_v (v_nilCheck rfl) rfl ?_
  refine g_v (v_fieldAddr 4 Try.underlying117 rfl rfl Try.sizeOf4 (by decide) rfl) rfl ?_
  refine g_v (v_load Try.isAgg4 rfl rfl) rfl ?_
  refine g_v (v_assign rfl) rfl ?_
  refine g_nil ?_
  refine g_pack (A := dskP 117 135 b ⟨D.kept, D.now, D.wait, D.fuse, D.down⟩) [pt b (.cells #[sl s1 (D.kept).length c1, sl s2 (D.now).length c2, sl s3 (D.wait).length c3, I (D.fuse), Bo (D.down)] 117 (0, 0)), owL 9 1 s1 c1 (strR (D.kept)), owL 9 1 s2 c2 (strR (D.now)), owL 135 2 s3 c3 (turnR (D.wait))] (dsk 117 135 b (⟨D.kept, D.now, D.wait, D.fuse, D.down⟩)) ((s1, c1), (s2, c2), (s3, c3)) rfl rfl ?_
  show G _ _ _ (dsk 117 135 b (D) :: F)
  exact g_ret1 rfl rfl rfl

theorem ct_disk_Arm (b : Nat) (D : DiskM) (n : Int) (F : List HProp) : Ct Try.prog 32 [ptr b 0, I n] ([dsk 117 135 b (D)] ++ F) (R1 (.tuple #[]) (dsk 117 135 b (⟨D.kept, D.now, D.wait, if n < -1 then -1 else n, D.down⟩) :: F)) := by
  show Ct Try.prog 32 [ptr b 0, I n] (dsk 117 135 b (D) :: F) _
  refine Ct.of Try.func32 rfl 9 Try.ntmps32 (by simp) fun w0 => ?_
  refine g_open (dsk 117 135 b (D)) rfl ?_
  rintro ⟨⟨s1, c1⟩, ⟨s2, c2⟩, ⟨s3, c3⟩⟩
  show G _ _ _ (pt b (.cells #[sl s1 (D.kept).length c1, sl s2 (D.now).length c2, sl s3 (D.wait).length c3, I (D.fuse), Bo (D.down)] 117 (0, 0)) :: owL 9 1 s1 c1 (strR (D.kept)) :: owL 9 1 s2 c2 (strR (D.now)) :: owL 135 2 s3 c3 (turnR (D.wait)) :: F)
  refine g_reg ?_
  refine g_v (v_move rfl) rfl ?_
  refine g_v (v_move rfl) rfl ?_
  refine g_v (v_max rfl rfl) rfl ?_
  refine g_v (v_nilCheck rfl) rfl ?_
  refine g_v (v_fieldAddr 3 Try.underlying117 rfl rfl Try.sizeOf3 (by decide) rfl) rfl ?_
  refine g_l0 (l_store #[sl s1 (D.kept).length c1, sl s2 (D.now).length c2, sl s3 (D.wait).length c3, I (if n < -1 then -1 else n), Bo (D.down)] Try.sizeOf3 rfl rfl rfl (by simp) rfl) ?_
  rintro _ _ rfl
  refine g_nil ?_
  refine g_pack (A := dskP 117 135 b ⟨D.kept, D.now, D.wait, if n < -1 then -1 else n, D.down⟩) [pt b (.cells #[sl s1 (D.kept).length c1, sl s2 (D.now).length c2, sl s3 (D.wait).length c3, I (if n < -1 then -1 else n), Bo (D.down)] 117 (0, 0)), owL 9 1 s1 c1 (strR (D.kept)), owL 9 1 s2 c2 (strR (D.now)), owL 135 2 s3 c3 (turnR (D.wait))] (dsk 117 135 b (⟨D.kept, D.now, D.wait, if n < -1 then -1 else n, D.down⟩)) ((s1, c1), (s2, c2), (s3, c3)) rfl rfl ?_
  exact g_end1 rfl rfl rfl

theorem ct_disk_Read (b : Nat) (D : DiskM) (n : Int) (F : List HProp) : Ct Try.prog 69 [ptr b 0, I n] ([dsk 117 135 b (D)] ++ F) (R1 (.tuple #[Str (readV D n).1, errV (readV D n).2]) (dsk 117 135 b (D) :: F)) := by
  show Ct Try.prog 69 [ptr b 0, I n] (dsk 117 135 b (D) :: F) _
  refine Ct.of Try.func69 rfl 30 Try.ntmps69 (by simp) fun w0 => ?_
  refine g_open (dsk 117 135 b (D)) rfl ?_
  rintro ⟨⟨s1, c1⟩, ⟨s2, c2⟩, ⟨s3, c3⟩⟩
  show G _ _ _ (pt b (.cells #[sl s1 (D.kept).length c1, sl s2 (D.now).length c2, sl s3 (D.wait).length c3, I (D.fuse), Bo (D.down)] 117 (0, 0)) :: owL 9 1 s1 c1 (strR (D.kept)) :: owL 9 1 s2 c2 (strR (D.now)) :: owL 135 2 s3 c3 (turnR (D.wait)) :: F)
  refine g_seq ?_
  refine g_reg ?_
  refine g_v (v_assign rfl) rfl ?_
  refine g_v (v_assign rfl) rfl ?_
  refine g_nil ?_
  refine g_seq ?_
  refine g_seq ?_
  refine g_reg ?_
  refine g_v (v_move rfl) rfl ?_
  refine g_v (v_nilCheck rfl) rfl ?_
  refine g_v (v_fieldAddr 4 Try.underlying117 rfl rfl Try.sizeOf4 (by decide) rfl) rfl ?_
  refine g_v (v_load Try.isAgg4 rfl rfl) rfl ?_
  refine g_nil ?_
  refine g_cond rfl (fun h9 => ?_) (fun h9 => ?_)
  · skip
    refine g_seq ?_
    refine g_reg ?_
    refine g_v (v_iface Try.underlying94 rfl rfl) rfl ?_
    refine g_v (v_assign rfl) rfl ?_
    refine g_v (v_assign rfl) rfl ?_
    refine g_nil ?_
    refine g_pack (A := dskP 117 135 b ⟨D.kept, D.now, D.wait, D.fuse, D.down⟩) [pt b (.cells #[sl s1 (D.kept).length c1, sl s2 (D.now).length c2, sl s3 (D.wait).length c3, I (D.fuse), Bo (D.down)] 117 (0, 0)), owL 9 1 s1 c1 (strR (D.kept)), owL 9 1 s2 c2 (strR (D.now)), owL 135 2 s3 c3 (turnR (D.wait))] (dsk 117 135 b (⟨D.kept, D.now, D.wait, D.fuse, D.down⟩)) ((s1, c1), (s2, c2), (s3, c3)) rfl rfl ?_
    show G _ _ _ (dsk 117 135 b (D) :: F)
    exact g_ret1 rfl rfl (by rw [readV_down h9]; rfl)
  · skip
    refine g_skip ?_
    refine g_seq ?_
    refine g_seq ?_
    refine g_reg ?_
    refine g_v (v_move rfl) rfl ?_
    refine g_v (v_lss rfl rfl) rfl ?_
    refine g_v (v_move rfl) rfl ?_
    refine g_gv rfl rfl (fun hg => v_move rfl) rfl rfl ?_
    refine g_gv rfl rfl (fun hg => v_move rfl) rfl rfl ?_
    refine g_gv rfl rfl (fun hg => v_nilCheck rfl) rfl rfl ?_
    refine g_gv rfl rfl (fun hg => v_fieldAddr 1 Try.underlying117 rfl rfl Try.sizeOf28 (by decide) rfl) rfl rfl ?_
    refine g_gv rfl rfl (fun hg => v_load Try.isAgg28 rfl rfl) rfl rfl ?_
    refine g_gv rfl rfl (fun hg => v_len Try.underlying28 rfl) rfl rfl ?_
    refine g_gv rfl rfl (fun hg => v_geq rfl rfl) rfl rfl ?_
    refine g_v (v_or rfl rfl) rfl ?_
    refine g_nil ?_
    refine g_cond rfl (fun h21 => ?_) (fun h21 => ?_)
    · simp at h21
      refine g_seq ?_
      refine g_reg ?_
      refine g_v (v_iface Try.underlying94 rfl rfl) rfl ?_
      refine g_v (v_assign rfl) rfl ?_
      refine g_v (v_assign rfl) rfl ?_
      refine g_nil ?_
      refine g_pack (A := dskP 117 135 b ⟨D.kept, D.now, D.wait, D.fuse, D.down⟩) [pt b (.cells #[sl s1 (D.kept).length c1, sl s2 (D.now).length c2, sl s3 (D.wait).length c3, I (D.fuse), Bo (D.down)] 117 (0, 0)), owL 9 1 s1 c1 (strR (D.kept)), owL 9 1 s2 c2 (strR (D.now)), owL 135 2 s3 c3 (turnR (D.wait))] (dsk 117 135 b (⟨D.kept, D.now, D.wait, D.fuse, D.down⟩)) ((s1, c1), (s2, c2), (s3, c3)) rfl rfl ?_
      show G _ _ _ (dsk 117 135 b (D) :: F)
      exact g_ret1 rfl rfl (by rw [readV_out h9 (by omega)]; rfl)
    · simp at h21
      have hno : ¬ (n < 0 ∨ (D.now.length : Int) ≤ n) := by omega
      obtain ⟨x, hx⟩ : ∃ x, D.now[n.toNat]? = some x := ⟨_, List.getElem?_eq_getElem (by omega)⟩
      have hrow := strR_at hx
      have hlt : n.toNat < D.now.length := by omega
      have hlt2 : n.toNat < (strR D.now).length := by rw [strR_len]; exact hlt
      refine g_skip ?_
      refine g_seq ?_
      refine g_reg ?_
      refine g_v (v_move rfl) rfl ?_
      refine g_v (v_nilCheck rfl) rfl ?_
      refine g_v (v_fieldAddr 1 Try.underlying117 rfl rfl Try.sizeOf28 (by decide) rfl) rfl ?_
      refine g_v (v_load Try.isAgg28 rfl rfl) rfl ?_
      refine g_v (v_move rfl) rfl ?_
      refine g_v (v_idxS n.toNat Try.underlying28 Try.sizeOf9 rfl rfl (by omega) hlt hlt2) rfl ?_
      refine g_v (v_loadS0 Try.isAgg9 rfl hrow rfl) rfl ?_
      refine g_v (v_assign rfl) rfl ?_
      refine g_v (v_assign rfl) rfl ?_
      refine g_nil ?_
      refine g_pack (A := dskP 117 135 b ⟨D.kept, D.now, D.wait, D.fuse, D.down⟩) [pt b (.cells #[sl s1 (D.kept).length c1, sl s2 (D.now).length c2, sl s3 (D.wait).length c3, I (D.fuse), Bo (D.down)] 117 (0, 0)), owL 9 1 s1 c1 (strR (D.kept)), owL 9 1 s2 c2 (strR (D.now)), owL 135 2 s3 c3 (turnR (D.wait))] (dsk 117 135 b (⟨D.kept, D.now, D.wait, D.fuse, D.down⟩)) ((s1, c1), (s2, c2), (s3, c3)) rfl rfl ?_
      show G _ _ _ (dsk 117 135 b (D) :: F)
      exact g_ret1 rfl rfl (by rw [readV_in h9 hno hx]; rfl)

-- (*counterfoil/counterfoilref.Disk).Read is not in this seat
-- (*counterfoil/counterfoilref.Disk).step is not in this seat
theorem ct_disk_Write (b : Nat) (D : DiskM) (n : Int) (s : Bytes) (hf : -1 ≤ D.fuse ∧ D.fuse ≤ 9223372036854775807) (hw : D.wait.length ≤ 1000000) (F : List HProp) : Ct Try.prog 59 [ptr b 0, I n, Str s] ([dsk 117 135 b (D)] ++ F) (R1 (errV (writeE D n s)) (dsk 117 135 b (writeD D n s) :: F)) := by
  show Ct Try.prog 59 [ptr b 0, I n, Str s] (dsk 117 135 b (D) :: F) _
  refine Ct.of Try.func59 rfl 56 Try.ntmps59 (by simp) fun w0 => ?_
  refine g_open (dsk 117 135 b (D)) rfl ?_
  rintro ⟨⟨s1, c1⟩, ⟨s2, c2⟩, ⟨s3, c3⟩⟩
  show G _ _ _ (pt b (.cells #[sl s1 (D.kept).length c1, sl s2 (D.now).length c2, sl s3 (D.wait).length c3, I (D.fuse), Bo (D.down)] 117 (0, 0)) :: owL 9 1 s1 c1 (strR (D.kept)) :: owL 9 1 s2 c2 (strR (D.now)) :: owL 135 2 s3 c3 (turnR (D.wait)) :: F)
  refine g_seq ?_
  refine g_reg ?_
  refine g_v (v_assign rfl) rfl ?_
  refine g_nil ?_
  refine g_seq ?_
  refine g_seq ?_
  refine g_reg ?_
  refine g_v (v_move rfl) rfl ?_
  refine g_v (v_lss rfl rfl) rfl ?_
  refine g_v (v_move rfl) rfl ?_
  refine g_gv rfl rfl (fun hg => v_move rfl) rfl rfl ?_
  refine g_gv rfl rfl (fun hg => v_move rfl) rfl rfl ?_
  refine g_gv rfl rfl (fun hg => v_nilCheck rfl) rfl rfl ?_
  refine g_gv rfl rfl (fun hg => v_fieldAddr 1 Try.underlying117 rfl rfl Try.sizeOf28 (by decide) rfl) rfl rfl ?_
  refine g_gv rfl rfl (fun hg => v_load Try.isAgg28 rfl rfl) rfl rfl ?_
  refine g_gv rfl rfl (fun hg => v_len Try.underlying28 rfl) rfl rfl ?_
  refine g_gv rfl rfl (fun hg => v_geq rfl rfl) rfl rfl ?_
  refine g_v (v_or rfl rfl) rfl ?_
  refine g_v (v_move rfl) rfl ?_
  refine g_gv rfl rfl (fun hg => v_move rfl) rfl rfl ?_
  refine g_gv rfl rfl (fun hg => v_slen Try.underlying9 rfl) rfl rfl ?_
  refine g_gv rfl rfl (fun hg => v_gtr rfl rfl) rfl rfl ?_
  refine g_v (v_or rfl rfl) rfl ?_
  refine g_nil ?_
  refine g_cond rfl (fun h23 => ?_) (fun h23 => ?_)
  · simp at h23
    have hbad : badW D n s := by unfold badW; omega
    refine g_seq ?_
    refine g_reg ?_
    refine g_v (v_iface Try.underlying94 rfl rfl) rfl ?_
    refine g_v (v_assign rfl) rfl ?_
    refine g_nil ?_
    refine g_pack (A := dskP 117 135 b ⟨D.kept, D.now, D.wait, D.fuse, D.down⟩) [pt b (.cells #[sl s1 (D.kept).length c1, sl s2 (D.now).length c2, sl s3 (D.wait).length c3, I (D.fuse), Bo (D.down)] 117 (0, 0)), owL 9 1 s1 c1 (strR (D.kept)), owL 9 1 s2 c2 (strR (D.now)), owL 135 2 s3 c3 (turnR (D.wait))] (dsk 117 135 b (⟨D.kept, D.now, D.wait, D.fuse, D.down⟩)) ((s1, c1), (s2, c2), (s3, c3)) rfl rfl ?_
    show G _ _ _ (dsk 117 135 b (D) :: F)
    have eD : writeD D n s = D := by unfold writeD; rw [if_pos hbad]
    rw [show dsk 117 135 b (D) = dsk 117 135 b (writeD D n s) by rw [eD]]
    exact g_ret1 rfl rfl (by rw [show writeE D n s = 1 by unfold writeE; rw [if_pos hbad]]; rfl)
  · simp at h23
    have hbad : ¬ badW D n s := by unfold badW; omega
    refine g_skip ?_
    refine g_seq ?_
    refine g_reg ?_
    refine g_v (v_move rfl) rfl ?_
    refine g_pack (A := dskP 117 135 b ⟨D.kept, D.now, D.wait, D.fuse, D.down⟩) [pt b (.cells #[sl s1 (D.kept).length c1, sl s2 (D.now).length c2, sl s3 (D.wait).length c3, I (D.fuse), Bo (D.down)] 117 (0, 0)), owL 9 1 s1 c1 (strR (D.kept)), owL 9 1 s2 c2 (strR (D.now)), owL 135 2 s3 c3 (turnR (D.wait))] (dsk 117 135 b (⟨D.kept, D.now, D.wait, D.fuse, D.down⟩)) ((s1, c1), (s2, c2), (s3, c3)) rfl rfl ?_
    show G _ _ _ (dsk 117 135 b (D) :: F)
    refine g_l (l_call (Pre := [dsk 117 135 b (D)]) Try.call88 rfl (ct_disk_step b D hf)) rfl ?_
    rintro _ _ ⟨rfl, rfl⟩
    have hnow := stepD_now D
    have hwait := stepD_wait D
    generalize hD1 : stepD D = D1 at *
    refine g_v (v_assign rfl) rfl ?_
    refine g_nil ?_
    refine g_seq ?_
    refine g_seq ?_
    refine g_reg ?_
    refine g_v (v_move rfl) rfl ?_
    refine g_v (v_ieql Try.underlying33 rfl) rfl ?_
    refine g_nil ?_
    refine g_cond rfl (fun h28 => ?_) (fun h28 => ?_)
    · simp at h28
      have he0 : stepE D = 0 := h28
      refine g_open (dsk 117 135 b (D1)) rfl ?_
      rintro ⟨⟨s1, c1⟩, ⟨s2, c2⟩, ⟨s3, c3⟩⟩
      show G _ _ _ (pt b (.cells #[sl s1 (D1.kept).length c1, sl s2 (D1.now).length c2, sl s3 (D1.wait).length c3, I (D1.fuse), Bo (D1.down)] 117 (0, 0)) :: owL 9 1 s1 c1 (strR (D1.kept)) :: owL 9 1 s2 c2 (strR (D1.now)) :: owL 135 2 s3 c3 (turnR (D1.wait)) :: F)
      rw [← hnow] at h23
      rw [← hwait] at hw
      obtain ⟨x, hx⟩ : ∃ x, D1.now[n.toNat]? = some x := ⟨_, List.getElem?_eq_getElem (by omega)⟩
      have hrow := strR_at hx
      have hlt : n.toNat < D1.now.length := by omega
      have hlt2 : n.toNat < (strR D1.now).length := by rw [strR_len]; exact hlt
      have hy : (D1.now.set n.toNat (fullB s))[n.toNat]? = some (fullB s) := by simp [hlt]
      have hrow2 := strR_at hy
      refine g_seq ?_
      refine g_drawZ (Lf := pt b (.cells #[sl s1 (D1.kept).length c1, sl s2 (D1.now).length c2, sl s3 (D1.wait).length c3, I (D1.fuse), Bo (D1.down)] 117 (0, 0)) :: owL 9 1 s2 c2 (strR (D1.now)) :: F) [(0, false), (1, false), (2, false), (3, false), (4, false), (5, false), (6, true), (7, false)] 8 rfl (by kernel_rfl) (by kernel_rfl) rfl (by kernel_rfl) (by kernel_rfl) ?_
      refine d_v rfl (v_move rfl) rfl ?_
      refine d_v rfl (v_nilCheck rfl) rfl ?_
      refine d_v rfl (v_fieldAddr 1 Try.underlying117 rfl rfl Try.sizeOf28 (by decide) rfl) rfl ?_
      refine d_v rfl (v_load Try.isAgg28 rfl rfl) rfl ?_
      refine d_v rfl (v_move rfl) rfl ?_
      refine d_v rfl (v_move rfl) rfl ?_
      refine d_l rfl (l_call (Pre := []) Try.call83 rfl (ct_disk_full s (by omega))) rfl ?_
      rintro _ _ ⟨rfl, rfl⟩
      refine d_v rfl (v_idxS n.toNat Try.underlying28 Try.sizeOf9 rfl rfl (by omega) hlt hlt2) rfl ?_
      refine d_nil ?_
      refine g_l0 (l_storeS0 (row := [Str x]) Try.sizeOf9 rfl rfl rfl hrow (by decide)) ?_
      rintro _ _ rfl
      rw [strR_set]
      refine g_nil ?_
      refine g_drawZ (Lf := pt b (.cells #[sl s1 (D1.kept).length c1, sl s2 (D1.now).length c2, sl s3 (D1.wait).length c3, I (D1.fuse), Bo (D1.down)] 117 (0, 0)) :: owL 9 1 s2 c2 (strR (D1.now.set n.toNat (fullB s))) :: F) [(0, false), (1, false), (2, false), (3, false), (4, false), (5, false), (6, false), (7, false), (8, false), (9, false), (10, false), (11, false), (12, false), (13, false), (14, true), (15, true), (16, false), (17, false)] 18 rfl (by kernel_rfl) (by kernel_rfl) rfl (by kernel_rfl) (by kernel_rfl) ?_
      refine d_v rfl (v_move rfl) rfl ?_
      refine d_v rfl (v_move rfl) rfl ?_
      refine d_v rfl (v_nilCheck rfl) rfl ?_
      refine d_v rfl (v_fieldAddr 2 Try.underlying117 rfl rfl Try.sizeOf115 (by decide) rfl) rfl ?_
      refine d_v rfl (v_load Try.isAgg115 rfl rfl) rfl ?_
      refine d_v rfl (v_move rfl) rfl ?_
      refine d_v rfl (v_move rfl) rfl ?_
      refine d_v rfl (v_nilCheck rfl) rfl ?_
      refine d_v rfl (v_fieldAddr 1 Try.underlying117 rfl rfl Try.sizeOf28 (by decide) rfl) rfl ?_
      refine d_v rfl (v_load Try.isAgg28 rfl rfl) rfl ?_
      refine d_v rfl (v_move rfl) rfl ?_
      refine d_v rfl (v_idxS n.toNat Try.underlying28 Try.sizeOf9 rfl rfl (by omega) hlt (by rw [strR_len, List.length_set]; exact hlt)) rfl ?_
      refine d_v rfl (v_loadS0 Try.isAgg9 rfl hrow2 rfl) rfl ?_
      refine d_v rfl (v_build rfl (bld135_0_1 _ rfl _ rfl)) rfl ?_
      refine d_l rfl (l_buildSlice [[I n, Str (fullB s)]] Try.underlying115 Try.sizeOf135 Try.zeroValue135 rfl rfl rfl (by simp) (by decide) (by decide)) rfl ?_
      rintro _ _ ⟨b51, rfl, rfl⟩
      refine d_l rfl (l_append Try.underlying115 Try.sizeOf135 Try.zeroValue135 rfl Try.typeInfo135 (by decide) rfl rfl (turnR_len _) rfl (by simp) (by simp [ones, one]) ⟨by omega, by decide, by decide⟩) rfl ?_
      rintro _ _ ⟨s52, c52, rfl, rfl⟩
      rw [turnR_app _ (by omega)]
      refine d_v rfl (v_nilCheck rfl) rfl ?_
      refine d_v rfl (v_fieldAddr 2 Try.underlying117 rfl rfl Try.sizeOf115 (by decide) rfl) rfl ?_
      refine d_nil ?_
      refine g_l0 (l_store #[sl s1 (D1.kept).length c1, sl s2 (D1.now).length c2, sl s52 (D1.wait.length + 1) c52, I (D1.fuse), Bo (D1.down)] Try.sizeOf115 rfl rfl rfl (by simp) rfl) ?_
      rintro _ _ rfl
      refine g_nil ?_
      refine g_seq ?_
      refine g_reg ?_
      refine g_v (v_move rfl) rfl ?_
      refine g_v (v_assign rfl) rfl ?_
      refine g_nil ?_
      refine g_pack (A := dskP 117 135 b (wroteD D1 n s)) [pt b (.cells #[sl s1 (D1.kept).length c1, sl s2 (D1.now).length c2, sl s52 (D1.wait.length + 1) c52, I (D1.fuse), Bo (D1.down)] 117 (0, 0)), owL 9 1 s1 c1 (strR (D1.kept)), owL 9 1 s2 c2 (strR (D1.now.set n.toNat (fullB s))), owL 135 2 s52 c52 (turnR (D1.wait ++ [(n.toNat, fullB s)]))] (dsk 117 135 b (wroteD D1 n s)) ((s1, c1), (s2, c2), (s52, c52)) rfl (by simp [dskP, wroteD]) ?_
      rw [show wroteD D1 n s = writeD D n s by unfold writeD; rw [if_neg hbad, if_pos he0, hD1]]
      exact g_ret1 rfl rfl (by rw [show writeE D n s = stepE D by unfold writeE; rw [if_neg hbad]]; rfl)
    · simp at h28
      have he0 : ¬ stepE D = 0 := h28
      refine g_skip ?_
      refine g_seq ?_
      refine g_reg ?_
      refine g_v (v_move rfl) rfl ?_
      refine g_v (v_assign rfl) rfl ?_
      refine g_nil ?_
      rw [show D1 = writeD D n s by unfold writeD; rw [if_neg hbad, if_neg he0, hD1]]
      exact g_ret1 rfl rfl (by rw [show writeE D n s = stepE D by unfold writeE; rw [if_neg hbad]]; rfl)

end Go.Proofs.Ythdjckbjjfiopac
