/- Walks through restarting a disk. No condition. -/
import Derived.Test.YthdjckbjjfiopacDisk2
namespace Go.Proofs.Ythdjckbjjfiopac
open Go.Sl Go.Proofs
set_option linter.unusedVariables false
set_option linter.unusedSimpArgs false
def kb (keep : Int) (i : Nat) : Bool := decide (keep.fdiv (2 ^ (i % 64)) % 2 = 1)
def restK (keep : Int) (w : List (Nat × Bytes)) (l : List Bytes) : Nat → List Bytes
  | 0 => l
  | k + 1 => match w[k]? with
    | some t => if kb keep k = true then (restK keep w l k).set t.1 t.2 else restK keep w l k
    | none => restK keep w l k
theorem restK_len (keep : Int) (w : List (Nat × Bytes)) (l : List Bytes) : ∀ k, (restK keep w l k).length = l.length
  | 0 => rfl
  | k + 1 => by
    unfold restK
    split
    · split
      · rw [List.length_set, restK_len keep w l k]
      · exact restK_len keep w l k
    · exact restK_len keep w l k
theorem restK_hit {keep : Int} {w : List (Nat × Bytes)} {l : List Bytes} {k : Nat} {t : Nat × Bytes} (ht : w[k]? = some t) (h : kb keep k = true) : restK keep w l (k + 1) = (restK keep w l k).set t.1 t.2 := by simp [restK, ht, h]
theorem restK_miss {keep : Int} {w : List (Nat × Bytes)} {l : List Bytes} {k : Nat} {t : Nat × Bytes} (ht : w[k]? = some t) (h : kb keep k = false) : restK keep w l (k + 1) = restK keep w l k := by simp [restK, ht, h]
def restL (keep : Int) (D : DiskM) : List Bytes := restK keep D.wait D.kept D.wait.length
def restD (keep : Int) (D : DiskM) : DiskM := ⟨restL keep D, restL keep D, [], -1, false⟩
theorem shrU_bd {keep : Int} (h : 0 ≤ keep ∧ keep < 18446744073709551616) (j : Nat) : 0 ≤ keep.fdiv (2 ^ j) ∧ keep.fdiv (2 ^ j) < 18446744073709551616 := by
  have hp : (0 : Int) < 2 ^ j := Int.pow_pos (by decide)
  rw [Int.fdiv_eq_ediv_of_nonneg _ (by omega)]
  have h1 := Int.ediv_nonneg h.1 (Int.le_of_lt hp)
  have h2 := Int.ediv_le_self (2 ^ j) h.1
  omega
theorem turnR_at {l : List (Nat × Bytes)} {k : Nat} {t : Nat × Bytes} (h : l[k]? = some t) : (turnR l)[k]? = some [I t.1, Str t.2] := by simp [turnR, h]
theorem copy_all' {r1 r2 : List Bytes} {m q : Nat} (h : r1.length = r2.length) (hm : m = r2.length) (hq : q = r1.length) : (strR r1).take 0 ++ ((strR r2).drop 0).take (Nat.min m q) ++ (strR r1).drop (0 + Nat.min m q) = strR r2 := by
  subst hm hq
  exact copy_all h

theorem ct_disk_Restart (b : Nat) (D : DiskM) (keep : Int) (hkeep : 0 ≤ keep ∧ keep < 18446744073709551616) (hkn : D.kept.length = D.now.length) (hwt : ∀ t ∈ D.wait, t.1 < D.now.length) (hw : D.wait.length ≤ 1000000) (F : List HProp) : Ct Try.prog 36 [ptr b 0, Uw keep] ([dsk 117 135 b (D)] ++ F) (R1 (.tuple #[]) (dsk 117 135 b (restD keep D) :: F)) := by
  show Ct Try.prog 36 [ptr b 0, Uw keep] (dsk 117 135 b (D) :: F) _
  refine Ct.of Try.func36 rfl 50 Try.ntmps36 (by simp) fun w0 => ?_
  refine g_open (dsk 117 135 b (D)) rfl ?_
  rintro ⟨⟨s1, c1⟩, ⟨s2, c2⟩, ⟨s3, c3⟩⟩
  show G _ _ _ (pt b (.cells #[sl s1 (D.kept).length c1, sl s2 (D.now).length c2, sl s3 (D.wait).length c3, I (D.fuse), Bo (D.down)] 117 (0, 0)) :: owL 9 1 s1 c1 (strR (D.kept)) :: owL 9 1 s2 c2 (strR (D.now)) :: owL 135 2 s3 c3 (turnR (D.wait)) :: F)
  rw [show strR D.kept = strR (restK keep D.wait D.kept 0) from rfl]
  refine g_seq ?_
  refine g_seq ?_
  refine g_reg ?_
  refine g_v (v_move rfl) rfl ?_
  refine g_v (v_nilCheck rfl) rfl ?_
  refine g_v (v_fieldAddr 2 Try.underlying117 rfl rfl Try.sizeOf115 (by decide) rfl) rfl ?_
  refine g_v (v_load Try.isAgg115 rfl rfl) rfl ?_
  refine g_v (v_len Try.underlying115 rfl) rfl ?_
  refine g_v (v_move rfl) rfl ?_
  refine g_nil ?_
  refine g_block ?_
  refine g_loop (α := Nat) (fun k => k ≤ D.wait.length) (fun k => U [(0, ptr b 0), (1, Uw keep), (9, sl s3 D.wait.length c3), (10, I D.wait.length), (11, I k)]) (fun k => pt b (.cells #[sl s1 (D.kept).length c1, sl s2 (D.now).length c2, sl s3 (D.wait).length c3, I (D.fuse), Bo (D.down)] 117 (0, 0)) :: owL 9 1 s1 c1 (strR (restK keep D.wait D.kept k)) :: owL 9 1 s2 c2 (strR (D.now)) :: owL 135 2 s3 c3 (turnR (D.wait)) :: F) (fun k => D.wait.length - k) 0 (by simp) [0, 1, 9, 10, 11] rfl rfl ?_
  intro k hk
  refine g_seq ?_
  refine g_reg ?_
  refine g_v (v_lss rfl rfl) rfl ?_
  refine g_nil ?_
  refine g_seq ?_
  refine g_cond rfl (fun h12 => ?_) (fun h12 => ?_)
  · simp at h12
    have hkw : k < D.wait.length := by omega
    obtain ⟨t, ht⟩ : ∃ t, D.wait[k]? = some t := ⟨_, List.getElem?_eq_getElem hkw⟩
    have htr := turnR_at ht
    have hkw2 : k < (turnR D.wait).length := by rw [turnR_len]; exact hkw
    have htn := hwt t (List.mem_of_getElem? ht)
    have hrl := restK_len keep D.wait D.kept k
    have htl : t.1 < (restK keep D.wait D.kept k).length := by omega
    obtain ⟨x, hx⟩ : ∃ x, (restK keep D.wait D.kept k)[t.1]? = some x := ⟨_, List.getElem?_eq_getElem htl⟩
    have hrow := strR_at hx
    have hlt : t.1 < D.kept.length := by omega
    have hlt2 : t.1 < (strR (restK keep D.wait D.kept k)).length := by rw [strR_len]; exact htl
    refine g_skip ?_
    refine g_seq ?_
    refine g_block ?_
    refine g_seq ?_
    refine g_reg ?_
    refine g_v (v_move rfl) rfl ?_
    refine g_v (v_idxS k Try.underlying115 Try.sizeOf135 rfl rfl rfl hkw hkw2) rfl ?_
    refine g_v (v_loadAS (row := [I t.1, Str t.2]) Try.isAgg135 Try.sizeOf135 rfl htr rfl) rfl ?_
    refine g_l (l_alloc #[I 0, Str []] Try.zeroValue135) rfl ?_
    rintro _ _ ⟨b5, rfl, rfl⟩
    refine g_v (v_assign rfl) rfl ?_
    refine g_l0 (l_storeA #[I t.1, Str t.2] Try.sizeOf135 rfl rfl rfl rfl (by decide) rfl) ?_
    rintro _ _ rfl
    refine g_nil ?_
    refine g_seq ?_
    refine g_reg ?_
    refine g_v (v_move rfl) rfl ?_
    refine g_v (v_move rfl) rfl ?_
    refine g_v (v_rem (r := ((k % 64 : Nat) : Int)) rfl rfl (by decide) (by rw [Int.tmod_eq_emod_of_nonneg (by omega)]; omega)) rfl ?_
    refine g_v (v_shr (r := keep.fdiv (2 ^ (k % 64))) rfl rfl (by omega) (by rw [show min (((k % 64 : Nat) : Int).toNat) IntKind.u64.bits = k % 64 by simp [IntKind.bits]; omega])) rfl ?_
    refine g_v (v_maskU 1 rfl (shrU_bd hkeep _) (by decide) (by decide)) rfl ?_
    refine g_v (v_eql rfl rfl) rfl ?_
    refine g_nil ?_
    refine g_cond rfl (fun h21 => ?_) (fun h21 => ?_)
    · have hkb : kb keep k = true := by unfold kb; simpa using h21
      refine g_drawZ (Lf := pt b5 (.cells #[I t.1, Str t.2] 135 (0, 0)) :: pt b (.cells #[sl s1 (D.kept).length c1, sl s2 (D.now).length c2, sl s3 (D.wait).length c3, I (D.fuse), Bo (D.down)] 117 (0, 0)) :: owL 9 1 s1 c1 (strR (restK keep D.wait D.kept k)) :: owL 9 1 s2 c2 (strR (D.now)) :: owL 135 2 s3 c3 (turnR (D.wait)) :: F) [(0, false), (1, false), (2, false), (3, false), (4, false), (5, false), (6, false), (7, false), (8, false)] 9 rfl (by kernel_rfl) (by kernel_rfl) rfl (by kernel_rfl) (by kernel_rfl) ?_
      refine d_v rfl (v_move rfl) rfl ?_
      refine d_v rfl (v_nilCheck rfl) rfl ?_
      refine d_v rfl (v_fieldAddr 0 Try.underlying117 rfl rfl Try.sizeOf28 (by decide) rfl) rfl ?_
      refine d_v rfl (v_load Try.isAgg28 rfl rfl) rfl ?_
      refine d_v rfl (v_fieldAddr 0 Try.underlying135 rfl rfl Try.sizeOf3 (by decide) rfl) rfl ?_
      refine d_v rfl (v_load (v := I t.1) Try.isAgg3 rfl rfl) rfl ?_
      refine d_v rfl (v_fieldAddr 1 Try.underlying135 rfl rfl Try.sizeOf9 (by decide) rfl) rfl ?_
      refine d_v rfl (v_load (v := Str t.2) Try.isAgg9 rfl rfl) rfl ?_
      refine d_v rfl (v_idxS t.1 Try.underlying28 Try.sizeOf9 rfl rfl rfl hlt hlt2) rfl ?_
      refine d_nil ?_
      refine g_l0 (l_storeS0 (row := [Str x]) Try.sizeOf9 rfl rfl rfl hrow (by decide)) ?_
      rintro _ _ rfl
      rw [strR_set]
      refine g_nil ?_
      refine g_blk ?_
      refine g_reg ?_
      refine g_v (v_add rfl rfl (w64 (by omega))) rfl ?_
      refine g_v (v_move rfl) rfl ?_
      refine g_nil ?_
      rw [← restK_hit (l := D.kept) ht hkb]
      exact g_again (k + 1) (by omega) (by omega) [0, 1, 9, 10, 11] rfl rfl
    · have hkb : kb keep k = false := by unfold kb; simpa using h21
      refine g_skip ?_
      refine g_blk ?_
      refine g_reg ?_
      refine g_v (v_add rfl rfl (w64 (by omega))) rfl ?_
      refine g_v (v_move rfl) rfl ?_
      refine g_nil ?_
      rw [← restK_miss (l := D.kept) ht hkb]
      exact g_again (k + 1) (by omega) (by omega) [0, 1, 9, 10, 11] rfl rfl
  · simp at h12
    obtain rfl : k = D.wait.length := by omega
    rw [show restK keep D.wait D.kept D.wait.length = restL keep D from rfl]
    refine g_exit rfl ?_
    refine g_seq ?_
    refine g_draw (Lf := pt b (.cells #[sl s1 (D.kept).length c1, sl s2 (D.now).length c2, sl s3 (D.wait).length c3, I (D.fuse), Bo (D.down)] 117 (0, 0)) :: F) [(0, false), (1, false), (2, false), (3, false), (4, false), (5, false), (6, false), (7, false), (8, true)] (by kernel_rfl) (by kernel_rfl) rfl (by kernel_rfl) ?_
    refine d_v rfl (v_move rfl) rfl ?_
    refine d_v rfl (v_nilCheck rfl) rfl ?_
    refine d_v rfl (v_fieldAddr 1 Try.underlying117 rfl rfl Try.sizeOf28 (by decide) rfl) rfl ?_
    refine d_v rfl (v_load Try.isAgg28 rfl rfl) rfl ?_
    refine d_v rfl (v_move rfl) rfl ?_
    refine d_v rfl (v_nilCheck rfl) rfl ?_
    refine d_v rfl (v_fieldAddr 0 Try.underlying117 rfl rfl Try.sizeOf28 (by decide) rfl) rfl ?_
    refine d_v rfl (v_load Try.isAgg28 rfl rfl) rfl ?_
    refine d_l rfl (l_copy (s := s2) (s2 := s1) (l := 0) (p := 0) Try.underlying28 Try.sizeOf9 (by decide) rfl rfl (.inl ⟨rfl, rfl⟩) (.inl ⟨rfl, rfl⟩) (by simp [strR]) (by simp [strR, restK_len, restL]) (by simp [strR]) (by simp [strR, ones, one])) rfl ?_
    rintro _ _ ⟨rfl, rfl⟩
    refine g_owEq s2 (strR (restL keep D)) (copy_all' (by simp [restL, restK_len, hkn]) (by simp [restL, restK_len]) rfl) ?_
    refine d_nil ?_
    refine g_reg ?_
    refine g_v (v_move rfl) rfl ?_
    refine g_v (v_move rfl) rfl ?_
    refine g_v (v_move rfl) rfl ?_
    refine g_v (v_nilCheck rfl) rfl ?_
    refine g_v (v_fieldAddr 2 Try.underlying117 rfl rfl Try.sizeOf115 (by decide) rfl) rfl ?_
    refine g_l0 (l_store #[sl s1 (D.kept).length c1, sl s2 (D.now).length c2, sl none 0 0, I (D.fuse), Bo (D.down)] Try.sizeOf115 rfl rfl rfl (by simp) rfl) ?_
    rintro _ _ rfl
    refine g_v (v_nilCheck rfl) rfl ?_
    refine g_v (v_fieldAddr 4 Try.underlying117 rfl rfl Try.sizeOf4 (by decide) rfl) rfl ?_
    refine g_l0 (l_store #[sl s1 (D.kept).length c1, sl s2 (D.now).length c2, sl none 0 0, I (D.fuse), Bo (false)] Try.sizeOf4 rfl rfl rfl (by simp) rfl) ?_
    rintro _ _ rfl
    refine g_v (v_nilCheck rfl) rfl ?_
    refine g_v (v_fieldAddr 3 Try.underlying117 rfl rfl Try.sizeOf3 (by decide) rfl) rfl ?_
    refine g_l0 (l_store #[sl s1 (D.kept).length c1, sl s2 (D.now).length c2, sl none 0 0, I (-1), Bo (false)] Try.sizeOf3 rfl rfl rfl (by simp) rfl) ?_
    rintro _ _ rfl
    refine g_nil ?_
    refine g_nilown 135 2 (turnR []) rfl ?_
    refine g_pack (A := dskP 117 135 b (restD keep D)) [pt b (.cells #[sl s1 (D.kept).length c1, sl s2 (D.now).length c2, sl none 0 0, I (-1), Bo (false)] 117 (0, 0)), owL 9 1 s1 c1 (strR (restL keep D)), owL 9 1 s2 c2 (strR (restL keep D)), owL 135 2 none 0 (turnR [])] (dsk 117 135 b (restD keep D)) ((s1, c1), (s2, c2), (none, 0)) rfl (by simp [dskP, restD, restL, restK_len, hkn]) ?_
    exact g_end1 rfl rfl rfl

-- (*counterfoil/counterfoilref.Disk).Restart is not in this seat
end Go.Proofs.Ythdjckbjjfiopac
