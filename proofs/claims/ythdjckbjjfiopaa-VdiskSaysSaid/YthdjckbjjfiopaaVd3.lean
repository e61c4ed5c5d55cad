/- Walks through package vdisk: sizes, snapshots, reading. No condition. -/
import Derived.Test.YthdjckbjjfiopaaVd2
namespace Go.Proofs.Ythdjckbjjfiopaa
open Go.Sl Go.Proofs
set_option linter.unusedVariables false
set_option linter.unusedSimpArgs false
theorem areaM_zero {m : Nat → Bool} {fr mn : Int} (h : mn ≤ 0) : areaM m fr mn = m := funext fun p => by
  unfold areaM
  rw [decide_eq_false (by omega)]
  simp
theorem mark_eq (D : VdM) (fr mn : Int) : markD D fr mn = ⟨D.size, D.blocks, areaM D.dirty fr mn, D.time, D.next, D.snaps⟩ := by
  unfold markD
  split
  · rfl
  · rw [areaM_zero (by omega)]
def snE (D : VdM) : Int := if D.snaps.length = 5 ∨ 999 < D.next then 8 else 0
def snI (D : VdM) : Int := if snE D = 0 then D.next else 0
def snD (D : VdM) : VdM := if snE D = 0 then ⟨D.size, D.blocks, fun _ => false, D.time, D.next + 1, D.snaps ++ [⟨D.next, D.time, D.size, D.blocks, D.dirty⟩]⟩ else D
def rsE (n : Int) : Int := if n < 1 ∨ 16 < n then 1 else 0
def rsB (B : Nat → Bytes) (lo hi : Int) : Nat → Bytes := fun i => if lo ≤ (i : Int) ∧ (i : Int) < hi then [] else B i
def loS (D : VdM) (n : Int) : Int := if D.size < n then D.size else n
def hiS (D : VdM) (n : Int) : Int := if n < D.size then D.size else n
def rsD (D : VdM) (n : Int) : VdM := if rsE n = 0 then ⟨n, rsB D.blocks (loS D n) (hiS D n), areaM D.dirty (loS D n) (hiS D n - loS D n), D.time, D.next, D.snaps⟩ else D
theorem rsB_zero (B : Nat → Bytes) (lo : Int) : rsB B lo lo = B := funext fun i => by unfold rsB; rw [if_neg (by omega)]
theorem rsB_step {B : Nat → Bytes} {lo z : Int} (h0 : 0 ≤ z) (h1 : lo ≤ z) : upd (rsB B lo z) z.toNat [] = rsB B lo (z + 1) := funext fun i => by
  unfold upd rsB
  by_cases h : i = z.toNat
  · rw [if_pos h, if_pos (by omega)]
  · rw [if_neg h]
    by_cases h2 : lo ≤ (i : Int) ∧ (i : Int) < z
    · rw [if_pos h2, if_pos (by omega)]
    · rw [if_neg h2, if_neg (by omega)]
theorem vdC_load {T : TypeId} {f : Nat × Nat} (sz tm nx : Int) (B : Nat → Bytes) (sd ss : Value) : ∀ k v, (s16 B)[k]? = some v → objCell (.cells (vdC sz B sd tm nx ss) T f) (0 + 1 + k) = some v
  := fun k v h => match k, h with
    | 0, h => h
    | 1, h => h
    | 2, h => h
    | 3, h => h
    | 4, h => h
    | 5, h => h
    | 6, h => h
    | 7, h => h
    | 8, h => h
    | 9, h => h
    | 10, h => h
    | 11, h => h
    | 12, h => h
    | 13, h => h
    | 14, h => h
    | 15, h => h
    | k + 16, h => by simp [s16] at h
theorem encS_at {T : TypeId} {f : Nat × Nat} (x : SnapM × Loc) : ∀ j, j < 16 → objCell (.cells (encS x).toArray T f) (0 + 3 + j * 1) = some (Str (x.1.blocks j))
  := fun j h => match j, h with
    | 0, _ => rfl
    | 1, _ => rfl
    | 2, _ => rfl
    | 3, _ => rfl
    | 4, _ => rfl
    | 5, _ => rfl
    | 6, _ => rfl
    | 7, _ => rfl
    | 8, _ => rfl
    | 9, _ => rfl
    | 10, _ => rfl
    | 11, _ => rfl
    | 12, _ => rfl
    | 13, _ => rfl
    | 14, _ => rfl
    | 15, _ => rfl
    | k + 16, h => absurd h (by omega)
theorem bldSnap (id tm sz : Int) (B : Nat → Bytes) (m : Nat → Bool) (sd : Value) (h : one sd = true) (w : World) : (Instr.build 196 #[(0, I id), (1, I tm), (2, I sz), (3, .agg (s16 B).toArray), (4, sd)]).run Try.prog w = .ok (.agg (encSn ⟨id, tm, sz, B, m⟩ sd).toArray) w := by
  simp [Instr.build, Try.zeroValue196, Try.runUnderlying196, Try.sizeOf3, Try.sizeOf77, Try.sizeOf22, Instr.fill, cells_agg, sl, cells_one h, s16, encSn, cells_one (show one (I id) = true from rfl), cells_one (show one (I tm) = true from rfl), cells_one (show one (I sz) = true from rfl)]
/-- a snapshot, by its place -/
def snapAt (D : VdM) (i : Nat) : SnapM := (D.snaps[i]?).getD ⟨0, 0, 0, fun _ => [], fun _ => false⟩
theorem snapAt_of {D : VdM} {i : Nat} {s : SnapM} (h : D.snaps[i]? = some s) : snapAt D i = s := by unfold snapAt; rw [h]; rfl
def rdS (D : VdM) (id n : Int) : Bytes × Int × Int := if findI D.snaps id < 0 then ([], 0, 5) else if n < 0 ∨ (snapAt D (findI D.snaps id).toNat).size ≤ n then ([], 0, 1) else ((snapAt D (findI D.snaps id).toNat).blocks n.toNat, (snapAt D (findI D.snaps id).toNat).size, 0)
def szS (D : VdM) (id : Int) : Int × Int := if findI D.snaps id < 0 then (0, 5) else ((snapAt D (findI D.snaps id).toNat).size, 0)
def idsS (D : VdM) : List Int := D.snaps.map (·.id)
theorem del_rows (gl : List (SnapM × Loc)) (i : Nat) : (snapR gl).take i ++ ((snapR gl).drop (i + 1)).take (gl.length - (i + 1)) = snapR (gl.eraseIdx i) := by
  rw [List.take_of_length_le (i := gl.length - (i + 1)) (l := (snapR gl).drop (i + 1)) (by simp [snapR]), List.eraseIdx_eq_take_drop_succ]
  simp [snapR]

theorem ct_vdisk_Resize (b : Nat) (D : VdM) (n : Int) (hz : 1 ≤ D.size ∧ D.size ≤ 16) (F : List HProp) : Ct Try.prog 134 [ptr b 0, I n] ([vdk b (D)] ++ F) (R1 (errV (rsE n)) (vdk b (rsD D n) :: F)) := by
  show Ct Try.prog 134 [ptr b 0, I n] (vdk b (D) :: F) _
  refine Ct.of Try.func134 rfl 48 Try.ntmps134 (by simp) fun w0 => ?_
  refine g_openV b (D) ?_
  intro sd cd ss cs gl hgl
  refine g_seq ?_
  refine g_reg ?_
  refine g_v (v_assign rfl) rfl ?_
  refine g_nil ?_
  refine g_seq ?_
  refine g_seq ?_
  refine g_reg ?_
  refine g_v (v_move rfl) rfl ?_
  refine g_v (v_lss rfl rfl) rfl ?_
  refine g_v (v_move rfl) rfl ?_
  refine g_gv rfl rfl (fun hg => v_move rfl) rfl rfl ?_
  refine g_gv rfl rfl (fun hg => v_gtr rfl rfl) rfl rfl ?_
  refine g_v (v_or rfl rfl) rfl ?_
  refine g_nil ?_
  refine g_cond rfl (fun h13 => ?_) (fun h13 => ?_)
  · simp at h13
    have hw : rsE n = 1 := by unfold rsE; rw [if_pos (by omega)]
    refine g_seq ?_
    refine g_reg ?_
    refine g_v (v_iface Try.underlying172 rfl rfl) rfl ?_
    refine g_v (v_assign rfl) rfl ?_
    refine g_nil ?_
    refine g_shutV (vdC ((D).size) ((D).blocks) (sl sd (ofM (D).dirty).length cd) ((D).time) ((D).next) (sl ss gl.length cs)) (rowsA (ofM (D).dirty)) (snapR gl) sd cd ss cs (gl) b ((D)) rfl rfl rfl hgl ?_
    rw [show vdk b D = vdk b (rsD D n) by unfold rsD; rw [if_neg (by omega)]]
    exact g_ret1 rfl rfl (by rw [hw]; rfl)
  · simp at h13
    have hw : rsE n = 0 := by unfold rsE; rw [if_neg (by omega)]
    refine g_skip ?_
    refine g_seq ?_
    refine g_drawL [(0, false), (1, false), (2, false), (3, false), (4, false), (5, false), (6, false), (7, false), (8, false), (9, false), (10, false), (11, false), (12, false), (13, false)] (by kernel_rfl) (by kernel_rfl) rfl (by kernel_rfl) ?_
    refine d_v rfl (v_move rfl) rfl ?_
    refine d_v rfl (v_move rfl) rfl ?_
    refine d_v rfl (v_nilCheck rfl) rfl ?_
    refine d_v rfl (v_fieldAddr 0 Try.underlying193 rfl rfl Try.sizeOf3 (by decide) rfl) rfl ?_
    refine d_v rfl (v_load (v := I D.size) Try.isAgg3 rfl rfl) rfl ?_
    refine d_v rfl (v_min rfl rfl) rfl ?_
    refine d_v rfl (v_move rfl) rfl ?_
    refine d_v rfl (v_move rfl) rfl ?_
    refine d_v rfl (v_nilCheck rfl) rfl ?_
    refine d_v rfl (v_fieldAddr 0 Try.underlying193 rfl rfl Try.sizeOf3 (by decide) rfl) rfl ?_
    refine d_v rfl (v_load (v := I D.size) Try.isAgg3 rfl rfl) rfl ?_
    refine d_v rfl (v_max rfl rfl) rfl ?_
    refine d_v rfl (v_assign rfl) rfl ?_
    refine d_v rfl (v_assign rfl) rfl ?_
    refine d_nil ?_
    refine g_seq ?_
    refine g_seq ?_
    have hlo : 1 ≤ loS D n ∧ loS D n ≤ 16 ∧ loS D n ≤ hiS D n ∧ hiS D n ≤ 16 := by unfold loS hiS; split <;> split <;> omega
    rw [show vdC D.size D.blocks (sl sd (ofM D.dirty).length cd) D.time D.next (sl ss gl.length cs) = vdC D.size (rsB D.blocks (loS D n) (loS D n)) (sl sd (ofM D.dirty).length cd) D.time D.next (sl ss gl.length cs) by rw [rsB_zero]]
    refine g_reg ?_
    refine g_v (v_move rfl) rfl ?_
    refine g_v (v_assign rfl) rfl ?_
    refine g_nil ?_
    refine g_block ?_
    refine g_loop (α := Int) (fun z => loS D n ≤ z ∧ z ≤ hiS D n) (fun z => U [(0, ptr b 0), (1, I n), (5, I (loS D n)), (6, I (hiS D n)), (7, I z)]) (fun z => pt b (.cells (vdC ((D).size) (rsB D.blocks (loS D n) z) (sl sd (ofM (D).dirty).length cd) ((D).time) ((D).next) (sl ss gl.length cs)) 193 (0, 0)) :: roL 2 sd (rowsA (ofM D.dirty)) :: owL 196 20 ss cs (snapR gl) :: dirts gl :: F) (fun z => (hiS D n - z).toNat) (loS D n) (by omega) [0, 1, 5, 6, 7] rfl rfl ?_
    rintro z ⟨hz1, hz2⟩
    refine g_seq ?_
    refine g_seq ?_
    refine g_reg ?_
    refine g_v (v_move rfl) rfl ?_
    refine g_v (v_move rfl) rfl ?_
    refine g_v (v_lss rfl rfl) rfl ?_
    refine g_nil ?_
    refine g_cond rfl (fun h30 => ?_) (fun h30 => ?_)
    · simp at h30
      refine g_skip ?_
      refine g_seq ?_
      refine g_block ?_
      refine g_reg ?_
      refine g_v (v_move rfl) rfl ?_
      refine g_v (v_move rfl) rfl ?_
      refine g_v (v_nilCheck rfl) rfl ?_
      refine g_v (v_fieldAddr 1 Try.underlying193 rfl rfl Try.sizeOf77 (by decide) rfl) rfl ?_
      refine g_v (v_idxA z.toNat Try.underlying77 Try.sizeOf9 rfl rfl (by omega) (by omega)) rfl ?_
      refine g_l0 (l_store (vdC ((D).size) (rsB D.blocks (loS D n) (z + 1)) (sl sd (ofM (D).dirty).length cd) ((D).time) ((D).next) (sl ss gl.length cs)) Try.sizeOf9 rfl rfl rfl (by rw [vdC_len]; omega) (by rw [vdC_set _ _ _ _ _ _ _ _ (by omega), rsB_step (by omega) (by omega)])) ?_
      rintro _ _ rfl
      refine g_nil ?_
      refine g_blk ?_
      refine g_reg ?_
      refine g_v (v_move rfl) rfl ?_
      refine g_v (v_add rfl rfl (w64 (by omega))) rfl ?_
      refine g_v (v_assign rfl) rfl ?_
      refine g_nil ?_
      exact g_again (z + 1) (by omega) (by omega) [0, 1, 5, 6, 7] rfl rfl
    · simp at h30
      obtain rfl : z = hiS D n := by omega
      refine g_shutV (vdC ((D).size) (rsB D.blocks (loS D n) (hiS D n)) (sl sd (ofM (D).dirty).length cd) ((D).time) ((D).next) (sl ss gl.length cs)) (rowsA (ofM D.dirty)) (snapR gl) sd cd ss cs (gl) b ((⟨D.size, rsB D.blocks (loS D n) (hiS D n), D.dirty, D.time, D.next, D.snaps⟩)) rfl rfl rfl hgl ?_
      refine g_exit rfl ?_
      refine g_seq ?_
      refine g_reg ?_
      refine g_v (v_move rfl) rfl ?_
      refine g_v (v_move rfl) rfl ?_
      refine g_v (v_move rfl) rfl ?_
      refine g_v (v_move rfl) rfl ?_
      refine g_v (v_sub rfl rfl (w64 (by omega))) rfl ?_
      refine g_l (l_call (Pre := [vdk b (⟨D.size, rsB D.blocks (loS D n) (hiS D n), D.dirty, D.time, D.next, D.snaps⟩)]) Try.call184 rfl (ct_vdisk_mark b ⟨D.size, rsB D.blocks (loS D n) (hiS D n), D.dirty, D.time, D.next, D.snaps⟩ (loS D n) (hiS D n - loS D n) (by omega) (by omega))) rfl ?_
      rintro _ _ ⟨rfl, rfl⟩
      rw [mark_eq]
      clear hgl
      refine g_openV b ⟨D.size, rsB D.blocks (loS D n) (hiS D n), areaM D.dirty (loS D n) (hiS D n - loS D n), D.time, D.next, D.snaps⟩ ?_
      intro sd cd ss cs gl hgl
      refine g_nil ?_
      refine g_seq ?_
      refine g_reg ?_
      refine g_v (v_move rfl) rfl ?_
      refine g_v (v_move rfl) rfl ?_
      refine g_v (v_nilCheck rfl) rfl ?_
      refine g_v (v_fieldAddr 0 Try.underlying193 rfl rfl Try.sizeOf3 (by decide) rfl) rfl ?_
      refine g_l0 (l_store (vdC n (rsB D.blocks (loS D n) (hiS D n)) (sl sd (ofM (areaM D.dirty (loS D n) (hiS D n - loS D n))).length cd) D.time D.next (sl ss gl.length cs)) Try.sizeOf3 rfl rfl rfl (by rw [vdC_len]; decide) (vdC_size _ _ _ _ _ _ _)) ?_
      rintro _ _ rfl
      refine g_nil ?_
      refine g_seq ?_
      refine g_reg ?_
      refine g_v (v_assign rfl) rfl ?_
      refine g_nil ?_
      refine g_shutV (vdC n (rsB D.blocks (loS D n) (hiS D n)) (sl sd (ofM (areaM D.dirty (loS D n) (hiS D n - loS D n))).length cd) D.time D.next (sl ss gl.length cs)) (rowsA (ofM (areaM D.dirty (loS D n) (hiS D n - loS D n)))) (snapR gl) sd cd ss cs (gl) b ((⟨n, rsB D.blocks (loS D n) (hiS D n), areaM D.dirty (loS D n) (hiS D n - loS D n), D.time, D.next, D.snaps⟩)) rfl rfl rfl hgl ?_
      rw [show vdk b ⟨n, rsB D.blocks (loS D n) (hiS D n), areaM D.dirty (loS D n) (hiS D n - loS D n), D.time, D.next, D.snaps⟩ = vdk b (rsD D n) by unfold rsD; rw [if_pos hw]]
      exact g_ret1 rfl rfl (by rw [hw]; rfl)

theorem ct_vdisk_Snap (b : Nat) (D : VdM) (hs : D.snaps.length ≤ 1000000) (hn : -9223372036854775808 ≤ D.next) (F : List HProp) : Ct Try.prog 132 [ptr b 0] ([vdk b (D)] ++ F) (R1 (.tuple #[I (snI D), errV (snE D)]) (vdk b (snD D) :: F)) := by
  show Ct Try.prog 132 [ptr b 0] (vdk b (D) :: F) _
  refine Ct.of Try.func132 rfl 61 Try.ntmps132 (by simp) fun w0 => ?_
  refine g_openV b (D) ?_
  intro sd cd ss cs gl hgl
  have hln := gl_len hgl
  refine g_seq ?_
  refine g_reg ?_
  refine g_v (v_assign rfl) rfl ?_
  refine g_v (v_assign rfl) rfl ?_
  refine g_nil ?_
  refine g_seq ?_
  refine g_seq ?_
  refine g_reg ?_
  refine g_v (v_move rfl) rfl ?_
  refine g_v (v_nilCheck rfl) rfl ?_
  refine g_v (v_fieldAddr 20 Try.underlying193 rfl rfl Try.sizeOf191 (by decide) rfl) rfl ?_
  refine g_v (v_load (v := sl ss gl.length cs) Try.isAgg191 rfl rfl) rfl ?_
  refine g_v (v_len Try.underlying191 rfl) rfl ?_
  refine g_v (v_eql rfl rfl) rfl ?_
  refine g_v (v_move rfl) rfl ?_
  refine g_gv rfl rfl (fun hg => v_move rfl) rfl rfl ?_
  refine g_gv rfl rfl (fun hg => v_nilCheck rfl) rfl rfl ?_
  refine g_gv rfl rfl (fun hg => v_fieldAddr 19 Try.underlying193 rfl rfl Try.sizeOf3 (by decide) rfl) rfl rfl ?_
  refine g_gv rfl rfl (fun hg => v_load (v := I D.next) Try.isAgg3 rfl rfl) rfl rfl ?_
  refine g_gv rfl rfl (fun hg => v_gtr rfl rfl) rfl rfl ?_
  refine g_v (v_or rfl rfl) rfl ?_
  refine g_nil ?_
  refine g_cond rfl (fun h17 => ?_) (fun h17 => ?_)
  · simp at h17
    have hw : snE D = 8 := by unfold snE; rw [if_pos (by omega)]
    refine g_seq ?_
    refine g_reg ?_
    refine g_v (v_iface Try.underlying172 rfl rfl) rfl ?_
    refine g_v (v_assign rfl) rfl ?_
    refine g_v (v_assign rfl) rfl ?_
    refine g_nil ?_
    refine g_shutV (vdC ((D).size) ((D).blocks) (sl sd (ofM (D).dirty).length cd) ((D).time) ((D).next) (sl ss gl.length cs)) (rowsA (ofM (D).dirty)) (snapR gl) sd cd ss cs (gl) b ((D)) rfl rfl rfl hgl ?_
    rw [show vdk b D = vdk b (snD D) by unfold snD; rw [if_neg (by omega)]]
    exact g_ret1 rfl rfl (by rw [show snI D = 0 by unfold snI; rw [if_neg (by omega)], hw]; rfl)
  · simp at h17
    have hw : snE D = 0 := by unfold snE; rw [if_neg (by omega)]
    refine g_skip ?_
    refine g_seq ?_
    refine g_reg ?_
    refine g_v (v_move rfl) rfl ?_
    refine g_v (v_nilCheck rfl) rfl ?_
    refine g_v (v_fieldAddr 19 Try.underlying193 rfl rfl Try.sizeOf3 (by decide) rfl) rfl ?_
    refine g_v (v_load (v := I D.next) Try.isAgg3 rfl rfl) rfl ?_
    refine g_v (v_assign rfl) rfl ?_
    refine g_nil ?_
    refine g_seq ?_
    refine g_reg ?_
    refine g_v (v_move rfl) rfl ?_
    refine g_v (v_nilCheck rfl) rfl ?_
    refine g_v (v_fieldAddr 19 Try.underlying193 rfl rfl Try.sizeOf3 (by decide) rfl) rfl ?_
    refine g_v (v_load (v := I D.next) Try.isAgg3 rfl rfl) rfl ?_
    refine g_v (v_add rfl rfl (w64 (by omega))) rfl ?_
    refine g_v (v_nilCheck rfl) rfl ?_
    refine g_v (v_fieldAddr 19 Try.underlying193 rfl rfl Try.sizeOf3 (by decide) rfl) rfl ?_
    refine g_l0 (l_store (vdC ((D).size) ((D).blocks) (sl sd (ofM (D).dirty).length cd) ((D).time) (D.next + 1) (sl ss gl.length cs)) Try.sizeOf3 rfl rfl rfl (by rw [vdC_len]; decide) (vdC_next _ _ _ _ _ _ _)) ?_
    rintro _ _ rfl
    refine g_nil ?_
    refine g_seq ?_
    refine g_drawZ (Lf := pt b (.cells (vdC ((D).size) ((D).blocks) (sl sd (ofM (D).dirty).length cd) ((D).time) (D.next + 1) (sl ss gl.length cs)) 193 (0, 0)) :: F) [(0, false), (1, false), (2, false), (3, false), (4, false), (5, false), (6, false), (7, false), (8, false), (9, false), (10, false), (11, false), (12, false), (13, false), (14, false), (15, false), (16, false), (17, false), (18, false), (19, false), (20, false), (21, false), (22, false), (23, true), (24, true), (25, false), (26, false)] 27 rfl (by kernel_rfl) (by kernel_rfl) rfl (by kernel_rfl) (by kernel_rfl) ?_
    refine d_v rfl (v_move rfl) rfl ?_
    refine d_v rfl (v_move rfl) rfl ?_
    refine d_v rfl (v_nilCheck rfl) rfl ?_
    refine d_v rfl (v_fieldAddr 20 Try.underlying193 rfl rfl Try.sizeOf191 (by decide) rfl) rfl ?_
    refine d_v rfl (v_load (v := sl ss gl.length cs) Try.isAgg191 rfl rfl) rfl ?_
    refine d_v rfl (v_move rfl) rfl ?_
    refine d_v rfl (v_move rfl) rfl ?_
    refine d_v rfl (v_nilCheck rfl) rfl ?_
    refine d_v rfl (v_fieldAddr 18 Try.underlying193 rfl rfl Try.sizeOf3 (by decide) rfl) rfl ?_
    refine d_v rfl (v_load (v := I D.time) Try.isAgg3 rfl rfl) rfl ?_
    refine d_v rfl (v_move rfl) rfl ?_
    refine d_v rfl (v_nilCheck rfl) rfl ?_
    refine d_v rfl (v_fieldAddr 0 Try.underlying193 rfl rfl Try.sizeOf3 (by decide) rfl) rfl ?_
    refine d_v rfl (v_load (v := I D.size) Try.isAgg3 rfl rfl) rfl ?_
    refine d_v rfl (v_move rfl) rfl ?_
    refine d_v rfl (v_nilCheck rfl) rfl ?_
    refine d_v rfl (v_fieldAddr 1 Try.underlying193 rfl rfl Try.sizeOf77 (by decide) rfl) rfl ?_
    refine d_v rfl (v_loadA (vs := s16 D.blocks) Try.isAgg77 Try.sizeOf77 rfl rfl (vdC_load _ _ _ _ _ _)) rfl ?_
    refine d_v rfl (v_move rfl) rfl ?_
    refine d_v rfl (v_nilCheck rfl) rfl ?_
    refine d_v rfl (v_fieldAddr 17 Try.underlying193 rfl rfl Try.sizeOf22 (by decide) rfl) rfl ?_
    refine d_v rfl (v_load (v := sl sd (ofM D.dirty).length cd) Try.isAgg22 rfl rfl) rfl ?_
    refine d_v rfl (v_build rfl (bldSnap D.next D.time D.size D.blocks D.dirty (sl sd (ofM D.dirty).length cd) rfl)) rfl ?_
    refine d_l rfl (l_buildSlice [encS (⟨D.next, D.time, D.size, D.blocks, D.dirty⟩, (sd, cd))] Try.underlying191 Try.sizeOf196 Try.zeroValue196 rfl rfl rfl (by simp [encS_len]) (by decide) (by decide)) rfl ?_
    rintro _ _ ⟨b53, rfl, rfl⟩
    refine d_l rfl (l_append Try.underlying191 Try.sizeOf196 Try.zeroValue196 rfl Try.typeInfo196 (by decide) rfl rfl (by rw [snapR_len]) rfl (by simp [encS_len]) (by simp [encS, encSn, ones, one, sl]) ⟨by omega, by decide, by decide⟩) rfl ?_
    rintro _ _ ⟨s54, c54, rfl, rfl⟩
    rw [show snapR gl ++ [encS (⟨D.next, D.time, D.size, D.blocks, D.dirty⟩, (sd, cd))] = snapR (gl ++ [(⟨D.next, D.time, D.size, D.blocks, D.dirty⟩, (sd, cd))]) by simp [snapR]]
    refine d_v rfl (v_nilCheck rfl) rfl ?_
    refine d_v rfl (v_fieldAddr 20 Try.underlying193 rfl rfl Try.sizeOf191 (by decide) rfl) rfl ?_
    refine d_nil ?_
    refine g_l0 (l_store (vdC ((D).size) ((D).blocks) (sl sd (ofM (D).dirty).length cd) ((D).time) (D.next + 1) (sl s54 (gl.length + 1) c54)) Try.sizeOf191 rfl rfl rfl (by rw [vdC_len]; decide) (vdC_snaps _ _ _ _ _ _ _)) ?_
    rintro _ _ rfl
    refine g_nil ?_
    refine g_seq ?_
    refine g_reg ?_
    refine g_v (v_move rfl) rfl ?_
    refine g_v (v_nilCheck rfl) rfl ?_
    refine g_v (v_fieldAddr 17 Try.underlying193 rfl rfl Try.sizeOf22 (by decide) rfl) rfl ?_
    refine g_l0 (l_store (vdC ((D).size) ((D).blocks) (sl none 0 0) ((D).time) (D.next + 1) (sl s54 (gl.length + 1) c54)) Try.sizeOf22 rfl rfl rfl (by rw [vdC_len]; decide) (vdC_dirty _ _ _ _ _ _ _)) ?_
    rintro _ _ rfl
    refine g_nil ?_
    refine g_seq ?_
    refine g_reg ?_
    refine g_v (v_move rfl) rfl ?_
    refine g_v (v_assign rfl) rfl ?_
    refine g_v (v_assign rfl) rfl ?_
    refine g_nil ?_
    refine g_dirtsAdd gl (gl ++ [(⟨D.next, D.time, D.size, D.blocks, D.dirty⟩, (sd, cd))]) (⟨D.next, D.time, D.size, D.blocks, D.dirty⟩, (sd, cd)) (fun y hy => by simpa using hy) ?_
    refine g_nilro 2 (rowsA (ofM fun _ => false)) rfl ?_
    refine g_shutV (vdC ((D).size) ((D).blocks) (sl none 0 0) ((D).time) (D.next + 1) (sl s54 (gl.length + 1) c54)) (rowsA (ofM fun _ => false)) (snapR (gl ++ [(⟨D.next, D.time, D.size, D.blocks, D.dirty⟩, (sd, cd))])) none 0 s54 c54 ((gl ++ [(⟨D.next, D.time, D.size, D.blocks, D.dirty⟩, (sd, cd))])) b ((⟨D.size, D.blocks, fun _ => false, D.time, D.next + 1, D.snaps ++ [⟨D.next, D.time, D.size, D.blocks, D.dirty⟩]⟩)) (by simp [ofM, foldP, sl]; try rfl) rfl rfl (by simp [hgl]) ?_
    rw [show vdk b ⟨D.size, D.blocks, fun _ => false, D.time, D.next + 1, D.snaps ++ [⟨D.next, D.time, D.size, D.blocks, D.dirty⟩]⟩ = vdk b (snD D) by unfold snD; rw [if_pos hw]]
    exact g_ret1 rfl rfl (by rw [show snI D = D.next by unfold snI; rw [if_pos hw], hw]; rfl)

theorem ct_vdisk_Read (b : Nat) (D : VdM) (id n : Int) (hsl : D.snaps.length ≤ 1000000) (hsz : ∀ s ∈ D.snaps, s.size ≤ 16) (F : List HProp) : Ct Try.prog 48 [ptr b 0, I id, I n] ([vdk b (D)] ++ F) (R1 (.tuple #[Str (rdS D id n).1, I (rdS D id n).2.1, errV (rdS D id n).2.2]) (vdk b (D) :: F)) := by
  show Ct Try.prog 48 [ptr b 0, I id, I n] (vdk b (D) :: F) _
  refine Ct.of Try.func48 rfl 39 Try.ntmps48 (by simp) fun w0 => ?_
  refine g_seq ?_
  refine g_reg ?_
  refine g_v (v_assign rfl) rfl ?_
  refine g_v (v_assign rfl) rfl ?_
  refine g_v (v_assign rfl) rfl ?_
  refine g_nil ?_
  refine g_seq ?_
  refine g_reg ?_
  refine g_v (v_move rfl) rfl ?_
  refine g_v (v_move rfl) rfl ?_
  refine g_l (l_call (Pre := [vdk b (D)]) Try.call142 rfl (ct_vdisk_find b D id (by omega))) rfl ?_
  rintro _ _ ⟨rfl, rfl⟩
  refine g_v (v_assign rfl) rfl ?_
  refine g_nil ?_
  refine g_seq ?_
  refine g_seq ?_
  refine g_reg ?_
  refine g_v (v_move rfl) rfl ?_
  refine g_v (v_lss rfl rfl) rfl ?_
  refine g_nil ?_
  refine g_cond rfl (fun h15 => ?_) (fun h15 => ?_)
  · simp at h15
    refine g_seq ?_
    refine g_reg ?_
    refine g_v (v_iface Try.underlying172 rfl rfl) rfl ?_
    refine g_v (v_assign rfl) rfl ?_
    refine g_v (v_assign rfl) rfl ?_
    refine g_v (v_assign rfl) rfl ?_
    refine g_nil ?_
    exact g_ret1 rfl rfl (by rw [show rdS D id n = ([], 0, 5) by unfold rdS; rw [if_pos (by omega)]]; rfl)
  · simp at h15
    obtain ⟨i, s, hfi, hs, hid, hil⟩ := findI_pos (show ¬ findI D.snaps id < 0 by omega)
    rw [hfi]
    refine g_openV b (D) ?_
    intro sd cd ss cs gl hgl
    have hln := gl_len hgl
    obtain ⟨q, hx⟩ := gl_at hgl hs
    have hkn : i < gl.length := by omega
    have hkr : i < (snapR gl).length := by rw [snapR_len]; exact hkn
    refine g_skip ?_
    refine g_seq ?_
    refine g_reg ?_
    refine g_v (v_move rfl) rfl ?_
    refine g_v (v_nilCheck rfl) rfl ?_
    refine g_v (v_fieldAddr 20 Try.underlying193 rfl rfl Try.sizeOf191 (by decide) rfl) rfl ?_
    refine g_v (v_load (v := sl ss gl.length cs) Try.isAgg191 rfl rfl) rfl ?_
    refine g_v (v_move rfl) rfl ?_
    refine g_v (v_idxS i Try.underlying191 Try.sizeOf196 rfl rfl rfl hkn hkr) rfl ?_
    refine g_v (v_loadAS (row := encS (s, q)) Try.isAgg196 Try.sizeOf196 rfl (snapR_at hx) rfl) rfl ?_
    refine g_l (l_alloc #[I 0, I 0, I 0, Str [], Str [], Str [], Str [], Str [], Str [], Str [], Str [], Str [], Str [], Str [], Str [], Str [], Str [], Str [], Str [], sl none 0 0] Try.zeroValue196) rfl ?_
    rintro _ _ ⟨b10, rfl, rfl⟩
    refine g_l0 (l_storeA (cs := #[I 0, I 0, I 0, Str [], Str [], Str [], Str [], Str [], Str [], Str [], Str [], Str [], Str [], Str [], Str [], Str [], Str [], Str [], Str [], sl none 0 0]) (vs := encS (s, q)) (encS (s, q)).toArray Try.sizeOf196 rfl rfl rfl rfl (by simp) (splice_all rfl)) ?_
    rintro _ _ rfl
    refine g_nil ?_
    refine g_seq ?_
    refine g_seq ?_
    refine g_reg ?_
    refine g_v (v_move rfl) rfl ?_
    refine g_v (v_lss rfl rfl) rfl ?_
    refine g_v (v_move rfl) rfl ?_
    refine g_gv rfl rfl (fun hg => v_move rfl) rfl rfl ?_
    refine g_gv rfl rfl (fun hg => v_fieldAddr 2 Try.underlying196 rfl rfl Try.sizeOf3 (by decide) rfl) rfl rfl ?_
    refine g_gv rfl rfl (fun hg => v_load (v := I s.size) Try.isAgg3 rfl rfl) rfl rfl ?_
    refine g_gv rfl rfl (fun hg => v_geq rfl rfl) rfl rfl ?_
    refine g_v (v_or rfl rfl) rfl ?_
    refine g_nil ?_
    refine g_cond rfl (fun h31 => ?_) (fun h31 => ?_)
    · simp at h31
      refine g_seq ?_
      refine g_reg ?_
      refine g_v (v_iface Try.underlying172 rfl rfl) rfl ?_
      refine g_v (v_assign rfl) rfl ?_
      refine g_v (v_assign rfl) rfl ?_
      refine g_v (v_assign rfl) rfl ?_
      refine g_nil ?_
      refine g_shutV (vdC ((D).size) ((D).blocks) (sl sd (ofM (D).dirty).length cd) ((D).time) ((D).next) (sl ss gl.length cs)) (rowsA (ofM (D).dirty)) (snapR gl) sd cd ss cs (gl) b ((D)) rfl rfl rfl hgl ?_
      exact g_ret1 rfl rfl (by rw [show rdS D id n = ([], 0, 1) by unfold rdS; rw [if_neg (by omega), hfi, Int.toNat_natCast, snapAt_of hs, if_pos (by omega)]]; rfl)
    · simp at h31
      have hs16 := hsz s (List.mem_of_getElem? hs)
      refine g_skip ?_
      refine g_seq ?_
      refine g_drawL [(0, false), (1, false), (2, false), (3, false), (4, false), (5, false), (6, false), (7, false), (8, false)] (by kernel_rfl) (by kernel_rfl) rfl (by kernel_rfl) ?_
      refine d_v rfl (v_move rfl) rfl ?_
      refine d_v rfl (v_fieldAddr 3 Try.underlying196 rfl rfl Try.sizeOf77 (by decide) rfl) rfl ?_
      refine d_v rfl (v_idxA n.toNat Try.underlying77 Try.sizeOf9 rfl rfl (by omega) (by omega)) rfl ?_
      refine d_v rfl (v_load (v := Str (s.blocks n.toNat)) Try.isAgg9 rfl (encS_at _ _ (by omega))) rfl ?_
      refine d_v rfl (v_fieldAddr 2 Try.underlying196 rfl rfl Try.sizeOf3 (by decide) rfl) rfl ?_
      refine d_v rfl (v_load (v := I s.size) Try.isAgg3 rfl rfl) rfl ?_
      refine d_v rfl (v_assign rfl) rfl ?_
      refine d_v rfl (v_assign rfl) rfl ?_
      refine d_v rfl (v_assign rfl) rfl ?_
      refine d_nil ?_
      refine g_shutV (vdC ((D).size) ((D).blocks) (sl sd (ofM (D).dirty).length cd) ((D).time) ((D).next) (sl ss gl.length cs)) (rowsA (ofM (D).dirty)) (snapR gl) sd cd ss cs (gl) b ((D)) rfl rfl rfl hgl ?_
      exact g_ret1 rfl rfl (by rw [show rdS D id n = (s.blocks n.toNat, s.size, 0) by unfold rdS; rw [if_neg (by omega), hfi, Int.toNat_natCast, snapAt_of hs, if_neg (by omega)]]; rfl)

theorem ct_vdisk_SizeOf (b : Nat) (D : VdM) (id : Int) (hsl : D.snaps.length ≤ 1000000) (F : List HProp) : Ct Try.prog 50 [ptr b 0, I id] ([vdk b (D)] ++ F) (R1 (.tuple #[I (szS D id).1, errV (szS D id).2]) (vdk b (D) :: F)) := by
  show Ct Try.prog 50 [ptr b 0, I id] (vdk b (D) :: F) _
  refine Ct.of Try.func50 rfl 21 Try.ntmps50 (by simp) fun w0 => ?_
  refine g_seq ?_
  refine g_reg ?_
  refine g_v (v_assign rfl) rfl ?_
  refine g_v (v_assign rfl) rfl ?_
  refine g_nil ?_
  refine g_seq ?_
  refine g_reg ?_
  refine g_v (v_move rfl) rfl ?_
  refine g_v (v_move rfl) rfl ?_
  refine g_l (l_call (Pre := [vdk b (D)]) Try.call142 rfl (ct_vdisk_find b D id (by omega))) rfl ?_
  rintro _ _ ⟨rfl, rfl⟩
  refine g_v (v_assign rfl) rfl ?_
  refine g_nil ?_
  refine g_seq ?_
  refine g_seq ?_
  refine g_reg ?_
  refine g_v (v_move rfl) rfl ?_
  refine g_v (v_lss rfl rfl) rfl ?_
  refine g_nil ?_
  refine g_cond rfl (fun h11 => ?_) (fun h11 => ?_)
  · simp at h11
    refine g_seq ?_
    refine g_reg ?_
    refine g_v (v_iface Try.underlying172 rfl rfl) rfl ?_
    refine g_v (v_assign rfl) rfl ?_
    refine g_v (v_assign rfl) rfl ?_
    refine g_nil ?_
    exact g_ret1 rfl rfl (by rw [show szS D id = (0, 5) by unfold szS; rw [if_pos (by omega)]]; rfl)
  · simp at h11
    obtain ⟨i, s, hfi, hs, hid, hil⟩ := findI_pos (show ¬ findI D.snaps id < 0 by omega)
    rw [hfi]
    refine g_openV b (D) ?_
    intro sd cd ss cs gl hgl
    have hln := gl_len hgl
    obtain ⟨q, hx⟩ := gl_at hgl hs
    have hkn : i < gl.length := by omega
    have hkr : i < (snapR gl).length := by rw [snapR_len]; exact hkn
    refine g_skip ?_
    refine g_seq ?_
    refine g_reg ?_
    refine g_v (v_move rfl) rfl ?_
    refine g_v (v_nilCheck rfl) rfl ?_
    refine g_v (v_fieldAddr 20 Try.underlying193 rfl rfl Try.sizeOf191 (by decide) rfl) rfl ?_
    refine g_v (v_load (v := sl ss gl.length cs) Try.isAgg191 rfl rfl) rfl ?_
    refine g_v (v_move rfl) rfl ?_
    refine g_v (v_idxS i Try.underlying191 Try.sizeOf196 rfl rfl rfl hkn hkr) rfl ?_
    refine g_v (v_fieldAdrS (j := _) 2 Try.underlying196 rfl rfl Try.sizeOf3 (by decide) rfl (by assumption)) rfl ?_
    refine g_v (v_loadS (v := I s.size) Try.isAgg3 rfl (snapR_at hx) rfl) rfl ?_
    refine g_v (v_assign rfl) rfl ?_
    refine g_v (v_assign rfl) rfl ?_
    refine g_nil ?_
    refine g_shutV (vdC ((D).size) ((D).blocks) (sl sd (ofM (D).dirty).length cd) ((D).time) ((D).next) (sl ss gl.length cs)) (rowsA (ofM (D).dirty)) (snapR gl) sd cd ss cs (gl) b ((D)) rfl rfl rfl hgl ?_
    exact g_ret1 rfl rfl (by rw [show szS D id = (s.size, 0) by unfold szS; rw [if_neg (by omega), hfi, Int.toNat_natCast, snapAt_of hs]]; rfl)

theorem ct_vdisk_Snaps (b : Nat) (D : VdM) (hsl : D.snaps.length ≤ 1000000) (F : List HProp) : Ct Try.prog 54 [ptr b 0] ([vdk b (D)] ++ F) (RSl 3 1 (idsS D).length (intR (idsS D)) (vdk b (D) :: F)) := by
  show Ct Try.prog 54 [ptr b 0] (vdk b (D) :: F) _
  refine Ct.of Try.func54 rfl 22 Try.ntmps54 (by simp) fun w0 => ?_
  refine g_openV b (D) ?_
  intro sd cd ss cs gl hgl
  have hln := gl_len hgl
  have hids : idsS D = gl.map fun x => x.1.id := by unfold idsS; rw [← hgl]; simp
  refine g_nilown 3 1 (intR ((gl.map fun x => x.1.id).take 0)) rfl ?_
  refine g_seq ?_
  refine g_reg ?_
  refine g_v (v_assign rfl) rfl ?_
  refine g_nil ?_
  refine g_seq ?_
  refine g_reg ?_
  refine g_v (v_assign rfl) rfl ?_
  refine g_nil ?_
  refine g_seq ?_
  refine g_seq ?_
  refine g_reg ?_
  refine g_v (v_move rfl) rfl ?_
  refine g_v (v_nilCheck rfl) rfl ?_
  refine g_v (v_fieldAddr 20 Try.underlying193 rfl rfl Try.sizeOf191 (by decide) rfl) rfl ?_
  refine g_v (v_load (v := sl ss gl.length cs) Try.isAgg191 rfl rfl) rfl ?_
  refine g_v (v_len Try.underlying191 rfl) rfl ?_
  refine g_v (v_move rfl) rfl ?_
  refine g_nil ?_
  refine g_block ?_
  refine g_loop (α := Nat × Option Addr × Nat) (fun z => z.1 ≤ gl.length) (fun z => U [(3, sl z.2.1 z.1 z.2.2), (9, sl ss gl.length cs), (10, I gl.length), (11, I z.1)]) (fun z => owL 3 1 z.2.1 z.2.2 (intR ((gl.map fun x => x.1.id).take z.1)) :: pt b (.cells (vdC ((D).size) ((D).blocks) (sl sd (ofM (D).dirty).length cd) ((D).time) ((D).next) (sl ss gl.length cs)) 193 (0, 0)) :: roL 2 sd (rowsA (ofM D.dirty)) :: owL 196 20 ss cs (snapR gl) :: dirts gl :: F) (fun z => gl.length - z.1) (0, none, 0) (by simp) [3, 9, 10, 11] rfl rfl ?_
  rintro ⟨k, s, cap⟩ hk
  simp only [] at hk ⊢
  refine g_seq ?_
  refine g_reg ?_
  refine g_v (v_lss rfl rfl) rfl ?_
  refine g_nil ?_
  refine g_seq ?_
  refine g_cond rfl (fun h12 => ?_) (fun h12 => ?_)
  · simp at h12
    have hkn : k < gl.length := by omega
    obtain ⟨x, hx⟩ : ∃ x, gl[k]? = some x := ⟨_, List.getElem?_eq_getElem hkn⟩
    have hkr : k < (snapR gl).length := by rw [snapR_len]; exact hkn
    refine g_skip ?_
    refine g_seq ?_
    refine g_block ?_
    refine g_seq ?_
    refine g_reg ?_
    refine g_v (v_idxS k Try.underlying191 Try.sizeOf196 rfl rfl rfl hkn hkr) rfl ?_
    refine g_v (v_loadAS (row := encS x) Try.isAgg196 Try.sizeOf196 rfl (snapR_at hx) rfl) rfl ?_
    refine g_l (l_alloc #[I 0, I 0, I 0, Str [], Str [], Str [], Str [], Str [], Str [], Str [], Str [], Str [], Str [], Str [], Str [], Str [], Str [], Str [], Str [], sl none 0 0] Try.zeroValue196) rfl ?_
    rintro _ _ ⟨b5, rfl, rfl⟩
    refine g_l0 (l_storeA (cs := #[I 0, I 0, I 0, Str [], Str [], Str [], Str [], Str [], Str [], Str [], Str [], Str [], Str [], Str [], Str [], Str [], Str [], Str [], Str [], sl none 0 0]) (vs := encS x) (encS x).toArray Try.sizeOf196 rfl rfl rfl rfl (by simp) (splice_all rfl)) ?_
    rintro _ _ rfl
    refine g_nil ?_
    refine g_reg ?_
    refine g_v (v_move rfl) rfl ?_
    refine g_v (v_fieldAddr 0 Try.underlying196 rfl rfl Try.sizeOf3 (by decide) rfl) rfl ?_
    refine g_v (v_load (v := I x.1.id) Try.isAgg3 rfl rfl) rfl ?_
    refine g_l (l_buildSlice [[I x.1.id]] Try.underlying90 Try.sizeOf3 Try.zeroValue3 rfl rfl rfl (by simp) (by decide) (by decide)) rfl ?_
    rintro _ _ ⟨b18, rfl, rfl⟩
    refine g_l (l_append Try.underlying90 Try.sizeOf3 Try.zeroValue3 rfl Try.typeInfo3 (by decide) rfl rfl (by simp [intR]; omega) rfl (by simp) (by simp [ones, one]) ⟨by omega, by decide, by decide⟩) rfl ?_
    rintro _ _ ⟨s19, c19, rfl, rfl⟩
    rw [show intR ((gl.map fun x => x.1.id).take k) ++ [[I x.1.id]] = intR ((gl.map fun x => x.1.id).take (k + 1)) by rw [take_at (a := x.1.id) (by simp [hx])]; simp [intR]]
    refine g_v (v_assign rfl) rfl ?_
    refine g_nil ?_
    refine g_blk ?_
    refine g_reg ?_
    refine g_v (v_add rfl rfl (w64 (by omega))) rfl ?_
    refine g_v (v_move rfl) rfl ?_
    refine g_nil ?_
    exact g_again (k + 1, s19, c19) (by simp; omega) (by simp; omega) [3, 9, 10, 11] rfl rfl
  · simp at h12
    obtain rfl : k = gl.length := by omega
    rw [show (gl.map fun x => x.1.id).take gl.length = idsS D by rw [hids]; exact List.take_of_length_le (by simp)]
    refine g_exit rfl ?_
    refine g_seq ?_
    refine g_reg ?_
    refine g_v (v_move rfl) rfl ?_
    refine g_v (v_assign rfl) rfl ?_
    refine g_nil ?_
    refine g_shutV (vdC ((D).size) ((D).blocks) (sl sd (ofM (D).dirty).length cd) ((D).time) ((D).next) (sl ss gl.length cs)) (rowsA (ofM (D).dirty)) (snapR gl) sd cd ss cs (gl) b ((D)) rfl rfl rfl hgl ?_
    exact g_retSl rfl rfl rfl (by simp [idsS, hln])

theorem ct_Delete_snap (gl : List (SnapM × Loc)) (ss : Option Addr) (cs i : Nat) (hi : i < gl.length) (hl : gl.length ≤ 1000000) (F : List HProp) : Ct Try.prog 185 [sl ss gl.length cs, I i, I ((i : Int) + 1)] ([owL 196 20 ss cs (snapR gl)] ++ F) (R1 (sl ss (gl.length - 1) cs) (owL 196 20 ss cs (snapR (gl.eraseIdx i)) :: F)) := by
  show Ct Try.prog 185 [sl ss gl.length cs, I i, I ((i : Int) + 1)] (owL 196 20 ss cs (snapR gl) :: F) _
  refine Ct.of Try.func185 rfl 33 Try.ntmps185 (by simp) fun w0 => ?_
  refine g_fact (φ := gl.length ≤ cs) (fun w hS => by
    rcases owL_open hS with ⟨_, h, _, _⟩ | ⟨b, cs', h, h1, h2, _⟩
    · have := congrArg List.length h
      simp [snapR] at this
      rw [this] at hi
      simp at hi
    · simpa [snapR] using h2) (fun hcap => ?_)
  refine g_seq ?_
  refine g_reg ?_
  refine g_v (v_assign rfl) rfl ?_
  refine g_nil ?_
  refine g_seq ?_
  refine g_reg ?_
  refine g_v (v_move rfl) rfl ?_
  refine g_v (v_move rfl) rfl ?_
  refine g_v (v_move rfl) rfl ?_
  refine g_v (v_move rfl) rfl ?_
  refine g_v (v_len Try.underlying191 rfl) rfl ?_
  refine g_v (v_sl3 (l := i) (h := i + 1) (q := gl.length) Try.underlying191 Try.sizeOf196 rfl rfl rfl rfl (by omega) rfl rfl (by omega) (by omega) hcap) rfl ?_
  refine g_nil ?_
  refine g_seq ?_
  refine g_seq ?_
  refine g_reg ?_
  refine g_v (v_move rfl) rfl ?_
  refine g_v (v_move rfl) rfl ?_
  refine g_v (v_eql rfl rfl) rfl ?_
  refine g_nil ?_
  refine g_cond rfl (fun h16 => ?_) (fun h16 => ?_)
  · simp at h16
    omega
  · skip
    refine g_skip ?_
    refine g_seq ?_
    refine g_reg ?_
    refine g_v (v_move rfl) rfl ?_
    refine g_v (v_len Try.underlying191 rfl) rfl ?_
    refine g_v (v_assign rfl) rfl ?_
    refine g_nil ?_
    refine g_seq ?_
    refine g_draw (Lf := F) [(0, false), (1, false), (2, false), (3, false), (4, false), (5, false), (6, true), (7, false)] (by kernel_rfl) (by kernel_rfl) rfl (by kernel_rfl) ?_
    refine d_v rfl (v_move rfl) rfl ?_
    refine d_v rfl (v_move rfl) rfl ?_
    refine d_v rfl (v_slHi (h := i) Try.underlying191 Try.sizeOf196 rfl rfl rfl (by omega)) rfl ?_
    refine d_v rfl (v_move rfl) rfl ?_
    refine d_v rfl (v_move rfl) rfl ?_
    refine d_v rfl (v_slLo (l := i + 1) Try.underlying191 Try.sizeOf196 rfl rfl (by omega) (by omega)) rfl ?_
    refine d_l rfl (l_appendOv (s := ss) (p := i + 1) Try.underlying191 Try.sizeOf196 (by decide) rfl rfl (by unfold At; split; exact .inr (.inr (by omega)); exact .inr (.inl rfl)) (by rw [snapR_len]; omega) (by rw [snapR_len]; omega) (by rw [snapR_len]; omega) (by rw [snapR_len]; omega) (fun r hr => by simp only [snapR, List.mem_map] at hr; obtain ⟨x, _, rfl⟩ := hr; rfl)) rfl ?_
    rintro _ _ ⟨rfl, rfl⟩
    rw [del_rows]
    refine d_v rfl (v_assign rfl) rfl ?_
    refine d_nil ?_
    refine g_seq ?_
    refine g_reg ?_
    refine g_v (v_move rfl) rfl ?_
    refine g_v (v_move rfl) rfl ?_
    refine g_v (v_len Try.underlying191 rfl) rfl ?_
    refine g_v (v_move rfl) rfl ?_
    refine g_v (v_slBoth (l := i + (gl.length - (i + 1))) (h := gl.length) Try.underlying191 Try.sizeOf196 rfl rfl rfl rfl rfl (by omega) hcap) rfl ?_
    refine g_l0 (l_clearTail (sz := 20) (l := i + (gl.length - (i + 1))) ss Try.underlying191 Try.zeroValue196 rfl rfl rfl (by unfold At; split; exact .inr (.inr (by omega)); exact .inr (.inl rfl)) (by rw [snapR_len, List.length_eraseIdx]; split <;> omega) (by omega)) ?_
    rintro _ _ ⟨rfl, rfl⟩
    refine g_nil ?_
    refine g_seq ?_
    refine g_reg ?_
    refine g_v (v_move rfl) rfl ?_
    refine g_v (v_assign rfl) rfl ?_
    refine g_nil ?_
    exact g_ret1 rfl rfl (by rw [show gl.length - 1 = i + (gl.length - (i + 1)) by omega]; rfl)

end Go.Proofs.Ythdjckbjjfiopaa
