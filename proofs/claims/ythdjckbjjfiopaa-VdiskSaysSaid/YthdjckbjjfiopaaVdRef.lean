/- Walks through the reference's disk of chapter 2. No condition. -/
import Derived.Test.YthdjckbjjfiopaaVdR
namespace Go.Proofs.Ythdjckbjjfiopaa
open Go.Sl Go.Proofs
set_option linter.unusedVariables false
set_option linter.unusedSimpArgs false
theorem updM_area (m : Nat → Bool) {n : Int} (h : 0 ≤ n) : updM m n.toNat = areaM m n 1 := funext fun i => by
  unfold updM areaM
  rw [show decide (i = n.toNat) = decide (n ≤ (i : Int) ∧ (i : Int) < n + 1) from decide_eq_decide.2 (by omega)]
def rzB (D : VdM) (n : Int) (k : Nat) : Nat → Bytes := fun i => if i < k ∧ loS D n ≤ (i : Int) ∧ (i : Int) < hiS D n then [] else D.blocks i
def rzM (D : VdM) (n : Int) (k : Nat) : Nat → Bool := fun i => D.dirty i || decide (i < k ∧ loS D n ≤ (i : Int) ∧ (i : Int) < hiS D n)
theorem rzB_hit {D : VdM} {n : Int} {k : Nat} (h : loS D n ≤ (k : Int) ∧ (k : Int) < hiS D n) : upd (rzB D n k) k [] = rzB D n (k + 1) := funext fun i => by
  unfold upd rzB
  by_cases hi : i = k
  · subst hi; rw [if_pos rfl, if_pos ⟨by omega, h⟩]
  · rw [if_neg hi]
    by_cases h2 : i < k ∧ loS D n ≤ (i : Int) ∧ (i : Int) < hiS D n
    · rw [if_pos h2, if_pos ⟨by omega, h2.2⟩]
    · rw [if_neg h2, if_neg (fun hh => h2 ⟨by omega, hh.2⟩)]
theorem rzM_hit {D : VdM} {n : Int} {k : Nat} (h : loS D n ≤ (k : Int) ∧ (k : Int) < hiS D n) : updM (rzM D n k) k = rzM D n (k + 1) := funext fun i => by
  unfold updM rzM
  rw [Bool.or_assoc]
  congr 1
  rw [Bool.eq_iff_iff]
  simp only [Bool.or_eq_true, decide_eq_true_eq]
  constructor
  · rintro (h1 | rfl)
    · exact ⟨by omega, h1.2⟩
    · exact ⟨by omega, h⟩
  · intro h1
    by_cases hi : i = k
    · exact .inr hi
    · exact .inl ⟨by omega, h1.2⟩
theorem rzB_miss {D : VdM} {n : Int} {k : Nat} (h : ¬ (loS D n ≤ (k : Int) ∧ (k : Int) < hiS D n)) : rzB D n k = rzB D n (k + 1) := funext fun i => by
  unfold rzB
  by_cases h2 : i < k ∧ loS D n ≤ (i : Int) ∧ (i : Int) < hiS D n
  · rw [if_pos h2, if_pos ⟨by omega, h2.2⟩]
  · rw [if_neg h2, if_neg (fun hh => h2 ⟨by
      rcases Nat.lt_or_ge i k with h3 | h3
      · exact h3
      · obtain rfl : i = k := by omega
        exact absurd hh.2 h, hh.2⟩)]
theorem rzM_miss {D : VdM} {n : Int} {k : Nat} (h : ¬ (loS D n ≤ (k : Int) ∧ (k : Int) < hiS D n)) : rzM D n k = rzM D n (k + 1) := funext fun i => by
  unfold rzM
  congr 1
  refine decide_eq_decide.2 ⟨fun h1 => ⟨by omega, h1.2⟩, fun h1 => ⟨?_, h1.2⟩⟩
  rcases Nat.lt_or_ge i k with h3 | h3
  · exact h3
  · obtain rfl : i = k := by omega
    exact absurd h1.2 h
theorem rzB_all {D : VdM} {n : Int} (h : hiS D n ≤ 16) : rzB D n 16 = rsB D.blocks (loS D n) (hiS D n) := funext fun i => by
  unfold rzB rsB
  by_cases h2 : loS D n ≤ (i : Int) ∧ (i : Int) < hiS D n
  · rw [if_pos h2, if_pos ⟨by omega, h2⟩]
  · rw [if_neg h2, if_neg (fun hh => h2 hh.2)]
theorem rzM_all {D : VdM} {n : Int} (h : hiS D n ≤ 16) : rzM D n 16 = areaM D.dirty (loS D n) (hiS D n - loS D n) := funext fun i => by
  unfold rzM areaM
  congr 1
  exact decide_eq_decide.2 (by omega)
theorem rz_iff {D : VdM} {n : Int} {k : Nat} : (n ≤ (k : Int) ∧ (k : Int) < D.size ∨ D.size ≤ (k : Int) ∧ (k : Int) < n) ↔ (loS D n ≤ (k : Int) ∧ (k : Int) < hiS D n) := by
  unfold loS hiS; split <;> split <;> omega
theorem rv_marks (sz tm nx : Int) (B : Nat → Bytes) (m m' : Nat → Bool) (ss : Value) : splice (rvC sz B m tm nx ss) (0 + 17) (m16 m') = rvC sz B m' tm nx ss := by
  simp [splice, rvC, m16]
theorem bldMarks (w : World) : (Instr.build 35 #[]).run Try.prog w = .ok (.agg (m16 fun _ => false).toArray) w := by
  simp [Instr.build, Try.zeroValue35, Try.runUnderlying35, Try.sizeOf4, Instr.fill, cells_agg, m16]
theorem encR_blk (x : SnapM) : ∀ j, j < 16 → (encR x)[3 + j * 1]? = some (Str (x.blocks j))
  := fun j h => match j, h with
    | 0, _ => rfl
    | 1, _ => rfl
    | 2, _ => rfl
    | 3, _ => rfl
    | 4, _ => rfl
    | 5, _ => rfl
    | 6, _ => rfl
    | 7, _ => rfl
    | 8, _ => rfl
    | 9, _ => rfl
    | 10, _ => rfl
    | 11, _ => rfl
    | 12, _ => rfl
    | 13, _ => rfl
    | 14, _ => rfl
    | 15, _ => rfl
    | k + 16, h => absurd h (by omega)
theorem encR_mrk (x : SnapM) : ∀ j, j < 16 → (encR x)[19 + j * 1]? = some (Bo (x.dirty j))
  := fun j h => match j, h with
    | 0, _ => rfl
    | 1, _ => rfl
    | 2, _ => rfl
    | 3, _ => rfl
    | 4, _ => rfl
    | 5, _ => rfl
    | 6, _ => rfl
    | 7, _ => rfl
    | 8, _ => rfl
    | 9, _ => rfl
    | 10, _ => rfl
    | 11, _ => rfl
    | 12, _ => rfl
    | 13, _ => rfl
    | 14, _ => rfl
    | 15, _ => rfl
    | k + 16, h => absurd h (by omega)
theorem encR_at {T : TypeId} {f : Nat × Nat} (x : SnapM) : ∀ j, j < 16 → objCell (.cells (encR x).toArray T f) (0 + 19 + j * 1) = some (Bo (x.dirty j))
  := fun j h => match j, h with
    | 0, _ => rfl
    | 1, _ => rfl
    | 2, _ => rfl
    | 3, _ => rfl
    | 4, _ => rfl
    | 5, _ => rfl
    | 6, _ => rfl
    | 7, _ => rfl
    | 8, _ => rfl
    | 9, _ => rfl
    | 10, _ => rfl
    | 11, _ => rfl
    | 12, _ => rfl
    | 13, _ => rfl
    | 14, _ => rfl
    | 15, _ => rfl
    | k + 16, h => absurd h (by omega)
theorem encR_set (x : SnapM) : ∀ j, j < 16 → (encR x).set (19 + j * 1) (Bo true) = encR (withD x (updM x.dirty j))
  := fun j h => by
    have e : updM x.dirty j = fun i => if i = j then true else x.dirty i := funext fun i => updM_eq x.dirty i j
    rw [e]
    exact match j, h with
    | 0, _ => rfl
    | 1, _ => rfl
    | 2, _ => rfl
    | 3, _ => rfl
    | 4, _ => rfl
    | 5, _ => rfl
    | 6, _ => rfl
    | 7, _ => rfl
    | 8, _ => rfl
    | 9, _ => rfl
    | 10, _ => rfl
    | 11, _ => rfl
    | 12, _ => rfl
    | 13, _ => rfl
    | 14, _ => rfl
    | 15, _ => rfl
    | k + 16, h => absurd h (by omega)

theorem ct_R_NewVDisk (n : Int) (F : List HProp) : Ct Try.prog 44 [I n] ([] ++ F) (RNewG (1 ≤ n ∧ n ≤ 16) I (fun b => rvd b (vdNew n)) F) := by
  show Ct Try.prog 44 [I n] (F) _
  refine Ct.of Try.func44 rfl 13 Try.ntmps44 (by simp) fun w0 => ?_
  refine g_seq ?_
  refine g_reg ?_
  refine g_v (v_assign rfl) rfl ?_
  refine g_v (v_assign rfl) rfl ?_
  refine g_nil ?_
  refine g_seq ?_
  refine g_seq ?_
  refine g_reg ?_
  refine g_v (v_move rfl) rfl ?_
  refine g_v (v_lss rfl rfl) rfl ?_
  refine g_v (v_move rfl) rfl ?_
  refine g_gv rfl rfl (fun hg => v_move rfl) rfl rfl ?_
  refine g_gv rfl rfl (fun hg => v_gtr rfl rfl) rfl rfl ?_
  refine g_v (v_or rfl rfl) rfl ?_
  refine g_nil ?_
  refine g_cond rfl (fun h9 => ?_) (fun h9 => ?_)
  · simp at h9
    refine g_seq ?_
    refine g_reg ?_
    refine g_v (v_assign rfl) rfl ?_
    refine g_v (v_assign rfl) rfl ?_
    refine g_nil ?_
    exact g_retNoneG rfl rfl (by omega) rfl
  · simp at h9
    refine g_skip ?_
    refine g_seq ?_
    refine g_reg ?_
    refine g_v (v_move rfl) rfl ?_
    refine g_v (v_build rfl (bld80_0_4 _ rfl _ rfl)) rfl ?_
    refine g_l (l_box (rvC n (fun _ => []) (fun _ => false) 0 1 (sl none 0 0)) rfl rfl) rfl ?_
    rintro _ _ ⟨b12, rfl, rfl⟩
    refine g_v (v_assign rfl) rfl ?_
    refine g_v (v_assign rfl) rfl ?_
    refine g_nil ?_
    refine g_nilown 93 35 (rsnapR []) rfl ?_
    refine g_shutR (rvC n (fun _ => []) (fun _ => false) 0 1 (sl none 0 0)) (rsnapR []) none 0 b12 (vdNew n) rfl rfl ?_
    exact g_retSomeG b12 rfl rfl (by omega) rfl

theorem ct_R_VDisk_Write (b : Nat) (D : VdM) (n : Int) (s : Bytes) (hz : D.size ≤ 16) (F : List HProp) : Ct Try.prog 137 [ptr b 0, I n, Str s] ([rvd b (D)] ++ F) (R1 (I (wrE D n s)) (rvd b (wrD D n s) :: F)) := by
  show Ct Try.prog 137 [ptr b 0, I n, Str s] (rvd b (D) :: F) _
  refine Ct.of Try.func137 rfl 31 Try.ntmps137 (by simp) fun w0 => ?_
  refine g_openR b (D) ?_
  intro ss cs
  refine g_seq ?_
  refine g_reg ?_
  refine g_v (v_assign rfl) rfl ?_
  refine g_nil ?_
  refine g_seq ?_
  refine g_seq ?_
  refine g_reg ?_
  refine g_v (v_move rfl) rfl ?_
  refine g_v (v_lss rfl rfl) rfl ?_
  refine g_v (v_move rfl) rfl ?_
  refine g_gv rfl rfl (fun hg => v_move rfl) rfl rfl ?_
  refine g_gv rfl rfl (fun hg => v_move rfl) rfl rfl ?_
  refine g_gv rfl rfl (fun hg => v_nilCheck rfl) rfl rfl ?_
  refine g_gv rfl rfl (fun hg => v_fieldAddr 0 Try.underlying80 rfl rfl Try.sizeOf3 (by decide) rfl) rfl rfl ?_
  refine g_gv rfl rfl (fun hg => v_load (v := I D.size) Try.isAgg3 rfl rfl) rfl rfl ?_
  refine g_gv rfl rfl (fun hg => v_geq rfl rfl) rfl rfl ?_
  refine g_v (v_or rfl rfl) rfl ?_
  refine g_nil ?_
  refine g_cond rfl (fun h16 => ?_) (fun h16 => ?_)
  · simp at h16
    have hw : wrE D n s = 1 := by unfold wrE; rw [if_pos (by omega)]
    refine g_seq ?_
    refine g_reg ?_
    refine g_v (v_assign rfl) rfl ?_
    refine g_nil ?_
    refine g_shutR (rvC ((D).size) ((D).blocks) ((D).dirty) ((D).time) ((D).next) (sl ss (D).snaps.length cs)) (rsnapR (D).snaps) ss cs b (D) rfl rfl ?_
    rw [show rvd b D = rvd b (wrD D n s) by unfold wrD; rw [if_neg (by omega)]]
    exact g_ret1 rfl rfl (by rw [hw]; rfl)
  · simp at h16
    have hw : wrE D n s = chkS s := by unfold wrE; rw [if_neg (by omega)]
    refine g_skip ?_
    refine g_seq ?_
    refine g_seq ?_
    refine g_reg ?_
    refine g_v (v_move rfl) rfl ?_
    refine g_v (v_slen Try.underlying9 rfl) rfl ?_
    refine g_v (v_gtr rfl rfl) rfl ?_
    refine g_nil ?_
    refine g_cond rfl (fun h19 => ?_) (fun h19 => ?_)
    · simp at h19
      have hw2 : chkS s = 2 := by unfold chkS; rw [if_pos (by omega)]
      refine g_seq ?_
      refine g_reg ?_
      refine g_v (v_assign rfl) rfl ?_
      refine g_nil ?_
      refine g_shutR (rvC ((D).size) ((D).blocks) ((D).dirty) ((D).time) ((D).next) (sl ss (D).snaps.length cs)) (rsnapR (D).snaps) ss cs b (D) rfl rfl ?_
      rw [show rvd b D = rvd b (wrD D n s) by unfold wrD; rw [if_neg (by omega)]]
      exact g_ret1 rfl rfl (by rw [hw, hw2]; rfl)
    · simp at h19
      have hw2 : chkS s = 0 := by unfold chkS; rw [if_neg (by omega)]
      refine g_skip ?_
      refine g_seq ?_
      refine g_reg ?_
      refine g_v (v_move rfl) rfl ?_
      refine g_v (v_move rfl) rfl ?_
      refine g_v (v_move rfl) rfl ?_
      refine g_v (v_nilCheck rfl) rfl ?_
      refine g_v (v_fieldAddr 1 Try.underlying80 rfl rfl Try.sizeOf77 (by decide) rfl) rfl ?_
      refine g_v (v_idxA n.toNat Try.underlying77 Try.sizeOf9 rfl rfl (by omega) (by omega)) rfl ?_
      refine g_l0 (l_store (rvC ((D).size) (upd D.blocks n.toNat s) ((D).dirty) ((D).time) ((D).next) (sl ss (D).snaps.length cs)) Try.sizeOf9 rfl rfl rfl (by rw [rvC_len]; omega) (rvC_set _ _ _ _ _ _ _ _ (by omega))) ?_
      rintro _ _ rfl
      refine g_nil ?_
      refine g_seq ?_
      refine g_reg ?_
      refine g_v (v_move rfl) rfl ?_
      refine g_v (v_move rfl) rfl ?_
      refine g_v (v_nilCheck rfl) rfl ?_
      refine g_v (v_fieldAddr 17 Try.underlying80 rfl rfl Try.sizeOf35 (by decide) rfl) rfl ?_
      refine g_v (v_idxA n.toNat Try.underlying35 Try.sizeOf4 rfl rfl (by omega) (by omega)) rfl ?_
      refine g_l0 (l_store (rvC ((D).size) (upd D.blocks n.toNat s) (areaM D.dirty n 1) ((D).time) ((D).next) (sl ss (D).snaps.length cs)) Try.sizeOf4 rfl rfl rfl (by rw [rvC_len]; omega) (by rw [rvC_mark _ _ _ _ _ _ _ (by omega), updM_area _ h16.1])) ?_
      rintro _ _ rfl
      refine g_nil ?_
      refine g_seq ?_
      refine g_reg ?_
      refine g_v (v_assign rfl) rfl ?_
      refine g_nil ?_
      refine g_shutR (rvC ((D).size) (upd D.blocks n.toNat s) (areaM D.dirty n 1) ((D).time) ((D).next) (sl ss (D).snaps.length cs)) (rsnapR D.snaps) ss cs b (⟨D.size, upd D.blocks n.toNat s, areaM D.dirty n 1, D.time, D.next, D.snaps⟩) rfl rfl ?_
      rw [show rvd b ⟨D.size, upd D.blocks n.toNat s, areaM D.dirty n 1, D.time, D.next, D.snaps⟩ = rvd b (wrD D n s) by unfold wrD; rw [if_pos (by omega)]]
      exact g_ret1 rfl rfl (by rw [hw, hw2]; rfl)

theorem ct_R_VDisk_Resize (b : Nat) (D : VdM) (n : Int) (hz : 1 ≤ D.size ∧ D.size ≤ 16) (F : List HProp) : Ct Try.prog 138 [ptr b 0, I n] ([rvd b (D)] ++ F) (R1 (I (rsE n)) (rvd b (rsD D n) :: F)) := by
  show Ct Try.prog 138 [ptr b 0, I n] (rvd b (D) :: F) _
  refine Ct.of Try.func138 rfl 54 Try.ntmps138 (by simp) fun w0 => ?_
  refine g_openR b (D) ?_
  intro ss cs
  rw [show rvC D.size D.blocks D.dirty D.time D.next (sl ss D.snaps.length cs) = rvC D.size (rzB D n 0) (rzM D n 0) D.time D.next (sl ss D.snaps.length cs) by rw [show rzB D n 0 = D.blocks from funext fun i => by unfold rzB; rw [if_neg (by omega)], show rzM D n 0 = D.dirty from funext fun i => by unfold rzM; simp]]
  refine g_seq ?_
  refine g_reg ?_
  refine g_v (v_assign rfl) rfl ?_
  refine g_nil ?_
  refine g_seq ?_
  refine g_seq ?_
  refine g_reg ?_
  refine g_v (v_move rfl) rfl ?_
  refine g_v (v_lss rfl rfl) rfl ?_
  refine g_v (v_move rfl) rfl ?_
  refine g_gv rfl rfl (fun hg => v_move rfl) rfl rfl ?_
  refine g_gv rfl rfl (fun hg => v_gtr rfl rfl) rfl rfl ?_
  refine g_v (v_or rfl rfl) rfl ?_
  refine g_nil ?_
  refine g_cond rfl (fun h11 => ?_) (fun h11 => ?_)
  · simp at h11
    have hw : rsE n = 1 := by unfold rsE; rw [if_pos (by omega)]
    refine g_seq ?_
    refine g_reg ?_
    refine g_v (v_assign rfl) rfl ?_
    refine g_nil ?_
    rw [show rzB D n 0 = D.blocks from funext fun i => by unfold rzB; rw [if_neg (by omega)], show rzM D n 0 = D.dirty from funext fun i => by unfold rzM; simp]
    refine g_shutR (rvC ((D).size) ((D).blocks) ((D).dirty) ((D).time) ((D).next) (sl ss (D).snaps.length cs)) (rsnapR (D).snaps) ss cs b (D) rfl rfl ?_
    rw [show rvd b D = rvd b (rsD D n) by unfold rsD; rw [if_neg (by omega)]]
    exact g_ret1 rfl rfl (by rw [hw]; rfl)
  · simp at h11
    have hw : rsE n = 0 := by unfold rsE; rw [if_neg (by omega)]
    have hhi : hiS D n ≤ 16 := by unfold hiS; split <;> omega
    refine g_skip ?_
    refine g_seq ?_
    refine g_seq ?_
    refine g_reg ?_
    refine g_v (v_assign rfl) rfl ?_
    refine g_nil ?_
    refine g_block ?_
    refine g_loop (α := Nat) (fun k => k ≤ 16) (fun k => U [(0, ptr b 0), (1, I n), (5, I k)]) (fun k => pt b (.cells (rvC ((D).size) (rzB D n k) (rzM D n k) ((D).time) ((D).next) (sl ss (D).snaps.length cs)) 80 (0, 0)) :: owL 93 35 ss cs (rsnapR D.snaps) :: F) (fun k => 16 - k) 0 (by simp) [0, 1, 5] rfl rfl ?_
    intro k hk16
    refine g_seq ?_
    refine g_seq ?_
    refine g_reg ?_
    refine g_v (v_move rfl) rfl ?_
    refine g_v (v_lss rfl rfl) rfl ?_
    refine g_nil ?_
    refine g_cond rfl (fun h13 => ?_) (fun h13 => ?_)
    · simp at h13
      have hk : k < 16 := by omega
      refine g_skip ?_
      refine g_seq ?_
      refine g_block ?_
      refine g_seq ?_
      refine g_reg ?_
      refine g_v (v_move rfl) rfl ?_
      refine g_v (v_move rfl) rfl ?_
      refine g_v (v_geq rfl rfl) rfl ?_
      refine g_v (v_move rfl) rfl ?_
      refine g_gv rfl rfl (fun hg => v_move rfl) rfl rfl ?_
      refine g_gv rfl rfl (fun hg => v_move rfl) rfl rfl ?_
      refine g_gv rfl rfl (fun hg => v_nilCheck rfl) rfl rfl ?_
      refine g_gv rfl rfl (fun hg => v_fieldAddr 0 Try.underlying80 rfl rfl Try.sizeOf3 (by decide) rfl) rfl rfl ?_
      refine g_gv rfl rfl (fun hg => v_load (v := I D.size) Try.isAgg3 rfl rfl) rfl rfl ?_
      refine g_gv rfl rfl (fun hg => v_lss rfl rfl) rfl rfl ?_
      refine g_v (v_and rfl rfl) rfl ?_
      refine g_v (v_move rfl) rfl ?_
      by_cases hA : n ≤ (k : Int) ∧ (k : Int) < D.size
      · have hAb : (decide (n ≤ (k : Int)) && decide ((k : Int) < D.size)) = true := by simp [hA.1, hA.2]
        refine g_no rfl rfl (by rw [hAb]; rfl) rfl ?_
        refine g_no rfl rfl (by rw [hAb]; rfl) rfl ?_
        refine g_no rfl rfl (by rw [hAb]; rfl) rfl ?_
        refine g_no rfl rfl (by rw [hAb]; rfl) rfl ?_
        refine g_no rfl rfl (by rw [hAb]; rfl) rfl ?_
        refine g_no rfl rfl (by rw [hAb]; rfl) rfl ?_
        refine g_no rfl rfl (by rw [hAb]; rfl) rfl ?_
        refine g_no rfl rfl rfl rfl ?_
        refine g_no rfl rfl rfl rfl ?_
        refine g_no rfl rfl rfl rfl ?_
        refine g_no rfl rfl (by rw [hAb]; rfl) rfl ?_
        refine g_v (v_pk1 rfl hAb rfl) rfl ?_
        refine g_nil ?_
        refine g_cond rfl (fun h39 => ?_) (fun h39 => ?_)
        · have h39' := rz_iff.1 (.inl hA)
          refine g_seq ?_
          refine g_reg ?_
          refine g_v (v_move rfl) rfl ?_
          refine g_v (v_move rfl) rfl ?_
          refine g_v (v_nilCheck rfl) rfl ?_
          refine g_v (v_fieldAddr 1 Try.underlying80 rfl rfl Try.sizeOf77 (by decide) rfl) rfl ?_
          refine g_v (v_idxA k Try.underlying77 Try.sizeOf9 rfl rfl rfl hk) rfl ?_
          refine g_l0 (l_store (rvC ((D).size) (rzB D n (k + 1)) (rzM D n k) ((D).time) ((D).next) (sl ss (D).snaps.length cs)) Try.sizeOf9 rfl rfl rfl (by rw [rvC_len]; omega) (by rw [rvC_set _ _ _ _ _ _ _ _ hk, rzB_hit h39'])) ?_
          rintro _ _ rfl
          refine g_nil ?_
          refine g_reg ?_
          refine g_v (v_move rfl) rfl ?_
          refine g_v (v_move rfl) rfl ?_
          refine g_v (v_nilCheck rfl) rfl ?_
          refine g_v (v_fieldAddr 17 Try.underlying80 rfl rfl Try.sizeOf35 (by decide) rfl) rfl ?_
          refine g_v (v_idxA k Try.underlying35 Try.sizeOf4 rfl rfl rfl hk) rfl ?_
          refine g_l0 (l_store (rvC ((D).size) (rzB D n (k + 1)) (rzM D n (k + 1)) ((D).time) ((D).next) (sl ss (D).snaps.length cs)) Try.sizeOf4 rfl rfl rfl (by rw [rvC_len]; omega) (by rw [rvC_mark _ _ _ _ _ _ _ hk, rzM_hit h39'])) ?_
          rintro _ _ rfl
          refine g_nil ?_
          refine g_blk ?_
          refine g_reg ?_
          refine g_v (v_move rfl) rfl ?_
          refine g_v (v_add rfl rfl (w64 (by omega))) rfl ?_
          refine g_v (v_assign rfl) rfl ?_
          refine g_nil ?_
          exact g_again (k + 1) (by omega) (by omega) [0, 1, 5] rfl rfl
        · simp at h39
      · have hAb : (decide (n ≤ (k : Int)) && decide ((k : Int) < D.size)) = false := by rw [← Bool.not_eq_true, Bool.and_eq_true, decide_eq_true_eq, decide_eq_true_eq]; exact hA
        refine g_gv1 rfl rfl hAb (v_move rfl) rfl ?_
        refine g_gv1 rfl rfl hAb (v_move rfl) rfl ?_
        refine g_gv1 rfl rfl hAb (v_nilCheck rfl) rfl ?_
        refine g_gv1 rfl rfl hAb (v_fieldAddr 0 Try.underlying80 rfl rfl Try.sizeOf3 (by decide) rfl) rfl ?_
        refine g_gv1 rfl rfl hAb (v_load (v := I D.size) Try.isAgg3 rfl rfl) rfl ?_
        refine g_gv1 rfl rfl hAb (v_geq rfl rfl) rfl ?_
        refine g_gv1 rfl rfl hAb (v_move rfl) rfl ?_
        refine g_gv rfl rfl (fun hg => v_move rfl) rfl rfl ?_
        refine g_gv rfl rfl (fun hg => v_move rfl) rfl rfl ?_
        refine g_gv rfl rfl (fun hg => v_lss rfl rfl) rfl rfl ?_
        refine g_gv1 rfl rfl hAb (v_and rfl rfl) rfl ?_
        refine g_v (v_or rfl rfl) rfl ?_
        refine g_nil ?_
        refine g_cond rfl (fun h39 => ?_) (fun h39 => ?_)
        · have h39' := rz_iff.1 (by simpa using h39)
          refine g_seq ?_
          refine g_reg ?_
          refine g_v (v_move rfl) rfl ?_
          refine g_v (v_move rfl) rfl ?_
          refine g_v (v_nilCheck rfl) rfl ?_
          refine g_v (v_fieldAddr 1 Try.underlying80 rfl rfl Try.sizeOf77 (by decide) rfl) rfl ?_
          refine g_v (v_idxA k Try.underlying77 Try.sizeOf9 rfl rfl rfl hk) rfl ?_
          refine g_l0 (l_store (rvC ((D).size) (rzB D n (k + 1)) (rzM D n k) ((D).time) ((D).next) (sl ss (D).snaps.length cs)) Try.sizeOf9 rfl rfl rfl (by rw [rvC_len]; omega) (by rw [rvC_set _ _ _ _ _ _ _ _ hk, rzB_hit h39'])) ?_
          rintro _ _ rfl
          refine g_nil ?_
          refine g_reg ?_
          refine g_v (v_move rfl) rfl ?_
          refine g_v (v_move rfl) rfl ?_
          refine g_v (v_nilCheck rfl) rfl ?_
          refine g_v (v_fieldAddr 17 Try.underlying80 rfl rfl Try.sizeOf35 (by decide) rfl) rfl ?_
          refine g_v (v_idxA k Try.underlying35 Try.sizeOf4 rfl rfl rfl hk) rfl ?_
          refine g_l0 (l_store (rvC ((D).size) (rzB D n (k + 1)) (rzM D n (k + 1)) ((D).time) ((D).next) (sl ss (D).snaps.length cs)) Try.sizeOf4 rfl rfl rfl (by rw [rvC_len]; omega) (by rw [rvC_mark _ _ _ _ _ _ _ hk, rzM_hit h39'])) ?_
          rintro _ _ rfl
          refine g_nil ?_
          refine g_blk ?_
          refine g_reg ?_
          refine g_v (v_move rfl) rfl ?_
          refine g_v (v_add rfl rfl (w64 (by omega))) rfl ?_
          refine g_v (v_assign rfl) rfl ?_
          refine g_nil ?_
          exact g_again (k + 1) (by omega) (by omega) [0, 1, 5] rfl rfl
        · have h39' : ¬ (loS D n ≤ (k : Int) ∧ (k : Int) < hiS D n) := fun hh => by have := rz_iff.2 hh; simp at h39; omega
          refine g_skip ?_
          refine g_blk ?_
          refine g_reg ?_
          refine g_v (v_move rfl) rfl ?_
          refine g_v (v_add rfl rfl (w64 (by omega))) rfl ?_
          refine g_v (v_assign rfl) rfl ?_
          refine g_nil ?_
          rw [rzB_miss h39', rzM_miss h39']
          exact g_again (k + 1) (by omega) (by omega) [0, 1, 5] rfl rfl
    · simp at h13
      obtain rfl : k = 16 := by omega
      rw [rzB_all hhi, rzM_all hhi]
      refine g_exit rfl ?_
      refine g_seq ?_
      refine g_reg ?_
      refine g_v (v_move rfl) rfl ?_
      refine g_v (v_move rfl) rfl ?_
      refine g_v (v_nilCheck rfl) rfl ?_
      refine g_v (v_fieldAddr 0 Try.underlying80 rfl rfl Try.sizeOf3 (by decide) rfl) rfl ?_
      refine g_l0 (l_store (rvC n (rsB D.blocks (loS D n) (hiS D n)) (areaM D.dirty (loS D n) (hiS D n - loS D n)) D.time D.next (sl ss D.snaps.length cs)) Try.sizeOf3 rfl rfl rfl (by rw [rvC_len]; decide) (rvC_size _ _ _ _ _ _ _)) ?_
      rintro _ _ rfl
      refine g_nil ?_
      refine g_seq ?_
      refine g_reg ?_
      refine g_v (v_assign rfl) rfl ?_
      refine g_nil ?_
      refine g_shutR (rvC n (rsB D.blocks (loS D n) (hiS D n)) (areaM D.dirty (loS D n) (hiS D n - loS D n)) D.time D.next (sl ss D.snaps.length cs)) (rsnapR D.snaps) ss cs b (⟨n, rsB D.blocks (loS D n) (hiS D n), areaM D.dirty (loS D n) (hiS D n - loS D n), D.time, D.next, D.snaps⟩) rfl rfl ?_
      rw [show rvd b ⟨n, rsB D.blocks (loS D n) (hiS D n), areaM D.dirty (loS D n) (hiS D n - loS D n), D.time, D.next, D.snaps⟩ = rvd b (rsD D n) by unfold rsD; rw [if_pos hw]]
      exact g_ret1 rfl rfl (by rw [hw]; rfl)

theorem ct_R_VDisk_Forget (b : Nat) (D : VdM) (ht : -9223372036854775808 ≤ D.time ∧ D.time < 9223372036854775807) (F : List HProp) : Ct Try.prog 141 [ptr b 0] ([rvd b (D)] ++ F) (R1 (.tuple #[]) (rvd b (fgD D) :: F)) := by
  show Ct Try.prog 141 [ptr b 0] (rvd b (D) :: F) _
  refine Ct.of Try.func141 rfl 13 Try.ntmps141 (by simp) fun w0 => ?_
  refine g_openR b (D) ?_
  intro ss cs
  refine g_seq ?_
  refine g_reg ?_
  refine g_v (v_move rfl) rfl ?_
  refine g_v (v_nilCheck rfl) rfl ?_
  refine g_v (v_fieldAddr 33 Try.underlying80 rfl rfl Try.sizeOf3 (by decide) rfl) rfl ?_
  refine g_v (v_load (v := I D.time) Try.isAgg3 rfl rfl) rfl ?_
  refine g_v (v_add rfl rfl (w64 (by omega))) rfl ?_
  refine g_v (v_nilCheck rfl) rfl ?_
  refine g_v (v_fieldAddr 33 Try.underlying80 rfl rfl Try.sizeOf3 (by decide) rfl) rfl ?_
  refine g_l0 (l_store (rvC ((D).size) ((D).blocks) ((D).dirty) (D.time + 1) ((D).next) (sl ss (D).snaps.length cs)) Try.sizeOf3 rfl rfl rfl (by rw [rvC_len]; decide) (rvC_time _ _ _ _ _ _ _)) ?_
  rintro _ _ rfl
  refine g_nil ?_
  refine g_reg ?_
  refine g_v (v_move rfl) rfl ?_
  refine g_v (v_build rfl bldMarks) rfl ?_
  refine g_v (v_nilCheck rfl) rfl ?_
  refine g_v (v_fieldAddr 17 Try.underlying80 rfl rfl Try.sizeOf35 (by decide) rfl) rfl ?_
  refine g_l0 (l_storeA (cs := rvC ((D).size) ((D).blocks) ((D).dirty) (D.time + 1) ((D).next) (sl ss (D).snaps.length cs)) (vs := m16 fun _ => false) (rvC ((D).size) ((D).blocks) (fun _ => false) (D.time + 1) ((D).next) (sl ss (D).snaps.length cs)) Try.sizeOf35 rfl rfl rfl rfl (by rw [rvC_len]; decide) (rv_marks _ _ _ _ _ _ _)) ?_
  rintro _ _ rfl
  refine g_nil ?_
  refine g_shutR (rvC ((D).size) ((D).blocks) (fun _ => false) (D.time + 1) ((D).next) (sl ss (D).snaps.length cs)) (rsnapR D.snaps) ss cs b (fgD D) rfl rfl ?_
  exact g_end1 rfl rfl rfl

theorem ct_R_VDisk_at (b : Nat) (D : VdM) (id : Int) (hsl : D.snaps.length ≤ 1000000) (F : List HProp) : Ct Try.prog 143 [ptr b 0, I id] ([rvd b (D)] ++ F) (R1 (I (findI D.snaps id)) (rvd b (D) :: F)) := by
  show Ct Try.prog 143 [ptr b 0, I id] (rvd b (D) :: F) _
  refine Ct.of Try.func143 rfl 26 Try.ntmps143 (by simp) fun w0 => ?_
  refine g_openR b (D) ?_
  intro ss cs
  refine g_seq ?_
  refine g_reg ?_
  refine g_v (v_assign rfl) rfl ?_
  refine g_nil ?_
  refine g_seq ?_
  refine g_seq ?_
  refine g_reg ?_
  refine g_v (v_assign rfl) rfl ?_
  refine g_nil ?_
  refine g_block ?_
  refine g_loop (α := Nat) (fun k => k ≤ D.snaps.length ∧ ∀ j, j < k → ∀ t, D.snaps[j]? = some t → t.id ≠ id) (fun k => U [(0, ptr b 0), (1, I id), (5, I k)]) (fun _ => pt b (.cells (rvC ((D).size) ((D).blocks) ((D).dirty) ((D).time) ((D).next) (sl ss (D).snaps.length cs)) 80 (0, 0)) :: owL 93 35 ss cs (rsnapR D.snaps) :: F) (fun k => D.snaps.length - k) 0 ⟨by simp, fun j hj => absurd hj (by omega)⟩ [0, 1, 5] rfl rfl ?_
  rintro k ⟨hk, hno⟩
  refine g_seq ?_
  refine g_seq ?_
  refine g_reg ?_
  refine g_v (v_move rfl) rfl ?_
  refine g_v (v_move rfl) rfl ?_
  refine g_v (v_nilCheck rfl) rfl ?_
  refine g_v (v_fieldAddr 35 Try.underlying80 rfl rfl Try.sizeOf78 (by decide) rfl) rfl ?_
  refine g_v (v_load (v := sl ss D.snaps.length cs) Try.isAgg78 rfl rfl) rfl ?_
  refine g_v (v_len Try.underlying78 rfl) rfl ?_
  refine g_v (v_lss rfl rfl) rfl ?_
  refine g_nil ?_
  refine g_cond rfl (fun h12 => ?_) (fun h12 => ?_)
  · simp at h12
    have hkn : k < D.snaps.length := by omega
    obtain ⟨x, hx⟩ : ∃ x, D.snaps[k]? = some x := ⟨_, List.getElem?_eq_getElem hkn⟩
    have hkr : k < (rsnapR D.snaps).length := by rw [rsnapR_len]; exact hkn
    refine g_skip ?_
    refine g_seq ?_
    refine g_block ?_
    refine g_seq ?_
    refine g_reg ?_
    refine g_v (v_move rfl) rfl ?_
    refine g_v (v_nilCheck rfl) rfl ?_
    refine g_v (v_fieldAddr 35 Try.underlying80 rfl rfl Try.sizeOf78 (by decide) rfl) rfl ?_
    refine g_v (v_load (v := sl ss D.snaps.length cs) Try.isAgg78 rfl rfl) rfl ?_
    refine g_v (v_move rfl) rfl ?_
    refine g_v (v_idxS k Try.underlying78 Try.sizeOf93 rfl rfl rfl hkn hkr) rfl ?_
    refine g_v (v_fieldAdrS (j := k) 0 Try.underlying93 rfl rfl Try.sizeOf3 (by decide) rfl hkr) rfl ?_
    refine g_v (v_loadS (v := I x.id) Try.isAgg3 rfl (rsnapR_at hx) rfl) rfl ?_
    refine g_v (v_move rfl) rfl ?_
    refine g_v (v_eql rfl rfl) rfl ?_
    refine g_nil ?_
    refine g_cond rfl (fun h24 => ?_) (fun h24 => ?_)
    · simp at h24
      refine g_seq ?_
      refine g_reg ?_
      refine g_v (v_move rfl) rfl ?_
      refine g_v (v_assign rfl) rfl ?_
      refine g_nil ?_
      refine g_shutR (rvC ((D).size) ((D).blocks) ((D).dirty) ((D).time) ((D).next) (sl ss (D).snaps.length cs)) (rsnapR (D).snaps) ss cs b (D) rfl rfl ?_
      exact g_ret1 rfl rfl (by rw [findI_hit hno hx h24]; rfl)
    · simp at h24
      refine g_skip ?_
      refine g_blk ?_
      refine g_reg ?_
      refine g_v (v_move rfl) rfl ?_
      refine g_v (v_add rfl rfl (w64 (by omega))) rfl ?_
      refine g_v (v_assign rfl) rfl ?_
      refine g_nil ?_
      exact g_again (k + 1) ⟨by omega, fun j hj t ht => by
          rcases Nat.lt_or_ge j k with h | h
          · exact hno j h t ht
          · obtain rfl : j = k := by omega
            rw [hx] at ht
            injection ht with ht
            rw [← ht]
            exact h24⟩ (by omega) [0, 1, 5] rfl rfl
  · simp at h12
    obtain rfl : k = D.snaps.length := by omega
    refine g_exit rfl ?_
    refine g_seq ?_
    refine g_reg ?_
    refine g_v (v_assign rfl) rfl ?_
    refine g_nil ?_
    refine g_shutR (rvC ((D).size) ((D).blocks) ((D).dirty) ((D).time) ((D).next) (sl ss (D).snaps.length cs)) (rsnapR (D).snaps) ss cs b (D) rfl rfl ?_
    exact g_ret1 rfl rfl (by rw [findI_none hno]; rfl)

theorem ct_R_VDisk_Read (b : Nat) (D : VdM) (id n : Int) (hsl : D.snaps.length ≤ 1000000) (hsz : ∀ s ∈ D.snaps, s.size ≤ 16) (F : List HProp) : Ct Try.prog 49 [ptr b 0, I id, I n] ([rvd b (D)] ++ F) (R1 (.tuple #[Str (rdS D id n).1, I (rdS D id n).2.1, I (rdS D id n).2.2]) (rvd b (D) :: F)) := by
  show Ct Try.prog 49 [ptr b 0, I id, I n] (rvd b (D) :: F) _
  refine Ct.of Try.func49 rfl 47 Try.ntmps49 (by simp) fun w0 => ?_
  refine g_seq ?_
  refine g_reg ?_
  refine g_v (v_assign rfl) rfl ?_
  refine g_v (v_assign rfl) rfl ?_
  refine g_v (v_assign rfl) rfl ?_
  refine g_nil ?_
  refine g_seq ?_
  refine g_reg ?_
  refine g_v (v_move rfl) rfl ?_
  refine g_v (v_move rfl) rfl ?_
  refine g_l (l_call (Pre := [rvd b (D)]) Try.call143 rfl (ct_R_VDisk_at b D id (by omega))) rfl ?_
  rintro _ _ ⟨rfl, rfl⟩
  refine g_v (v_assign rfl) rfl ?_
  refine g_nil ?_
  refine g_seq ?_
  refine g_seq ?_
  refine g_reg ?_
  refine g_v (v_move rfl) rfl ?_
  refine g_v (v_lss rfl rfl) rfl ?_
  refine g_nil ?_
  refine g_cond rfl (fun h14 => ?_) (fun h14 => ?_)
  · simp at h14
    refine g_seq ?_
    refine g_reg ?_
    refine g_v (v_assign rfl) rfl ?_
    refine g_v (v_assign rfl) rfl ?_
    refine g_v (v_assign rfl) rfl ?_
    refine g_nil ?_
    exact g_ret1 rfl rfl (by rw [show rdS D id n = ([], 0, 5) by unfold rdS; rw [if_pos (by omega)]]; rfl)
  · simp at h14
    obtain ⟨i, s, hfi, hs, hid, hil⟩ := findI_pos (show ¬ findI D.snaps id < 0 by omega)
    rw [hfi]
    refine g_openR b (D) ?_
    intro ss cs
    have hir : i < (rsnapR D.snaps).length := by rw [rsnapR_len]; exact hil
    refine g_skip ?_
    refine g_seq ?_
    refine g_seq ?_
    refine g_reg ?_
    refine g_v (v_move rfl) rfl ?_
    refine g_v (v_lss rfl rfl) rfl ?_
    refine g_v (v_move rfl) rfl ?_
    refine g_gv rfl rfl (fun hg => v_move rfl) rfl rfl ?_
    refine g_gv rfl rfl (fun hg => v_move rfl) rfl rfl ?_
    refine g_gv rfl rfl (fun hg => v_nilCheck rfl) rfl rfl ?_
    refine g_gv rfl rfl (fun hg => v_fieldAddr 35 Try.underlying80 rfl rfl Try.sizeOf78 (by decide) rfl) rfl rfl ?_
    refine g_gv rfl rfl (fun hg => v_load (v := sl ss D.snaps.length cs) Try.isAgg78 rfl rfl) rfl rfl ?_
    refine g_gv rfl rfl (fun hg => v_move rfl) rfl rfl ?_
    refine g_gv rfl rfl (fun hg => v_idxS i Try.underlying78 Try.sizeOf93 rfl rfl rfl hil hir) rfl rfl ?_
    refine g_gv rfl rfl (fun hg => v_fieldAdrS (j := i) 2 Try.underlying93 rfl rfl Try.sizeOf3 (by decide) rfl hir) rfl rfl ?_
    refine g_gv rfl rfl (fun hg => v_loadS (v := I s.size) Try.isAgg3 rfl (rsnapR_at hs) rfl) rfl rfl ?_
    refine g_gv rfl rfl (fun hg => v_geq rfl rfl) rfl rfl ?_
    refine g_v (v_or rfl rfl) rfl ?_
    refine g_nil ?_
    refine g_cond rfl (fun h28 => ?_) (fun h28 => ?_)
    · simp at h28
      refine g_seq ?_
      refine g_reg ?_
      refine g_v (v_assign rfl) rfl ?_
      refine g_v (v_assign rfl) rfl ?_
      refine g_v (v_assign rfl) rfl ?_
      refine g_nil ?_
      refine g_shutR (rvC ((D).size) ((D).blocks) ((D).dirty) ((D).time) ((D).next) (sl ss (D).snaps.length cs)) (rsnapR (D).snaps) ss cs b (D) rfl rfl ?_
      exact g_ret1 rfl rfl (by rw [show rdS D id n = ([], 0, 1) by unfold rdS; rw [if_neg (by omega), hfi, Int.toNat_natCast, snapAt_of hs, if_pos (by omega)]]; rfl)
    · simp at h28
      have hs16 := hsz s (List.mem_of_getElem? hs)
      refine g_skip ?_
      refine g_seq ?_
      refine g_drawL [(0, false), (1, false), (2, false), (3, false), (4, false), (5, false), (6, false), (7, false), (8, false), (9, false), (10, false), (11, false), (12, false), (13, false), (14, false), (15, false), (16, false), (17, false), (18, false), (19, false), (20, false)] (by kernel_rfl) (by kernel_rfl) rfl (by kernel_rfl) ?_
      refine d_v rfl (v_move rfl) rfl ?_
      refine d_v rfl (v_nilCheck rfl) rfl ?_
      refine d_v rfl (v_fieldAddr 35 Try.underlying80 rfl rfl Try.sizeOf78 (by decide) rfl) rfl ?_
      refine d_v rfl (v_load (v := sl ss D.snaps.length cs) Try.isAgg78 rfl rfl) rfl ?_
      refine d_v rfl (v_move rfl) rfl ?_
      refine d_v rfl (v_move rfl) rfl ?_
      refine d_v rfl (v_idxS i Try.underlying78 Try.sizeOf93 rfl rfl rfl hil hir) rfl ?_
      refine d_v rfl (v_fieldAdrS (j := i) 3 Try.underlying93 rfl rfl Try.sizeOf77 (by decide) rfl hir) rfl ?_
      refine d_v rfl (v_idxAdr (i := i) (f := 3) n.toNat Try.underlying77 Try.sizeOf9 rfl rfl (by omega) (by omega) hir) rfl ?_
      refine d_v rfl (v_loadS (f := 3 + n.toNat * 1) (v := Str (s.blocks n.toNat)) Try.isAgg9 rfl (rsnapR_at hs) (encR_blk _ _ (by omega))) rfl ?_
      refine d_v rfl (v_move rfl) rfl ?_
      refine d_v rfl (v_nilCheck rfl) rfl ?_
      refine d_v rfl (v_fieldAddr 35 Try.underlying80 rfl rfl Try.sizeOf78 (by decide) rfl) rfl ?_
      refine d_v rfl (v_load (v := sl ss D.snaps.length cs) Try.isAgg78 rfl rfl) rfl ?_
      refine d_v rfl (v_move rfl) rfl ?_
      refine d_v rfl (v_idxS i Try.underlying78 Try.sizeOf93 rfl rfl rfl hil hir) rfl ?_
      refine d_v rfl (v_fieldAdrS (j := i) 2 Try.underlying93 rfl rfl Try.sizeOf3 (by decide) rfl hir) rfl ?_
      refine d_v rfl (v_loadS (v := I s.size) Try.isAgg3 rfl (rsnapR_at hs) rfl) rfl ?_
      refine d_v rfl (v_assign rfl) rfl ?_
      refine d_v rfl (v_assign rfl) rfl ?_
      refine d_v rfl (v_assign rfl) rfl ?_
      refine d_nil ?_
      refine g_shutR (rvC ((D).size) ((D).blocks) ((D).dirty) ((D).time) ((D).next) (sl ss (D).snaps.length cs)) (rsnapR (D).snaps) ss cs b (D) rfl rfl ?_
      exact g_ret1 rfl rfl (by rw [show rdS D id n = (s.blocks n.toNat, s.size, 0) by unfold rdS; rw [if_neg (by omega), hfi, Int.toNat_natCast, snapAt_of hs, if_neg (by omega)]]; rfl)

theorem ct_R_VDisk_SizeOf (b : Nat) (D : VdM) (id : Int) (hsl : D.snaps.length ≤ 1000000) (F : List HProp) : Ct Try.prog 51 [ptr b 0, I id] ([rvd b (D)] ++ F) (R1 (.tuple #[I (szS D id).1, I (szS D id).2]) (rvd b (D) :: F)) := by
  show Ct Try.prog 51 [ptr b 0, I id] (rvd b (D) :: F) _
  refine Ct.of Try.func51 rfl 20 Try.ntmps51 (by simp) fun w0 => ?_
  refine g_seq ?_
  refine g_reg ?_
  refine g_v (v_assign rfl) rfl ?_
  refine g_v (v_assign rfl) rfl ?_
  refine g_nil ?_
  refine g_seq ?_
  refine g_reg ?_
  refine g_v (v_move rfl) rfl ?_
  refine g_v (v_move rfl) rfl ?_
  refine g_l (l_call (Pre := [rvd b (D)]) Try.call143 rfl (ct_R_VDisk_at b D id (by omega))) rfl ?_
  rintro _ _ ⟨rfl, rfl⟩
  refine g_v (v_assign rfl) rfl ?_
  refine g_nil ?_
  refine g_seq ?_
  refine g_seq ?_
  refine g_reg ?_
  refine g_v (v_move rfl) rfl ?_
  refine g_v (v_lss rfl rfl) rfl ?_
  refine g_nil ?_
  refine g_cond rfl (fun h11 => ?_) (fun h11 => ?_)
  · simp at h11
    refine g_seq ?_
    refine g_reg ?_
    refine g_v (v_assign rfl) rfl ?_
    refine g_v (v_assign rfl) rfl ?_
    refine g_nil ?_
    exact g_ret1 rfl rfl (by rw [show szS D id = (0, 5) by unfold szS; rw [if_pos (by omega)]]; rfl)
  · simp at h11
    obtain ⟨i, s, hfi, hs, hid, hil⟩ := findI_pos (show ¬ findI D.snaps id < 0 by omega)
    rw [hfi]
    refine g_openR b (D) ?_
    intro ss cs
    have hir : i < (rsnapR D.snaps).length := by rw [rsnapR_len]; exact hil
    refine g_skip ?_
    refine g_seq ?_
    refine g_reg ?_
    refine g_v (v_move rfl) rfl ?_
    refine g_v (v_nilCheck rfl) rfl ?_
    refine g_v (v_fieldAddr 35 Try.underlying80 rfl rfl Try.sizeOf78 (by decide) rfl) rfl ?_
    refine g_v (v_load (v := sl ss D.snaps.length cs) Try.isAgg78 rfl rfl) rfl ?_
    refine g_v (v_move rfl) rfl ?_
    refine g_v (v_idxS i Try.underlying78 Try.sizeOf93 rfl rfl rfl hil hir) rfl ?_
    refine g_v (v_fieldAdrS (j := i) 2 Try.underlying93 rfl rfl Try.sizeOf3 (by decide) rfl hir) rfl ?_
    refine g_v (v_loadS (v := I s.size) Try.isAgg3 rfl (rsnapR_at hs) rfl) rfl ?_
    refine g_v (v_assign rfl) rfl ?_
    refine g_v (v_assign rfl) rfl ?_
    refine g_nil ?_
    refine g_shutR (rvC ((D).size) ((D).blocks) ((D).dirty) ((D).time) ((D).next) (sl ss (D).snaps.length cs)) (rsnapR (D).snaps) ss cs b (D) rfl rfl ?_
    exact g_ret1 rfl rfl (by rw [show szS D id = (s.size, 0) by unfold szS; rw [if_neg (by omega), hfi, Int.toNat_natCast, snapAt_of hs]]; rfl)

end Go.Proofs.Ythdjckbjjfiopaa
