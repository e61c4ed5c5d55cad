/- The walk through the law TopFold. No condition. -/
import Derived.Test.YthdjckbjjfiopabFoldLaw
namespace Go.Proofs.Ythdjckbjjfiopab
open Go.Sl Go.Proofs
set_option linter.unusedVariables false
set_option linter.unusedSimpArgs false
def actF (x : ActM) : Prop := x.puts.length ≤ 9223372036854775807 ∧ x.changes.length ≤ 9223372036854775807
def stA (B : Nat → Bytes) : Array Value := (s16 B).toArray
theorem stA_set (B : Nat → Bytes) (x : Bytes) : ∀ j, j < 16 → (stA B).setIfInBounds (0 + j * 1) (Str x) = stA (upd B j x)
  := fun j h => match j, h with
    | 0, _ => rfl
    | 1, _ => rfl
    | 2, _ => rfl
    | 3, _ => rfl
    | 4, _ => rfl
    | 5, _ => rfl
    | 6, _ => rfl
    | 7, _ => rfl
    | 8, _ => rfl
    | 9, _ => rfl
    | 10, _ => rfl
    | 11, _ => rfl
    | 12, _ => rfl
    | 13, _ => rfl
    | 14, _ => rfl
    | 15, _ => rfl
    | k + 16, h => absurd h (by omega)
theorem stA_at {T : TypeId} {f : Nat × Nat} (B : Nat → Bytes) : ∀ j, j < 16 → objCell (.cells (stA B) T f) (0 + j * 1) = some (Str (B j))
  := fun j h => match j, h with
    | 0, _ => rfl
    | 1, _ => rfl
    | 2, _ => rfl
    | 3, _ => rfl
    | 4, _ => rfl
    | 5, _ => rfl
    | 6, _ => rfl
    | 7, _ => rfl
    | 8, _ => rfl
    | 9, _ => rfl
    | 10, _ => rfl
    | 11, _ => rfl
    | 12, _ => rfl
    | 13, _ => rfl
    | 14, _ => rfl
    | 15, _ => rfl
    | k + 16, h => absurd h (by omega)
def wasB (D : VdM) (a : Int) (k : Nat) : Nat → Bytes := fun i => if i < k then (rdS D a (i : Int)).1 else []
theorem wasB_step (D : VdM) (a : Int) (k : Nat) : upd (wasB D a k) k (rdS D a (k : Int)).1 = wasB D a (k + 1) := funext fun i => by
  unfold upd wasB
  by_cases h : i = k
  · subst h; rw [if_pos rfl, if_pos (by omega)]
  · rw [if_neg h]
    by_cases h2 : i < k
    · rw [if_pos h2, if_pos (by omega)]
    · rw [if_neg h2, if_neg (by omega)]
theorem chA_len (D : VdM) (x y : Int) : (chA D x y).length ≤ 1000000 := by unfold chA; split; exact ofM_len _; simp

theorem ct_T_TopFold (n a e y : Int) (l : List ActM) (f : Nat → ActZ) (s : Option Addr) (cap : Nat) (hl : l.length ≤ 9223372036854775807) (hla : ∀ x ∈ l, actF x) (F : List HProp) : Ct Try.prog 8 [I n, sl s l.length cap, I a, I e, I y] ([acts s l f] ++ F) (R1 (Bo true) (acts s l f :: F)) := by
  show Ct Try.prog 8 [I n, sl s l.length cap, I a, I e, I y] (acts s l f :: F) _
  refine Ct.of Try.func8 rfl 102 Try.ntmps8 (by simp) fun w0 => ?_
  refine g_seq ?_
  refine g_reg ?_
  refine g_v (v_assign rfl) rfl ?_
  refine g_nil ?_
  refine g_seq ?_
  refine g_reg ?_
  refine g_l (l_call (Pre := []) Try.call29 rfl (ct_T_tracked)) rfl ?_
  rintro _ _ ⟨rfl, rfl⟩
  refine g_v (v_assign rfl) rfl ?_
  refine g_nil ?_
  refine g_seq ?_
  refine g_seq ?_
  refine g_reg ?_
  refine g_v (v_move rfl) rfl ?_
  refine g_v (v_not rfl) rfl ?_
  refine g_nil ?_
  refine g_cond rfl (fun h25 => ?_) (fun h25 => ?_)
  · simp at h25
  · skip
    refine g_skip ?_
    refine g_seq ?_
    refine g_reg ?_
    refine g_v (v_move rfl) rfl ?_
    refine g_v (v_move rfl) rfl ?_
    refine g_l (l_call (Pre := [acts s l f]) (R := fun F => RChd n l (acts s l f :: F)) Try.call30 rfl (ct_T_changed n l f s cap hl hla)) rfl ?_
    rintro _ _ (⟨rfl, rfl⟩ | ⟨hns, hll, b29, rfl, rfl⟩)
    · skip
      refine g_v (v_move rfl) rfl ?_
      refine g_v (v_extract (v := .pointer none) rfl rfl) rfl ?_
      refine g_v (v_extract (v := Bo false) rfl rfl) rfl ?_
      refine g_v (v_assign rfl) rfl ?_
      refine g_v (v_assign rfl) rfl ?_
      refine g_nil ?_
      refine g_seq ?_
      refine g_seq ?_
      refine g_reg ?_
      refine g_v (v_move rfl) rfl ?_
      refine g_v (v_not rfl) rfl ?_
      refine g_v (v_move rfl) rfl ?_
      refine g_no rfl rfl rfl rfl ?_
      refine g_no rfl rfl rfl rfl ?_
      refine g_no rfl rfl rfl rfl ?_
      refine g_v (v_pk1 rfl rfl rfl) rfl ?_
      refine g_v (v_move rfl) rfl ?_
      refine g_no rfl rfl rfl rfl ?_
      refine g_no rfl rfl rfl rfl ?_
      refine g_no rfl rfl rfl rfl ?_
      refine g_v (v_pk1 rfl rfl rfl) rfl ?_
      refine g_nil ?_
      refine g_cond rfl (fun h43 => ?_) (fun h43 => ?_)
      · skip
        refine g_seq ?_
        refine g_reg ?_
        refine g_v (v_assign rfl) rfl ?_
        refine g_nil ?_
        refine g_ret1 rfl rfl ?_
        exact rfl
      · simp at h43
    · skip
      refine g_v (v_move rfl) rfl ?_
      refine g_v (v_extract (v := ptr b29 0) rfl rfl) rfl ?_
      refine g_v (v_extract (v := Bo true) rfl rfl) rfl ?_
      refine g_v (v_assign rfl) rfl ?_
      refine g_v (v_assign rfl) rfl ?_
      refine g_nil ?_
      refine g_seq ?_
      refine g_seq ?_
      refine g_reg ?_
      refine g_v (v_move rfl) rfl ?_
      refine g_v (v_not rfl) rfl ?_
      refine g_v (v_move rfl) rfl ?_
      refine g_gv1 rfl rfl rfl (v_move rfl) rfl ?_
      refine g_gv1 rfl rfl rfl (v_move rfl) rfl ?_
      refine g_gv1 rfl rfl rfl (v_eql rfl rfl) rfl ?_
      refine g_v (v_or rfl rfl) rfl ?_
      refine g_v (v_move rfl) rfl ?_
      refine g_gv rfl rfl (fun hg => v_move rfl) rfl rfl ?_
      refine g_gv rfl rfl (fun hg => v_move rfl) rfl rfl ?_
      refine g_gv rfl rfl (fun hg => v_eql rfl rfl) rfl rfl ?_
      refine g_v (v_or rfl rfl) rfl ?_
      refine g_nil ?_
      refine g_cond rfl (fun h43 => ?_) (fun h43 => ?_)
      · skip
        refine g_seq ?_
        refine g_reg ?_
        refine g_v (v_assign rfl) rfl ?_
        refine g_nil ?_
        refine g_ret1 rfl rfl ?_
        exact rfl
      · simp at h43
        have hok := run_ok n hns l
        refine g_skip ?_
        refine g_seq ?_
        refine g_reg ?_
        refine g_v (v_move rfl) rfl ?_
        refine g_v (v_move rfl) rfl ?_
        refine g_v (v_move rfl) rfl ?_
        refine g_l (l_call (Pre := [vdk b29 ((runD (vdNew n) l))]) Try.call35 rfl (ct_vdisk_Changed b29 (runD (vdNew n) l) a e (by have := hok.1.2.2.2.1; omega))) rfl ?_
        rintro _ _ ⟨s48, c48, rfl, rfl⟩
        refine g_freeze s48 ?_
        refine g_v (v_move rfl) rfl ?_
        refine g_v (v_extract (v := sl s48 (chA (runD (vdNew n) l) a e).length c48) rfl rfl) rfl ?_
        refine g_v (v_extract (v := errV (chE (runD (vdNew n) l) a e)) rfl rfl) rfl ?_
        refine g_v (v_assign rfl) rfl ?_
        refine g_v (v_assign rfl) rfl ?_
        refine g_nil ?_
        refine g_seq ?_
        refine g_reg ?_
        refine g_l (l_alloc (Array.replicate 16 (Str [])) Try.zeroValue75) rfl ?_
        rintro _ _ ⟨b15, rfl, rfl⟩
        rw [show Array.replicate 16 (Str []) = stA (wasB (runD (vdNew n) l) a 0) from rfl]
        refine g_nil ?_
        refine g_seq ?_
        refine g_seq ?_
        refine g_reg ?_
        refine g_v (v_assign rfl) rfl ?_
        refine g_nil ?_
        refine g_block ?_
        refine g_loop (α := Nat) (fun k => k ≤ 16) (fun k => U [(2, I a), (3, I e), (4, I y), (12, ptr b29 0), (13, sl s48 (chA (runD (vdNew n) l) a e).length c48), (14, errV (chE (runD (vdNew n) l) a e)), (15, ptr b15 0), (16, I k)]) (fun k => pt b15 (.cells (stA (wasB (runD (vdNew n) l) a k)) 75 (0, 0)) :: roL 2 s48 (rowsA (chA (runD (vdNew n) l) a e)) :: vdk b29 ((runD (vdNew n) l)) :: acts s l f :: F) (fun k => 16 - k) 0 (by simp) [2, 3, 4, 12, 13, 14, 15, 16] rfl rfl ?_
        intro k hk16
        refine g_seq ?_
        refine g_seq ?_
        refine g_reg ?_
        refine g_v (v_move rfl) rfl ?_
        refine g_v (v_lss rfl rfl) rfl ?_
        refine g_nil ?_
        refine g_cond rfl (fun h52 => ?_) (fun h52 => ?_)
        · simp at h52
          have hk : k < 16 := by omega
          refine g_skip ?_
          refine g_seq ?_
          refine g_block ?_
          refine g_reg ?_
          refine g_v (v_move rfl) rfl ?_
          refine g_v (v_move rfl) rfl ?_
          refine g_v (v_move rfl) rfl ?_
          refine g_v (v_move rfl) rfl ?_
          refine g_l (l_call (Pre := [vdk b29 ((runD (vdNew n) l))]) Try.call41 rfl (ct_vdisk_Read b29 (runD (vdNew n) l) a (k : Int) (by have := hok.1.2.2.2.1; omega) (fun s hs => (hok.1.2.2.2.2 s hs).2))) rfl ?_
          rintro _ _ ⟨rfl, rfl⟩
          refine g_v (v_move rfl) rfl ?_
          refine g_v (v_extract (v := Str (rdS (runD (vdNew n) l) a (k : Int)).1) rfl rfl) rfl ?_
          refine g_v (v_extract (v := I (rdS (runD (vdNew n) l) a (k : Int)).2.1) rfl rfl) rfl ?_
          refine g_v (v_extract (v := errV (rdS (runD (vdNew n) l) a (k : Int)).2.2) rfl rfl) rfl ?_
          refine g_v (v_idxA k Try.underlying75 Try.sizeOf9 rfl rfl rfl hk) rfl ?_
          refine g_l0 (l_store (stA (wasB (runD (vdNew n) l) a (k + 1))) Try.sizeOf9 rfl rfl rfl (by show 0 + k * 1 < 16; omega) (by rw [stA_set _ _ _ hk, wasB_step])) ?_
          rintro _ _ rfl
          refine g_nil ?_
          refine g_blk ?_
          refine g_reg ?_
          refine g_v (v_move rfl) rfl ?_
          refine g_v (v_add rfl rfl (w64 (by omega))) rfl ?_
          refine g_v (v_assign rfl) rfl ?_
          refine g_nil ?_
          exact g_again (k + 1) (by omega) (by omega) [2, 3, 4, 12, 13, 14, 15, 16] rfl rfl
        · simp at h52
          obtain rfl : k = 16 := by omega
          refine g_exit rfl ?_
          refine g_seq ?_
          refine g_reg ?_
          refine g_v (v_move rfl) rfl ?_
          refine g_v (v_move rfl) rfl ?_
          refine g_l (l_call (Pre := [vdk b29 ((runD (vdNew n) l))]) Try.call42 rfl (ct_vdisk_Drop b29 (runD (vdNew n) l) y (by have := hok.1.2.2.2.1; omega))) rfl ?_
          rintro _ _ ⟨rfl, rfl⟩
          have hok' := vok_dr hok.1 y
          refine g_nil ?_
          refine g_seq ?_
          refine g_reg ?_
          refine g_v (v_move rfl) rfl ?_
          refine g_v (v_move rfl) rfl ?_
          refine g_v (v_move rfl) rfl ?_
          refine g_l (l_call (Pre := [vdk b29 ((drD (runD (vdNew n) l) y))]) Try.call35 rfl (ct_vdisk_Changed b29 (drD (runD (vdNew n) l) y) a e (by have := hok'.2.2.2.1; omega))) rfl ?_
          rintro _ _ ⟨s72, c72, rfl, rfl⟩
          rw [(fold_ch hok.2 y a e h43.1 h43.2).1, (fold_ch hok.2 y a e h43.1 h43.2).2]
          refine g_freeze s72 ?_
          refine g_v (v_move rfl) rfl ?_
          refine g_v (v_extract (v := sl s72 (chA (runD (vdNew n) l) a e).length c72) rfl rfl) rfl ?_
          refine g_v (v_extract (v := errV (chE (runD (vdNew n) l) a e)) rfl rfl) rfl ?_
          refine g_v (v_assign rfl) rfl ?_
          refine g_v (v_assign rfl) rfl ?_
          refine g_nil ?_
          refine g_seq ?_
          refine g_seq ?_
          refine g_reg ?_
          refine g_v (v_assign rfl) rfl ?_
          refine g_nil ?_
          refine g_block ?_
          refine g_loop (α := Nat) (fun k => k ≤ 16) (fun k => U [(2, I a), (12, ptr b29 0), (13, sl s48 (chA (runD (vdNew n) l) a e).length c48), (14, errV (chE (runD (vdNew n) l) a e)), (15, ptr b15 0), (17, sl s72 (chA (runD (vdNew n) l) a e).length c72), (18, errV (chE (runD (vdNew n) l) a e)), (19, I k)]) (fun k => pt b15 (.cells (stA (wasB (runD (vdNew n) l) a 16)) 75 (0, 0)) :: roL 2 s48 (rowsA (chA (runD (vdNew n) l) a e)) :: roL 2 s72 (rowsA (chA (runD (vdNew n) l) a e)) :: vdk b29 ((drD (runD (vdNew n) l) y)) :: acts s l f :: F) (fun k => 16 - k) 0 (by simp) [2, 12, 13, 14, 15, 17, 18, 19] rfl rfl ?_
          intro k hk16
          refine g_seq ?_
          refine g_seq ?_
          refine g_reg ?_
          refine g_v (v_move rfl) rfl ?_
          refine g_v (v_lss rfl rfl) rfl ?_
          refine g_nil ?_
          refine g_cond rfl (fun h76 => ?_) (fun h76 => ?_)
          · simp at h76
            have hk : k < 16 := by omega
            refine g_skip ?_
            refine g_seq ?_
            refine g_block ?_
            refine g_seq ?_
            refine g_reg ?_
            refine g_v (v_move rfl) rfl ?_
            refine g_v (v_move rfl) rfl ?_
            refine g_v (v_move rfl) rfl ?_
            refine g_l (l_call (Pre := [vdk b29 ((drD (runD (vdNew n) l) y))]) Try.call41 rfl (ct_vdisk_Read b29 (drD (runD (vdNew n) l) y) a (k : Int) (by have := hok'.2.2.2.1; omega) (fun s hs => (hok'.2.2.2.2 s hs).2))) rfl ?_
            rintro _ _ ⟨rfl, rfl⟩
            rw [fold_read hok.2 y a _ h43.1]
            refine g_v (v_move rfl) rfl ?_
            refine g_v (v_extract (v := Str (rdS (runD (vdNew n) l) a (k : Int)).1) rfl rfl) rfl ?_
            refine g_v (v_extract (v := I (rdS (runD (vdNew n) l) a (k : Int)).2.1) rfl rfl) rfl ?_
            refine g_v (v_extract (v := errV (rdS (runD (vdNew n) l) a (k : Int)).2.2) rfl rfl) rfl ?_
            refine g_v (v_assign rfl) rfl ?_
            refine g_v (v_assign rfl) rfl ?_
            refine g_v (v_assign rfl) rfl ?_
            refine g_nil ?_
            refine g_seq ?_
            refine g_reg ?_
            refine g_v (v_move rfl) rfl ?_
            refine g_v (v_move rfl) rfl ?_
            refine g_v (v_idxA k Try.underlying75 Try.sizeOf9 rfl rfl rfl hk) rfl ?_
            refine g_v (v_load (v := Str (wasB (runD (vdNew n) l) a 16 k)) Try.isAgg9 rfl (stA_at _ _ hk)) rfl ?_
            refine g_v (v_sneq rfl rfl) rfl ?_
            refine g_nil ?_
            refine g_cond rfl (fun h91 => ?_) (fun h91 => ?_)
            · exfalso
              rw [show wasB (runD (vdNew n) l) a 16 k = (rdS (runD (vdNew n) l) a (k : Int)).1 by unfold wasB; rw [if_pos hk]] at h91
              simp at h91
            · skip
              refine g_skip ?_
              refine g_blk ?_
              refine g_reg ?_
              refine g_v (v_move rfl) rfl ?_
              refine g_v (v_add rfl rfl (w64 (by omega))) rfl ?_
              refine g_v (v_assign rfl) rfl ?_
              refine g_nil ?_
              exact g_again (k + 1) (by omega) (by omega) [2, 12, 13, 14, 15, 17, 18, 19] rfl rfl
          · skip
            refine g_exit rfl ?_
            refine g_seq ?_
            refine g_reg ?_
            refine g_v (v_move rfl) rfl ?_
            refine g_l (l_call (Pre := []) Try.call36 rfl (ct_T_number (chE (runD (vdNew n) l) a e))) rfl ?_
            rintro _ _ ⟨rfl, rfl⟩
            refine g_v (v_move rfl) rfl ?_
            refine g_l (l_call (Pre := []) Try.call36 rfl (ct_T_number (chE (runD (vdNew n) l) a e))) rfl ?_
            rintro _ _ ⟨rfl, rfl⟩
            refine g_v (v_eql rfl rfl) rfl ?_
            refine g_v (v_move rfl) rfl ?_
            refine g_gv1 rfl rfl (by simp) (v_move rfl) rfl ?_
            refine g_gv1 rfl rfl (by simp) (v_move rfl) rfl ?_
            refine g_gl rfl rfl (by simp) (l_call (Pre := [roL 2 s48 (rowsA (chA (runD (vdNew n) l) a e)), roL 2 s72 (rowsA (chA (runD (vdNew n) l) a e))]) (R := fun F => R1 (Bo (decide ((chA (runD (vdNew n) l) a e) = (chA (runD (vdNew n) l) a e)))) (roL 2 s48 (rowsA (chA (runD (vdNew n) l) a e)) :: roL 2 s72 (rowsA (chA (runD (vdNew n) l) a e)) :: F)) Try.call16 rfl (ct_R_SameAreas (chA (runD (vdNew n) l) a e) (chA (runD (vdNew n) l) a e) s48 s72 c48 c72 (chA_len _ _ _) (chA_len _ _ _))) rfl ?_
            rintro _ _ ⟨rfl, rfl⟩
            refine g_v (v_and rfl rfl) rfl ?_
            refine g_v (v_assign rfl) rfl ?_
            refine g_nil ?_
            refine g_ret1 rfl rfl ?_
            show Bo _ = Bo true
            simp

end Go.Proofs.Ythdjckbjjfiopab
