/- The walk through the law TopCover. No condition. -/
import Derived.Test.YthdjckbjjfiopabCoverLaw
namespace Go.Proofs.Ythdjckbjjfiopab
open Go.Sl Go.Proofs
set_option linter.unusedVariables false
set_option linter.unusedSimpArgs false
def actC (x : ActM) : Prop := x.puts.length ≤ 9223372036854775807 ∧ x.changes.length ≤ 9223372036854775807

theorem ct_T_TopCover (n a e : Int) (l : List ActM) (f : Nat → ActZ) (s : Option Addr) (cap : Nat) (hl : l.length ≤ 9223372036854775807) (hla : ∀ x ∈ l, actC x) (F : List HProp) : Ct Try.prog 9 [I n, sl s l.length cap, I a, I e] ([acts s l f] ++ F) (R1 (Bo true) (acts s l f :: F)) := by
  show Ct Try.prog 9 [I n, sl s l.length cap, I a, I e] (acts s l f :: F) _
  refine Ct.of Try.func9 rfl 75 Try.ntmps9 (by simp) fun w0 => ?_
  refine g_seq ?_
  refine g_reg ?_
  refine g_v (v_assign rfl) rfl ?_
  refine g_nil ?_
  refine g_seq ?_
  refine g_reg ?_
  refine g_l (l_call (Pre := []) Try.call29 rfl (ct_T_tracked)) rfl ?_
  rintro _ _ ⟨rfl, rfl⟩
  refine g_v (v_assign rfl) rfl ?_
  refine g_nil ?_
  refine g_seq ?_
  refine g_seq ?_
  refine g_reg ?_
  refine g_v (v_move rfl) rfl ?_
  refine g_v (v_not rfl) rfl ?_
  refine g_nil ?_
  refine g_cond rfl (fun h18 => ?_) (fun h18 => ?_)
  · simp at h18
  · skip
    refine g_skip ?_
    refine g_seq ?_
    refine g_reg ?_
    refine g_v (v_move rfl) rfl ?_
    refine g_v (v_move rfl) rfl ?_
    refine g_l (l_call (Pre := [acts s l f]) (R := fun F => RChd n l (acts s l f :: F)) Try.call30 rfl (ct_T_changed n l f s cap hl hla)) rfl ?_
    rintro _ _ (⟨rfl, rfl⟩ | ⟨hns, hll, b22, rfl, rfl⟩)
    · skip
      refine g_v (v_move rfl) rfl ?_
      refine g_v (v_extract (v := .pointer none) rfl rfl) rfl ?_
      refine g_v (v_extract (v := Bo false) rfl rfl) rfl ?_
      refine g_v (v_assign rfl) rfl ?_
      refine g_v (v_assign rfl) rfl ?_
      refine g_nil ?_
      refine g_seq ?_
      refine g_seq ?_
      refine g_reg ?_
      refine g_v (v_move rfl) rfl ?_
      refine g_v (v_not rfl) rfl ?_
      refine g_nil ?_
      refine g_cond rfl (fun h26 => ?_) (fun h26 => ?_)
      · skip
        refine g_seq ?_
        refine g_reg ?_
        refine g_v (v_assign rfl) rfl ?_
        refine g_nil ?_
        refine g_ret1 rfl rfl ?_
        exact rfl
      · simp at h26
    · skip
      refine g_v (v_move rfl) rfl ?_
      refine g_v (v_extract (v := ptr b22 0) rfl rfl) rfl ?_
      refine g_v (v_extract (v := Bo true) rfl rfl) rfl ?_
      refine g_v (v_assign rfl) rfl ?_
      refine g_v (v_assign rfl) rfl ?_
      refine g_nil ?_
      refine g_seq ?_
      refine g_seq ?_
      refine g_reg ?_
      refine g_v (v_move rfl) rfl ?_
      refine g_v (v_not rfl) rfl ?_
      refine g_nil ?_
      refine g_cond rfl (fun h26 => ?_) (fun h26 => ?_)
      · simp at h26
      · have hok := run_ok n hns l
        refine g_skip ?_
        refine g_seq ?_
        refine g_reg ?_
        refine g_v (v_move rfl) rfl ?_
        refine g_v (v_move rfl) rfl ?_
        refine g_v (v_move rfl) rfl ?_
        refine g_l (l_call (Pre := [vdk b22 ((runD (vdNew n) l))]) Try.call35 rfl (ct_vdisk_Changed b22 (runD (vdNew n) l) a e (by have := hok.1.2.2.2.1; omega))) rfl ?_
        rintro _ _ ⟨s31, c31, rfl, rfl⟩
        refine g_freeze s31 ?_
        refine g_v (v_move rfl) rfl ?_
        refine g_v (v_extract (v := sl s31 (chA (runD (vdNew n) l) a e).length c31) rfl rfl) rfl ?_
        refine g_v (v_extract (v := errV (chE (runD (vdNew n) l) a e)) rfl rfl) rfl ?_
        refine g_v (v_assign rfl) rfl ?_
        refine g_v (v_assign rfl) rfl ?_
        refine g_nil ?_
        refine g_seq ?_
        refine g_reg ?_
        refine g_v (v_move rfl) rfl ?_
        refine g_v (v_move rfl) rfl ?_
        refine g_v (v_move rfl) rfl ?_
        refine g_l (l_call (Pre := [vdk b22 ((runD (vdNew n) l))]) Try.call35 rfl (ct_vdisk_Changed b22 (runD (vdNew n) l) e a (by have := hok.1.2.2.2.1; omega))) rfl ?_
        rintro _ _ ⟨s38, c38, rfl, rfl⟩
        rw [chE_comm _ e a, chA_comm _ e a]
        refine g_freeze s38 ?_
        refine g_v (v_move rfl) rfl ?_
        refine g_v (v_extract (v := sl s38 (chA (runD (vdNew n) l) a e).length c38) rfl rfl) rfl ?_
        refine g_v (v_extract (v := errV (chE (runD (vdNew n) l) a e)) rfl rfl) rfl ?_
        refine g_v (v_assign rfl) rfl ?_
        refine g_v (v_assign rfl) rfl ?_
        refine g_nil ?_
        refine g_seq ?_
        refine g_seq ?_
        refine g_reg ?_
        refine g_v (v_move rfl) rfl ?_
        refine g_l (l_call (Pre := []) Try.call36 rfl (ct_T_number (chE (runD (vdNew n) l) a e))) rfl ?_
        rintro _ _ ⟨rfl, rfl⟩
        refine g_v (v_move rfl) rfl ?_
        refine g_l (l_call (Pre := []) Try.call36 rfl (ct_T_number (chE (runD (vdNew n) l) a e))) rfl ?_
        rintro _ _ ⟨rfl, rfl⟩
        refine g_v (v_neq rfl rfl) rfl ?_
        refine g_v (v_move rfl) rfl ?_
        refine g_gv1 rfl rfl (by simp) (v_move rfl) rfl ?_
        refine g_gv1 rfl rfl (by simp) (v_move rfl) rfl ?_
        refine g_gl rfl rfl (by simp) (l_call (Pre := [roL 2 s31 (rowsA (chA (runD (vdNew n) l) a e)), roL 2 s38 (rowsA (chA (runD (vdNew n) l) a e))]) (R := fun F => R1 (Bo (decide ((chA (runD (vdNew n) l) a e) = (chA (runD (vdNew n) l) a e)))) (roL 2 s31 (rowsA (chA (runD (vdNew n) l) a e)) :: roL 2 s38 (rowsA (chA (runD (vdNew n) l) a e)) :: F)) Try.call16 rfl (ct_R_SameAreas (chA (runD (vdNew n) l) a e) (chA (runD (vdNew n) l) a e) s31 s38 c31 c38 (chA_len' _ _ _) (chA_len' _ _ _))) rfl ?_
        rintro _ _ ⟨rfl, rfl⟩
        refine g_gv1 rfl rfl (by simp) (v_not rfl) rfl ?_
        refine g_v (v_or rfl rfl) rfl ?_
        refine g_nil ?_
        refine g_cond rfl (fun h51 => ?_) (fun h51 => ?_)
        · simp at h51
        · skip
          refine g_skip ?_
          refine g_seq ?_
          refine g_seq ?_
          refine g_reg ?_
          refine g_v (v_move rfl) rfl ?_
          refine g_v (v_ineq Try.underlying29 rfl) rfl ?_
          refine g_nil ?_
          refine g_cond rfl (fun h53 => ?_) (fun h53 => ?_)
          · simp at h53
            refine g_seq ?_
            refine g_reg ?_
            refine g_v (v_move rfl) rfl ?_
            refine g_v (v_len Try.underlying22 rfl) rfl ?_
            refine g_v (v_eql rfl rfl) rfl ?_
            refine g_v (v_assign rfl) rfl ?_
            refine g_nil ?_
            refine g_ret1 rfl rfl ?_
            show Bo (decide (((chA (runD (vdNew n) l) a e).length : Int) = 0)) = Bo true
            rw [chA_nil h53]; rfl
          · simp at h53
            refine g_skip ?_
            refine g_seq ?_
            refine g_seq ?_
            refine g_reg ?_
            refine g_v (v_assign rfl) rfl ?_
            refine g_nil ?_
            refine g_block ?_
            refine g_loop (α := Nat) (fun k => k ≤ 16) (fun k => U [(2, I a), (3, I e), (10, ptr b22 0), (11, sl s31 (chA (runD (vdNew n) l) a e).length c31), (15, I k)]) (fun k => roL 2 s31 (rowsA (chA (runD (vdNew n) l) a e)) :: vdk b22 ((runD (vdNew n) l)) :: acts s l f :: F) (fun k => 16 - k) 0 (by simp) [2, 3, 10, 11, 15] rfl rfl ?_
            intro k hk16
            refine g_seq ?_
            refine g_seq ?_
            refine g_reg ?_
            refine g_v (v_move rfl) rfl ?_
            refine g_v (v_lss rfl rfl) rfl ?_
            refine g_nil ?_
            refine g_cond rfl (fun h58 => ?_) (fun h58 => ?_)
            · simp at h58
              have hk : k < 16 := by omega
              refine g_skip ?_
              refine g_seq ?_
              refine g_block ?_
              refine g_seq ?_
              refine g_reg ?_
              refine g_v (v_move rfl) rfl ?_
              refine g_v (v_move rfl) rfl ?_
              refine g_v (v_move rfl) rfl ?_
              refine g_v (v_move rfl) rfl ?_
              refine g_l (l_call (Pre := [vdk b22 ((runD (vdNew n) l))]) Try.call43 rfl (ct_T_unlike b22 (runD (vdNew n) l) a e (k : Int) (by have := hok.1.2.2.2.1; omega) (fun s hs => (hok.1.2.2.2.2 s hs).2))) rfl ?_
              rintro _ _ ⟨rfl, rfl⟩
              refine g_v (v_move rfl) rfl ?_
              refine g_gv rfl rfl (fun hg => v_move rfl) rfl rfl ?_
              refine g_gv rfl rfl (fun hg => v_move rfl) rfl rfl ?_
              refine g_gq rfl rfl (fun hg => l_call (Pre := [roL 2 s31 (rowsA (chA (runD (vdNew n) l) a e))]) (R := fun F => R1 (Bo (hasA (chA (runD (vdNew n) l) a e) (k : Int))) (roL 2 s31 (rowsA (chA (runD (vdNew n) l) a e)) :: F)) Try.call40 rfl (ct_area_Has (chA (runD (vdNew n) l) a e) s31 c31 (k : Int) (by simp [ok64]; omega) (chA_len' _ _ _) (chA_ok _ _ _).1)) rfl rfl ?_
              refine g_gv rfl rfl (fun hg => v_not rfl) rfl rfl ?_
              refine g_v (v_and rfl rfl) rfl ?_
              refine g_nil ?_
              refine g_cond rfl (fun h71 => ?_) (fun h71 => ?_)
              · exfalso
                simp at h71
                rw [cover hok.2 h53 hk h71.1] at h71
                exact absurd h71.2 (by decide)
              · skip
                refine g_skip ?_
                refine g_blk ?_
                refine g_reg ?_
                refine g_v (v_move rfl) rfl ?_
                refine g_v (v_add rfl rfl (w64 (by omega))) rfl ?_
                refine g_v (v_assign rfl) rfl ?_
                refine g_nil ?_
                exact g_again (k + 1) (by omega) (by omega) [2, 3, 10, 11, 15] rfl rfl
            · skip
              refine g_exit rfl ?_
              refine g_seq ?_
              refine g_reg ?_
              refine g_v (v_move rfl) rfl ?_
              refine g_l (l_call (Pre := [roL 2 s31 (rowsA (chA (runD (vdNew n) l) a e))]) (R := fun F => R1 (errV (chkA (-1) (chA (runD (vdNew n) l) a e))) (roL 2 s31 (rowsA (chA (runD (vdNew n) l) a e)) :: F)) Try.call14 rfl (ct_area_Check (chA (runD (vdNew n) l) a e) s31 c31 (chA_len' _ _ _) (chA_ok _ _ _).2.2)) rfl ?_
              rintro _ _ ⟨rfl, rfl⟩
              refine g_v (v_ieql Try.underlying29 rfl) rfl ?_
              refine g_v (v_assign rfl) rfl ?_
              refine g_nil ?_
              refine g_ret1 rfl rfl ?_
              show Bo (decide (chkA (-1) (chA (runD (vdNew n) l) a e) = 0)) = Bo true
              rw [(chA_ok _ _ _).2.1]; rfl

end Go.Proofs.Ythdjckbjjfiopab
