/- The walk through the law TopPages: it returns true and leaves what was there as it was. No condition. -/
import Derived.Test.YthdjckbjjfiopabPageLaw
namespace Go.Proofs.Ythdjckbjjfiopab
open Go.Sl Go.Proofs
set_option linter.unusedVariables false
set_option linter.unusedSimpArgs false

theorem ct_T_TopPages (l : List Area) (s : Option Addr) (cap : Nat) (many : Int) (hol : okA l) (F : List HProp) : Ct Try.prog 3 [sl s l.length cap, I many] ([roL 2 s (rowsA l)] ++ F) (R1 (Bo true) (roL 2 s (rowsA l) :: F)) := by
  show Ct Try.prog 3 [sl s l.length cap, I many] (roL 2 s (rowsA l) :: F) _
  refine Ct.of Try.func3 rfl 102 Try.ntmps3 (by simp) fun w0 => ?_
  refine g_seq ?_
  refine g_reg ?_
  refine g_v (v_assign rfl) rfl ?_
  refine g_nil ?_
  refine g_seq ?_
  refine g_reg ?_
  refine g_v (v_build rfl (bld26_0_1 _ rfl _ rfl)) rfl ?_
  refine g_l (l_buildSlice (rowsA [⟨2, 3⟩]) Try.underlying22 Try.sizeOf26 Try.zeroValue26 rfl rfl rfl (by simp [rowsA, encA]) (by decide) (by decide)) rfl ?_
  rintro _ _ ⟨b16, rfl, rfl⟩
  refine g_freeze (some ⟨b16, 0, none⟩) ?_
  refine g_l (l_call (Pre := [roL 2 (some ⟨b16, 0, none⟩) (rowsA [⟨2, 3⟩])]) Try.call12 rfl (ct_area_Page [⟨2, 3⟩] (some ⟨b16, 0, none⟩) 1 0 2 (by decide) (by simp [okV]))) rfl ?_
  rintro _ _ ⟨s17, c17, rfl, rfl⟩
  rw [show (pageM (mk [⟨2, 3⟩]) 0 2).2 = 4 by decide, show ofM (pageM (mk [⟨2, 3⟩]) 0 2).1 = [⟨2, 2⟩] by decide]
  refine g_freeze s17 ?_
  refine g_v (v_move rfl) rfl ?_
  refine g_v (v_extract rfl rfl) rfl ?_
  refine g_v (v_extract rfl rfl) rfl ?_
  refine g_v (v_assign rfl) rfl ?_
  refine g_v (v_assign rfl) rfl ?_
  refine g_nil ?_
  refine g_seq ?_
  refine g_seq ?_
  refine g_reg ?_
  refine g_v (v_move rfl) rfl ?_
  refine g_v (v_neq rfl rfl) rfl ?_
  refine g_v (v_move rfl) rfl ?_
  refine g_gv1 rfl rfl rfl (v_move rfl) rfl ?_
  refine g_gl rfl rfl rfl (l_call (Pre := [roL 2 s17 (rowsA [⟨2, 2⟩])]) Try.call13 rfl (ct_area_Count [⟨2, 2⟩] s17 c17 (by decide) (by simp [okV]))) rfl ?_
  rintro _ _ ⟨rfl, rfl⟩
  refine g_gv1 rfl rfl rfl (v_neq rfl rfl) rfl ?_
  refine g_v (v_or rfl rfl) rfl ?_
  refine g_nil ?_
  refine g_cond rfl (fun h26 => ?_) (fun h26 => ?_)
  · simp [cntA] at h26
  · skip
    refine g_skip ?_
    refine g_seq ?_
    refine g_seq ?_
    refine g_reg ?_
    refine g_v (v_move rfl) rfl ?_
    refine g_v (v_len Try.underlying22 rfl) rfl ?_
    refine g_v (v_gtr rfl rfl) rfl ?_
    refine g_v (v_move rfl) rfl ?_
    refine g_gv rfl rfl (fun hg => v_move rfl) rfl rfl ?_
    refine g_gq rfl rfl (fun hg => l_call (Pre := [roL 2 s (rowsA l)]) (R := fun F => R1 (errV (chkA (-1) l)) (roL 2 s (rowsA l) :: F)) Try.call14 rfl (ct_area_Check l s cap (by simp at hg; omega) hol)) rfl rfl ?_
    refine g_gv rfl rfl (fun hg => v_ineq Try.underlying29 rfl) rfl rfl ?_
    refine g_v (v_or rfl rfl) rfl ?_
    refine g_nil ?_
    refine g_cond rfl (fun h34 => ?_) (fun h34 => ?_)
    · skip
      refine g_seq ?_
      refine g_reg ?_
      refine g_v (v_assign rfl) rfl ?_
      refine g_nil ?_
      refine g_ret1 rfl rfl ?_
      exact rfl
    · simp at h34
      have hla : l.length ≤ 1000000 := by omega
      have hna := chkA_nn l (-1)
      have hca : chkA (-1) l = 0 := by omega
      obtain ⟨hva, _⟩ := chk_ok hca
      refine g_skip ?_
      refine g_seq ?_
      refine g_reg ?_
      refine g_v (v_move rfl) rfl ?_
      refine g_v (v_mask 3 rfl (by decide) (by decide)) rfl ?_
      refine g_v (v_add rfl rfl (w64 (by omega))) rfl ?_
      refine g_v (v_assign rfl) rfl ?_
      refine g_nil ?_
      obtain ⟨k, hk⟩ : ∃ k, k = 1 + many % 2 ^ 3 := ⟨_, rfl⟩
      have hk1 : 1 ≤ k ∧ k ≤ 8 := by omega
      rw [← hk]
      refine g_seq ?_
      refine g_reg ?_
      refine g_v (v_assign rfl) rfl ?_
      refine g_nil ?_
      refine g_seq ?_
      refine g_reg ?_
      refine g_v (v_assign rfl) rfl ?_
      refine g_nil ?_
      refine g_seq ?_
      refine g_reg ?_
      refine g_v (v_assign rfl) rfl ?_
      refine g_nil ?_
      refine g_seq ?_
      refine g_seq ?_
      refine g_reg ?_
      refine g_v (v_assign rfl) rfl ?_
      refine g_nil ?_
      have e0 : ofM (beM (mk l) 0) = [] := by rw [ofM_congr (n := fun _ => false) (fun p _ => by simp [beM, fe])]; decide
      have c0 : cM (beM (mk l) 0) 16 = 0 := cM_none fun p _ => by simp [beM, fe]
      refine g_nilro 2 (rowsA (ofM (beM (mk l) 0))) (by rw [e0]; rfl) ?_
      refine g_block ?_
      refine g_loop (α := Nat × Int × Option Addr × Nat) (fun z => z.1 ≤ 20 ∧ (z.2.1 < 0 ∨ (z.1 : Int) ≤ z.2.1) ∧ -1 ≤ z.2.1 ∧ z.2.1 ≤ 15) (fun z => U [(0, sl s l.length cap), (7, I k), (8, sl z.2.2.1 (ofM (beM (mk l) z.2.1)).length z.2.2.2), (9, I z.2.1), (10, I (cM (beM (mk l) z.2.1) 16)), (11, I z.1)]) (fun z => roL 2 z.2.2.1 (rowsA (ofM (beM (mk l) z.2.1))) :: roL 2 s (rowsA l) :: F) (fun z => 20 - z.1) (0, 0, none, 0) (by simp) [0, 7, 8, 9, 10, 11] rfl (by simp [U, e0, c0, sl]) ?_
      rintro ⟨i, f, sA, cA⟩ ⟨hi, hif, hf1, hf2⟩
      simp only [] at hi hif hf1 hf2 ⊢
      refine g_seq ?_
      refine g_seq ?_
      refine g_reg ?_
      refine g_v (v_move rfl) rfl ?_
      refine g_v (v_lss rfl rfl) rfl ?_
      refine g_v (v_move rfl) rfl ?_
      refine g_gv rfl rfl (fun hg => v_move rfl) rfl rfl ?_
      refine g_gv rfl rfl (fun hg => v_geq rfl rfl) rfl rfl ?_
      refine g_v (v_and rfl rfl) rfl ?_
      refine g_nil ?_
      refine g_cond rfl (fun h43 => ?_) (fun h43 => ?_)
      · simp at h43
        refine g_skip ?_
        refine g_seq ?_
        refine g_block ?_
        refine g_seq ?_
        refine g_reg ?_
        refine g_v (v_move rfl) rfl ?_
        refine g_v (v_move rfl) rfl ?_
        refine g_v (v_move rfl) rfl ?_
        refine g_l (l_call (Pre := [roL 2 s (rowsA l)]) Try.call12 rfl (ct_area_Page l s cap f k hla hva)) rfl ?_
        rintro _ _ ⟨s50, c50, rfl, rfl⟩
        have hpg := page_is (mk l) (f := f) (many := k) (by omega) (by omega)
        generalize pageM (mk l) f k = r at *
        refine g_freeze s50 ?_
        have hr2 : (r.2 = -1 ∨ (f < r.2 ∧ r.2 < 16)) ∧ (cM r.1 16 : Int) ≤ k ∧ (0 ≤ r.2 → (cM r.1 16 : Int) = k) := by rcases hpg with ⟨h1, h2, h3⟩ | ⟨h1, h2, h3, h4⟩ <;> omega
        obtain ⟨hb1, hb2⟩ := be_next (mk l) (f := f) (by omega) hpg (by omega)
        have hb3 : ((cM (beM (mk l) f) 16 : Nat) : Int) + ((cM r.1 16 : Nat) : Int) = ((cM (beM (mk l) r.2) 16 : Nat) : Int) := by omega
        have hb4 := cM_le (beM (mk l) r.2) 16
        refine g_v (v_move rfl) rfl ?_
        refine g_v (v_extract rfl rfl) rfl ?_
        refine g_v (v_extract rfl rfl) rfl ?_
        refine g_v (v_assign rfl) rfl ?_
        refine g_v (v_assign rfl) rfl ?_
        refine g_nil ?_
        refine g_seq ?_
        refine g_seq ?_
        refine g_reg ?_
        refine g_v (v_move rfl) rfl ?_
        refine g_l (l_call (Pre := [roL 2 s50 (rowsA (ofM r.1))]) Try.call14 rfl (ct_area_Check (ofM r.1) s50 c50 (ofM_len _) (okA_ofM _))) rfl ?_
        rintro _ _ ⟨rfl, rfl⟩
        rw [chk_ofM]
        refine g_v (v_ineq Try.underlying29 rfl) rfl ?_
        refine g_v (v_move rfl) rfl ?_
        refine g_gv1 rfl rfl rfl (v_move rfl) rfl ?_
        refine g_gl rfl rfl rfl (l_call (Pre := [roL 2 s50 (rowsA (ofM r.1))]) Try.call13 rfl (ct_area_Count (ofM r.1) s50 c50 (ofM_len _) (okV_ofM _))) rfl ?_
        rintro _ _ ⟨rfl, rfl⟩
        rw [cnt_ofM]
        refine g_gv1 rfl rfl rfl (v_move rfl) rfl ?_
        refine g_gv1 rfl rfl rfl (v_gtr rfl rfl) rfl ?_
        refine g_v (v_or rfl rfl) rfl ?_
        refine g_v (v_move rfl) rfl ?_
        refine g_gv1 rfl rfl (by simp; omega) (v_move rfl) rfl ?_
        refine g_gv1 rfl rfl (by simp; omega) (v_geq rfl rfl) rfl ?_
        refine g_gv1 rfl rfl (by simp; omega) (v_move rfl) rfl ?_
        rcases (by omega : r.2 < 0 ∨ 0 ≤ r.2) with hnx | hnx
        · skip
          refine g_no rfl rfl (by simp [notB]; omega) rfl ?_
          refine g_no rfl rfl (by simp [notB]; omega) rfl ?_
          refine g_no rfl rfl (by simp [notB]; omega) rfl ?_
          refine g_no rfl rfl (by simp [notB]; omega) rfl ?_
          refine g_no rfl rfl (by simp [notB]; omega) rfl ?_
          refine g_no rfl rfl rfl rfl ?_
          refine g_no rfl rfl rfl rfl ?_
          refine g_no rfl rfl rfl rfl ?_
          refine g_no rfl rfl rfl rfl ?_
          refine g_no rfl rfl rfl rfl ?_
          refine g_no rfl rfl rfl rfl ?_
          refine g_no rfl rfl rfl rfl ?_
          refine g_no rfl rfl (by simp [notB]; omega) rfl ?_
          refine g_gv1 rfl rfl (by simp; omega) (v_pk2 rfl (by simp; omega) rfl) rfl ?_
          refine g_v (v_or rfl rfl) rfl ?_
          refine g_nil ?_
          refine g_cond rfl (fun h80 => ?_) (fun h80 => ?_)
          · exfalso
            simp at h80
            omega
          · skip
            refine g_skip ?_
            refine g_seq ?_
            refine g_reg ?_
            refine g_v (v_move rfl) rfl ?_
            refine g_v (v_move rfl) rfl ?_
            refine g_l (l_call (Pre := [roL 2 s50 (rowsA (ofM r.1))]) Try.call13 rfl (ct_area_Count (ofM r.1) s50 c50 (ofM_len _) (okV_ofM _))) rfl ?_
            rintro _ _ ⟨rfl, rfl⟩
            rw [cnt_ofM]
            refine g_v (v_add rfl rfl (w64 (by omega))) rfl ?_
            refine g_v (v_assign rfl) rfl ?_
            refine g_nil ?_
            rw [hb3]
            refine g_seq ?_
            refine g_reg ?_
            refine g_v (v_move rfl) rfl ?_
            refine g_v (v_move rfl) rfl ?_
            refine g_l (l_call (Pre := [roL 2 sA (rowsA (ofM (beM (mk l) f))), roL 2 s50 (rowsA (ofM r.1))]) Try.call15 rfl (ct_area_Union (ofM (beM (mk l) f)) (ofM r.1) sA s50 cA c50 (ofM_len _) (ofM_len _) (okV_ofM _) (okV_ofM _))) rfl ?_
            rintro _ _ ⟨s87, c87, rfl, rfl⟩
            rw [ofM_congr hb1]
            refine g_freeze s87 ?_
            refine g_v (v_assign rfl) rfl ?_
            refine g_nil ?_
            refine g_reg ?_
            refine g_v (v_move rfl) rfl ?_
            refine g_v (v_assign rfl) rfl ?_
            refine g_nil ?_
            refine g_blk ?_
            refine g_reg ?_
            refine g_v (v_move rfl) rfl ?_
            refine g_v (v_add rfl rfl (w64 (by omega))) rfl ?_
            refine g_v (v_assign rfl) rfl ?_
            refine g_nil ?_
            exact g_again (i + 1, r.2, s87, c87) ⟨by simp; omega, by simp; omega, by simp; omega, by simp; omega⟩ (by simp; omega) [0, 7, 8, 9, 10, 11] rfl rfl
        · have hck := hr2.2.2 hnx
          refine g_gv1 rfl rfl (by simp; omega) (v_move rfl) rfl ?_
          refine g_gl rfl rfl (by simp; omega) (l_call (Pre := [roL 2 s50 (rowsA (ofM r.1))]) Try.call13 rfl (ct_area_Count (ofM r.1) s50 c50 (ofM_len _) (okV_ofM _))) rfl ?_
          rintro _ _ ⟨rfl, rfl⟩
          rw [cnt_ofM]
          refine g_gv1 rfl rfl (by simp; omega) (v_move rfl) rfl ?_
          refine g_gv1 rfl rfl (by simp; omega) (v_neq rfl rfl) rfl ?_
          refine g_gv1 rfl rfl (by simp; omega) (v_move rfl) rfl ?_
          refine g_gv1 rfl rfl (by simp; omega) (v_move rfl) rfl ?_
          refine g_gv1 rfl rfl (by simp; omega) (v_move rfl) rfl ?_
          refine g_gv1 rfl rfl (by simp; omega) (v_leq rfl rfl) rfl ?_
          refine g_gv1 rfl rfl (by simp; omega) (v_move rfl) rfl ?_
          refine g_no rfl rfl (by simp [notB]; omega) rfl ?_
          refine g_no rfl rfl (by simp [notB]; omega) rfl ?_
          refine g_gv1 rfl rfl (by simp; omega) (v_pk2 rfl (by simp; omega) rfl) rfl ?_
          refine g_gv1 rfl rfl (by simp; omega) (v_or rfl rfl) rfl ?_
          refine g_gv1 rfl rfl (by simp; omega) (v_and rfl rfl) rfl ?_
          refine g_v (v_or rfl rfl) rfl ?_
          refine g_nil ?_
          refine g_cond rfl (fun h80 => ?_) (fun h80 => ?_)
          · exfalso
            simp at h80
            omega
          · skip
            refine g_skip ?_
            refine g_seq ?_
            refine g_reg ?_
            refine g_v (v_move rfl) rfl ?_
            refine g_v (v_move rfl) rfl ?_
            refine g_l (l_call (Pre := [roL 2 s50 (rowsA (ofM r.1))]) Try.call13 rfl (ct_area_Count (ofM r.1) s50 c50 (ofM_len _) (okV_ofM _))) rfl ?_
            rintro _ _ ⟨rfl, rfl⟩
            rw [cnt_ofM]
            refine g_v (v_add rfl rfl (w64 (by omega))) rfl ?_
            refine g_v (v_assign rfl) rfl ?_
            refine g_nil ?_
            rw [hb3]
            refine g_seq ?_
            refine g_reg ?_
            refine g_v (v_move rfl) rfl ?_
            refine g_v (v_move rfl) rfl ?_
            refine g_l (l_call (Pre := [roL 2 sA (rowsA (ofM (beM (mk l) f))), roL 2 s50 (rowsA (ofM r.1))]) Try.call15 rfl (ct_area_Union (ofM (beM (mk l) f)) (ofM r.1) sA s50 cA c50 (ofM_len _) (ofM_len _) (okV_ofM _) (okV_ofM _))) rfl ?_
            rintro _ _ ⟨s87, c87, rfl, rfl⟩
            rw [ofM_congr hb1]
            refine g_freeze s87 ?_
            refine g_v (v_assign rfl) rfl ?_
            refine g_nil ?_
            refine g_reg ?_
            refine g_v (v_move rfl) rfl ?_
            refine g_v (v_assign rfl) rfl ?_
            refine g_nil ?_
            refine g_blk ?_
            refine g_reg ?_
            refine g_v (v_move rfl) rfl ?_
            refine g_v (v_add rfl rfl (w64 (by omega))) rfl ?_
            refine g_v (v_assign rfl) rfl ?_
            refine g_nil ?_
            exact g_again (i + 1, r.2, s87, c87) ⟨by simp; omega, by simp; omega, by simp; omega, by simp; omega⟩ (by simp; omega) [0, 7, 8, 9, 10, 11] rfl rfl
      · simp at h43
        have hf : f < 0 := by omega
        obtain ⟨e1, e2⟩ := ofM_be_all hca hf
        refine g_exit rfl ?_
        refine g_seq ?_
        refine g_reg ?_
        refine g_v (v_move rfl) rfl ?_
        refine g_v (v_lss rfl rfl) rfl ?_
        refine g_v (v_move rfl) rfl ?_
        refine g_gv1 rfl rfl (by simp [hf]) (v_move rfl) rfl ?_
        refine g_gv1 rfl rfl (by simp [hf]) (v_move rfl) rfl ?_
        refine g_gl rfl rfl (by simp [hf]) (l_call (Pre := [roL 2 sA (rowsA (ofM (beM (mk l) f))), roL 2 s (rowsA l)]) Try.call16 rfl (ct_R_SameAreas (ofM (beM (mk l) f)) l sA s cA cap (ofM_len _) hla)) rfl ?_
        rintro _ _ ⟨rfl, rfl⟩
        refine g_v (v_and rfl rfl) rfl ?_
        refine g_v (v_move rfl) rfl ?_
        refine g_gv1 rfl rfl (by simp [hf, e1]) (v_move rfl) rfl ?_
        refine g_gv1 rfl rfl (by simp [hf, e1]) (v_move rfl) rfl ?_
        refine g_gl rfl rfl (by simp [hf, e1]) (l_call (Pre := [roL 2 s (rowsA l)]) Try.call13 rfl (ct_area_Count l s cap hla hva)) rfl ?_
        rintro _ _ ⟨rfl, rfl⟩
        refine g_gv1 rfl rfl (by simp [hf, e1]) (v_eql rfl rfl) rfl ?_
        refine g_v (v_and rfl rfl) rfl ?_
        refine g_v (v_assign rfl) rfl ?_
        refine g_nil ?_
        refine g_ret1 rfl rfl ?_
        show Bo _ = Bo true
        congr 1
        simp [hf, e1, e2]

end Go.Proofs.Ythdjckbjjfiopab
