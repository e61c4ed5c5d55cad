/- The walk through the law TopArea: it returns true and leaves what was there as it was. No condition. -/
import Derived.Test.YthdjckbjjfiopaaAreaLaw
namespace Go.Proofs.Ythdjckbjjfiopaa
open Go.Sl Go.Proofs
set_option linter.unusedVariables false
set_option linter.unusedSimpArgs false
theorem un_comm (a b : List Area) : ofM (orM (mk a) (mk b)) = ofM (orM (mk b) (mk a)) := ofM_congr fun p _ => Bool.or_comm _ _
theorem un_assoc (a b c : List Area) : ofM (orM (mk (ofM (orM (mk a) (mk b)))) (mk c)) = ofM (orM (mk a) (mk (ofM (orM (mk b) (mk c))))) :=
  ofM_congr fun p hp => by simp only [orM, mk_ofM _ hp]; exact Bool.or_assoc _ _ _
theorem un_self {a : List Area} (h : chkA (-1) a = 0) : ofM (orM (mk a) (mk a)) = a := ofM_mk h fun p _ => Bool.or_self _
theorem has_un (a b : List Area) (hva : okV a) (hvb : okV b) (n : Int) : hasA (ofM (orM (mk a) (mk b))) n = (hasA a n || hasA b n) := by
  by_cases h : n < 0 ∨ 16 ≤ n
  · rw [hasA_out (okV_ofM _) h, hasA_out hva h, hasA_out hvb h]; rfl
  · rw [hasA_in (by omega), hasA_in (by omega), hasA_in (by omega), mk_ofM _ (by omega)]; rfl
theorem has_cut (a : List Area) (hva : okV a) (sz n : Int) : hasA (ofM (ltM (mk a) sz)) n = (hasA a n && decide (n < sz)) := by
  by_cases h : n < 0 ∨ 16 ≤ n
  · rw [hasA_out (okV_ofM _) h, hasA_out hva h]; rfl
  · rw [hasA_in (by omega), hasA_in (by omega), mk_ofM _ (by omega), ltM, show (n.toNat : Int) = n by omega]

theorem ct_T_TopArea (a b c : List Area) (s s' s'' : Option Addr) (cap cap' cap'' : Nat) (n sz : Int) (hoa : okA a) (hob : okA b) (hoc : okA c) (hn : ok64 n) (F : List HProp) : Ct Try.prog 12 [sl s a.length cap, sl s' b.length cap', sl s'' c.length cap'', I n, I sz] ([roL 2 s (rowsA a), roL 2 s' (rowsA b), roL 2 s'' (rowsA c)] ++ F) (R1 (Bo true) (roL 2 s (rowsA a) :: roL 2 s' (rowsA b) :: roL 2 s'' (rowsA c) :: F)) := by
  show Ct Try.prog 12 [sl s a.length cap, sl s' b.length cap', sl s'' c.length cap'', I n, I sz] (roL 2 s (rowsA a) :: roL 2 s' (rowsA b) :: roL 2 s'' (rowsA c) :: F) _
  refine Ct.of Try.func12 rfl 125 Try.ntmps12 (by simp) fun w0 => ?_
  refine g_seq ?_
  refine g_reg ?_
  refine g_v (v_assign rfl) rfl ?_
  refine g_nil ?_
  refine g_seq ?_
  refine g_reg ?_
  refine g_v (v_build rfl (bld170_0_1 _ rfl _ rfl)) rfl ?_
  refine g_l (l_buildSlice (rowsA [⟨0, 1⟩]) Try.underlying22 Try.sizeOf170 Try.zeroValue170 rfl rfl rfl (by simp [rowsA, encA]) (by decide) (by decide)) rfl ?_
  rintro _ _ ⟨b15, rfl, rfl⟩
  refine g_v (v_build rfl (bld170_0_1 _ rfl _ rfl)) rfl ?_
  refine g_l (l_buildSlice (rowsA [⟨1, 1⟩]) Try.underlying22 Try.sizeOf170 Try.zeroValue170 rfl rfl rfl (by simp [rowsA, encA]) (by decide) (by decide)) rfl ?_
  rintro _ _ ⟨b17, rfl, rfl⟩
  refine g_freeze (some ⟨b15, 0, none⟩) ?_
  refine g_freeze (some ⟨b17, 0, none⟩) ?_
  refine g_l (l_call (Pre := [roL 2 (some ⟨b15, 0, none⟩) (rowsA [⟨0, 1⟩]), roL 2 (some ⟨b17, 0, none⟩) (rowsA [⟨1, 1⟩])]) Try.call20 rfl (ct_area_Union [⟨0, 1⟩] [⟨1, 1⟩] (some ⟨b15, 0, none⟩) (some ⟨b17, 0, none⟩) 1 1 (by decide) (by decide) (by simp [okV]) (by simp [okV]))) rfl ?_
  rintro _ _ ⟨s18, c18, rfl, rfl⟩
  rw [show ofM (orM (mk [⟨0, 1⟩]) (mk [⟨1, 1⟩])) = [⟨0, 2⟩] by decide]
  refine g_v (v_assign rfl) rfl ?_
  refine g_nil ?_
  refine g_seq ?_
  refine g_seq ?_
  refine g_reg ?_
  refine g_v (v_move rfl) rfl ?_
  refine g_v (v_len Try.underlying22 rfl) rfl ?_
  refine g_v (v_neq rfl rfl) rfl ?_
  refine g_v (v_move rfl) rfl ?_
  refine g_gv1 rfl rfl rfl (v_move rfl) rfl ?_
  refine g_gv1 rfl rfl rfl (v_idxS 0 Try.underlying22 Try.sizeOf170 rfl rfl rfl (by decide) (by decide)) rfl ?_
  refine g_gv1 rfl rfl rfl (v_fieldAdrS (j := 0) 1 Try.underlying170 rfl rfl Try.sizeOf3 (by decide) rfl (by decide)) rfl ?_
  refine g_gv1 rfl rfl rfl (v_loadS (row := encA ⟨0, 2⟩) Try.isAgg3 rfl rfl rfl) rfl ?_
  refine g_gv1 rfl rfl rfl (v_neq rfl rfl) rfl ?_
  refine g_v (v_or rfl rfl) rfl ?_
  refine g_nil ?_
  refine g_cond rfl (fun h28 => ?_) (fun h28 => ?_)
  · simp at h28
  · skip
    refine g_skip ?_
    refine g_seq ?_
    refine g_seq ?_
    refine g_reg ?_
    refine g_v (v_move rfl) rfl ?_
    refine g_v (v_len Try.underlying22 rfl) rfl ?_
    refine g_v (v_gtr rfl rfl) rfl ?_
    refine g_v (v_move rfl) rfl ?_
    refine g_gv rfl rfl (fun hg => v_move rfl) rfl rfl ?_
    refine g_gv rfl rfl (fun hg => v_len Try.underlying22 rfl) rfl rfl ?_
    refine g_gv rfl rfl (fun hg => v_gtr rfl rfl) rfl rfl ?_
    refine g_v (v_or rfl rfl) rfl ?_
    refine g_v (v_move rfl) rfl ?_
    refine g_gv rfl rfl (fun hg => v_move rfl) rfl rfl ?_
    refine g_gv rfl rfl (fun hg => v_len Try.underlying22 rfl) rfl rfl ?_
    refine g_gv rfl rfl (fun hg => v_gtr rfl rfl) rfl rfl ?_
    refine g_v (v_or rfl rfl) rfl ?_
    refine g_v (v_move rfl) rfl ?_
    refine g_gv rfl rfl (fun hg => v_move rfl) rfl rfl ?_
    refine g_gq rfl rfl (fun hg => l_call (Pre := [roL 2 s (rowsA a)]) (R := fun F => R1 (errV (chkA (-1) a)) (roL 2 s (rowsA a) :: F)) Try.call15 rfl (ct_area_Check a s cap (by simp at hg; omega) hoa)) rfl rfl ?_
    refine g_gv rfl rfl (fun hg => v_ineq Try.underlying26 rfl) rfl rfl ?_
    refine g_v (v_or rfl rfl) rfl ?_
    refine g_v (v_move rfl) rfl ?_
    refine g_gv rfl rfl (fun hg => v_move rfl) rfl rfl ?_
    refine g_gq rfl rfl (fun hg => l_call (Pre := [roL 2 s' (rowsA b)]) (R := fun F => R1 (errV (chkA (-1) b)) (roL 2 s' (rowsA b) :: F)) Try.call15 rfl (ct_area_Check b s' cap' (by simp at hg; omega) hob)) rfl rfl ?_
    refine g_gv rfl rfl (fun hg => v_ineq Try.underlying26 rfl) rfl rfl ?_
    refine g_v (v_or rfl rfl) rfl ?_
    refine g_v (v_move rfl) rfl ?_
    refine g_gv rfl rfl (fun hg => v_move rfl) rfl rfl ?_
    refine g_gq rfl rfl (fun hg => l_call (Pre := [roL 2 s'' (rowsA c)]) (R := fun F => R1 (errV (chkA (-1) c)) (roL 2 s'' (rowsA c) :: F)) Try.call15 rfl (ct_area_Check c s'' cap'' (by simp at hg; omega) hoc)) rfl rfl ?_
    refine g_gv rfl rfl (fun hg => v_ineq Try.underlying26 rfl) rfl rfl ?_
    refine g_v (v_or rfl rfl) rfl ?_
    refine g_nil ?_
    refine g_cond rfl (fun h56 => ?_) (fun h56 => ?_)
    · skip
      refine g_seq ?_
      refine g_reg ?_
      refine g_v (v_assign rfl) rfl ?_
      refine g_nil ?_
      refine g_ret1 rfl rfl ?_
      exact rfl
    · simp at h56
      have hla : a.length ≤ 1000000 := by omega
      have hlb : b.length ≤ 1000000 := by omega
      have hlc : c.length ≤ 1000000 := by omega
      have hna := chkA_nn a (-1)
      have hnb := chkA_nn b (-1)
      have hnc := chkA_nn c (-1)
      have hca : chkA (-1) a = 0 := by omega
      have hcb : chkA (-1) b = 0 := by omega
      have hcc : chkA (-1) c = 0 := by omega
      obtain ⟨hva, _⟩ := chk_ok hca
      obtain ⟨hvb, _⟩ := chk_ok hcb
      obtain ⟨hvc, _⟩ := chk_ok hcc
      refine g_skip ?_
      refine g_seq ?_
      refine g_reg ?_
      refine g_v (v_move rfl) rfl ?_
      refine g_v (v_move rfl) rfl ?_
      refine g_l (l_call (Pre := [roL 2 s (rowsA a), roL 2 s' (rowsA b)]) Try.call20 rfl (ct_area_Union a b s s' cap cap' hla hlb hva hvb)) rfl ?_
      rintro _ _ ⟨s59, c59, rfl, rfl⟩
      refine g_freeze s59 ?_
      refine g_v (v_assign rfl) rfl ?_
      refine g_nil ?_
      refine g_seq ?_
      refine g_seq ?_
      refine g_reg ?_
      refine g_v (v_move rfl) rfl ?_
      refine g_l (l_call (Pre := [roL 2 s59 (rowsA (ofM (orM (mk a) (mk b))))]) Try.call15 rfl (ct_area_Check (ofM (orM (mk a) (mk b))) s59 c59 (ofM_len _) (okA_ofM _))) rfl ?_
      rintro _ _ ⟨rfl, rfl⟩
      rw [chk_ofM]
      refine g_v (v_ineq Try.underlying26 rfl) rfl ?_
      refine g_v (v_move rfl) rfl ?_
      refine g_gv1 rfl rfl rfl (v_move rfl) rfl ?_
      refine g_gv1 rfl rfl rfl (v_move rfl) rfl ?_
      refine g_gv1 rfl rfl rfl (v_move rfl) rfl ?_
      refine g_gl rfl rfl rfl (l_call (Pre := [roL 2 s' (rowsA b), roL 2 s (rowsA a)]) Try.call20 rfl (ct_area_Union b a s' s cap' cap hlb hla hvb hva)) rfl ?_
      rintro _ _ ⟨s67, c67, rfl, rfl⟩
      refine g_freeze s67 ?_
      refine g_gl rfl rfl rfl (l_call (Pre := [roL 2 s59 (rowsA (ofM (orM (mk a) (mk b)))), roL 2 s67 (rowsA (ofM (orM (mk b) (mk a))))]) Try.call19 rfl (ct_R_SameAreas (ofM (orM (mk a) (mk b))) (ofM (orM (mk b) (mk a))) s59 s67 c59 c67 (ofM_len _) (ofM_len _))) rfl ?_
      rintro _ _ ⟨rfl, rfl⟩
      rw [decide_eq_true (un_comm a b)]
      refine g_gv1 rfl rfl rfl (v_not rfl) rfl ?_
      refine g_v (v_or rfl rfl) rfl ?_
      refine g_v (v_move rfl) rfl ?_
      refine g_gv1 rfl rfl rfl (v_move rfl) rfl ?_
      refine g_gv1 rfl rfl rfl (v_move rfl) rfl ?_
      refine g_gl rfl rfl rfl (l_call (Pre := [roL 2 s59 (rowsA (ofM (orM (mk a) (mk b)))), roL 2 s'' (rowsA c)]) Try.call20 rfl (ct_area_Union (ofM (orM (mk a) (mk b))) c s59 s'' c59 cap'' (ofM_len _) hlc (okV_ofM _) hvc)) rfl ?_
      rintro _ _ ⟨s74, c74, rfl, rfl⟩
      refine g_freeze s74 ?_
      refine g_gv1 rfl rfl rfl (v_move rfl) rfl ?_
      refine g_gv1 rfl rfl rfl (v_move rfl) rfl ?_
      refine g_gv1 rfl rfl rfl (v_move rfl) rfl ?_
      refine g_gl rfl rfl rfl (l_call (Pre := [roL 2 s' (rowsA b), roL 2 s'' (rowsA c)]) Try.call20 rfl (ct_area_Union b c s' s'' cap' cap'' hlb hlc hvb hvc)) rfl ?_
      rintro _ _ ⟨s78, c78, rfl, rfl⟩
      refine g_freeze s78 ?_
      refine g_gl rfl rfl rfl (l_call (Pre := [roL 2 s (rowsA a), roL 2 s78 (rowsA (ofM (orM (mk b) (mk c))))]) Try.call20 rfl (ct_area_Union a (ofM (orM (mk b) (mk c))) s s78 cap c78 hla (ofM_len _) hva (okV_ofM _))) rfl ?_
      rintro _ _ ⟨s79, c79, rfl, rfl⟩
      refine g_freeze s79 ?_
      refine g_gl rfl rfl rfl (l_call (Pre := [roL 2 s74 (rowsA (ofM (orM (mk (ofM (orM (mk a) (mk b)))) (mk c)))), roL 2 s79 (rowsA (ofM (orM (mk a) (mk (ofM (orM (mk b) (mk c)))))))]) Try.call19 rfl (ct_R_SameAreas (ofM (orM (mk (ofM (orM (mk a) (mk b)))) (mk c))) (ofM (orM (mk a) (mk (ofM (orM (mk b) (mk c)))))) s74 s79 c74 c79 (ofM_len _) (ofM_len _))) rfl ?_
      rintro _ _ ⟨rfl, rfl⟩
      rw [decide_eq_true (un_assoc a b c)]
      refine g_gv1 rfl rfl rfl (v_not rfl) rfl ?_
      refine g_v (v_or rfl rfl) rfl ?_
      refine g_v (v_move rfl) rfl ?_
      refine g_gv1 rfl rfl rfl (v_move rfl) rfl ?_
      refine g_gv1 rfl rfl rfl (v_move rfl) rfl ?_
      refine g_dup (A := roL 2 s (rowsA a)) (Pers.roL _ _ _) ?_
      refine g_gl rfl rfl rfl (l_call (Pre := [roL 2 s (rowsA a), roL 2 s (rowsA a)]) Try.call20 rfl (ct_area_Union a a s s cap cap hla hla hva hva)) rfl ?_
      rintro _ _ ⟨s86, c86, rfl, rfl⟩
      refine g_freeze s86 ?_
      refine g_gv1 rfl rfl rfl (v_move rfl) rfl ?_
      refine g_gl rfl rfl rfl (l_call (Pre := [roL 2 s86 (rowsA (ofM (orM (mk a) (mk a)))), roL 2 s (rowsA a)]) Try.call19 rfl (ct_R_SameAreas (ofM (orM (mk a) (mk a))) a s86 s c86 cap (ofM_len _) hla)) rfl ?_
      rintro _ _ ⟨rfl, rfl⟩
      rw [decide_eq_true (un_self hca)]
      refine g_gv1 rfl rfl rfl (v_not rfl) rfl ?_
      refine g_v (v_or rfl rfl) rfl ?_
      refine g_nil ?_
      refine g_cond rfl (fun h90 => ?_) (fun h90 => ?_)
      · simp at h90
      · skip
        refine g_skip ?_
        refine g_seq ?_
        refine g_reg ?_
        refine g_v (v_move rfl) rfl ?_
        refine g_v (v_move rfl) rfl ?_
        refine g_l (l_call (Pre := [roL 2 s (rowsA a)]) Try.call22 rfl (ct_area_Cut a s cap sz hla hva)) rfl ?_
        rintro _ _ ⟨s93, c93, rfl, rfl⟩
        refine g_freeze s93 ?_
        refine g_v (v_assign rfl) rfl ?_
        refine g_nil ?_
        refine g_seq ?_
        refine g_reg ?_
        refine g_v (v_move rfl) rfl ?_
        refine g_l (l_call (Pre := [roL 2 s93 (rowsA (ofM (ltM (mk a) sz)))]) Try.call15 rfl (ct_area_Check (ofM (ltM (mk a) sz)) s93 c93 (ofM_len _) (okA_ofM _))) rfl ?_
        rintro _ _ ⟨rfl, rfl⟩
        rw [chk_ofM]
        refine g_v (v_ieql Try.underlying26 rfl) rfl ?_
        refine g_v (v_move rfl) rfl ?_
        refine g_gv1 rfl rfl rfl (v_move rfl) rfl ?_
        refine g_gv1 rfl rfl rfl (v_move rfl) rfl ?_
        refine g_gl rfl rfl rfl (l_call (Pre := [roL 2 s59 (rowsA (ofM (orM (mk a) (mk b))))]) Try.call25 rfl (ct_area_Has (ofM (orM (mk a) (mk b))) s59 c59 n hn (ofM_len _) (okV_ofM _))) rfl ?_
        rintro _ _ ⟨rfl, rfl⟩
        refine g_gv1 rfl rfl rfl (v_move rfl) rfl ?_
        refine g_gv1 rfl rfl rfl (v_move rfl) rfl ?_
        refine g_gl rfl rfl rfl (l_call (Pre := [roL 2 s (rowsA a)]) Try.call25 rfl (ct_area_Has a s cap n hn hla hva)) rfl ?_
        rintro _ _ ⟨rfl, rfl⟩
        refine g_gv1 rfl rfl rfl (v_move rfl) rfl ?_
        refine g_gv rfl rfl (fun hg => v_move rfl) rfl rfl ?_
        refine g_gv rfl rfl (fun hg => v_move rfl) rfl rfl ?_
        refine g_gq rfl rfl (fun hg => l_call (Pre := [roL 2 s' (rowsA b)]) (R := fun F => R1 (Bo (hasA b n)) (roL 2 s' (rowsA b) :: F)) Try.call25 rfl (ct_area_Has b s' cap' n hn hlb hvb)) rfl rfl ?_
        refine g_gv1 rfl rfl rfl (v_or rfl rfl) rfl ?_
        refine g_gv1 rfl rfl rfl (v_beql Try.underlying4 rfl rfl) rfl ?_
        refine g_v (v_and rfl rfl) rfl ?_
        refine g_v (v_move rfl) rfl ?_
        refine g_gv1 rfl rfl (by simp [has_un a b hva hvb]) (v_move rfl) rfl ?_
        refine g_gv1 rfl rfl (by simp [has_un a b hva hvb]) (v_move rfl) rfl ?_
        refine g_gl rfl rfl (by simp [has_un a b hva hvb]) (l_call (Pre := [roL 2 s93 (rowsA (ofM (ltM (mk a) sz)))]) Try.call25 rfl (ct_area_Has (ofM (ltM (mk a) sz)) s93 c93 n hn (ofM_len _) (okV_ofM _))) rfl ?_
        rintro _ _ ⟨rfl, rfl⟩
        refine g_gv1 rfl rfl (by simp [has_un a b hva hvb]) (v_move rfl) rfl ?_
        refine g_gv1 rfl rfl (by simp [has_un a b hva hvb]) (v_move rfl) rfl ?_
        refine g_gl rfl rfl (by simp [has_un a b hva hvb]) (l_call (Pre := [roL 2 s (rowsA a)]) Try.call25 rfl (ct_area_Has a s cap n hn hla hva)) rfl ?_
        rintro _ _ ⟨rfl, rfl⟩
        refine g_gv1 rfl rfl (by simp [has_un a b hva hvb]) (v_move rfl) rfl ?_
        refine g_gv rfl rfl (fun hg => v_move rfl) rfl rfl ?_
        refine g_gv rfl rfl (fun hg => v_move rfl) rfl rfl ?_
        refine g_gv rfl rfl (fun hg => v_lss rfl rfl) rfl rfl ?_
        refine g_gv1 rfl rfl (by simp [has_un a b hva hvb]) (v_and rfl rfl) rfl ?_
        refine g_gv1 rfl rfl (by simp [has_un a b hva hvb]) (v_beql Try.underlying4 rfl rfl) rfl ?_
        refine g_v (v_and rfl rfl) rfl ?_
        refine g_v (v_assign rfl) rfl ?_
        refine g_nil ?_
        refine g_ret1 rfl rfl ?_
        show Bo _ = Bo true
        congr 1
        simp [has_un a b hva hvb, has_cut a hva]

end Go.Proofs.Ythdjckbjjfiopaa
