/- Walks through the reference's functions on areas, and what the statements ask of errors. No condition. -/
import Derived.Test.YthdjckbjjfiopaaArea4
namespace Go.Proofs.Ythdjckbjjfiopaa
open Go.Sl Go.Proofs
set_option linter.unusedVariables false
set_option linter.unusedSimpArgs false
def frR (m : Nat → Bool) (k : Nat) (f : Int) : Int := if ((decide ((k : Int) < 16) && m k) && decide (f < 0)) = true then (k : Int) else f
theorem foldR_eq (m : Nat → Bool) (k : Nat) : foldR m (k + 1) = if (!(decide ((k : Int) < 16) && m k) && decide (0 ≤ frR m k (foldR m k).2)) = true then ((foldR m k).1 ++ [⟨frR m k (foldR m k).2, k - frR m k (foldR m k).2⟩], -1) else ((foldR m k).1, frR m k (foldR m k).2) := rfl
theorem foldR_hit {m : Nat → Bool} {k : Nat} (h : (!(decide ((k : Int) < 16) && m k) && decide (0 ≤ frR m k (foldR m k).2)) = true) : foldR m (k + 1) = ((foldR m k).1 ++ [⟨frR m k (foldR m k).2, k - frR m k (foldR m k).2⟩], -1) := by
  rw [foldR_eq, if_pos h]
theorem foldR_miss {m : Nat → Bool} {k : Nat} (h : (!(decide ((k : Int) < 16) && m k) && decide (0 ≤ frR m k (foldR m k).2)) = false) : foldR m (k + 1) = ((foldR m k).1, frR m k (foldR m k).2) := by
  rw [foldR_eq, if_neg (by rw [h]; decide)]
theorem frR_bd {m : Nat → Bool} {k : Nat} (hk : k ≤ 16) : -1 ≤ frR m k (foldR m k).2 ∧ frR m k (foldR m k).2 ≤ k := by
  obtain ⟨h1, h2, _⟩ := foldR_P m k hk
  unfold frR
  split <;> omega

theorem ct_R_Marks_Areas (m : Nat → Bool) (F : List HProp) : Ct Try.prog 125 [.agg (bA m)] ([] ++ F) (RSl 170 2 (ofM m).length (rowsA (ofM m)) F) := by
  show Ct Try.prog 125 [.agg (bA m)] (F) _
  refine Ct.of Try.func125 rfl 39 Try.ntmps125 (by simp) fun w0 => ?_
  refine g_seq ?_
  refine g_reg ?_
  refine g_l (l_box (bA m) rfl rfl) rfl ?_
  rintro _ _ ⟨b1, rfl, rfl⟩
  refine g_v (v_assign rfl) rfl ?_
  refine g_nil ?_
  refine g_seq ?_
  refine g_nilown 170 2 (rowsA (foldR m 0).1) rfl ?_
  refine g_reg ?_
  refine g_v (v_assign rfl) rfl ?_
  refine g_nil ?_
  refine g_seq ?_
  refine g_reg ?_
  refine g_v (v_assign rfl) rfl ?_
  refine g_nil ?_
  refine g_seq ?_
  refine g_seq ?_
  refine g_reg ?_
  refine g_v (v_assign rfl) rfl ?_
  refine g_nil ?_
  refine g_block ?_
  refine g_loop (α := Nat × Option Addr × Nat) (fun z => z.1 ≤ 17) (fun z => U [(1, ptr b1 0), (3, sl z.2.1 (foldR m z.1).1.length z.2.2), (4, I (foldR m z.1).2), (5, I z.1)]) (fun z => owL 170 2 z.2.1 z.2.2 (rowsA (foldR m z.1).1) :: pt b1 (.cells (bA m) 35 (0, 0)) :: F) (fun z => 17 - z.1) (0, none, 0) (by simp) [1, 3, 4, 5] rfl rfl ?_
  rintro ⟨k, s, cap⟩ hk17
  simp only [] at hk17 ⊢
  refine g_seq ?_
  refine g_seq ?_
  refine g_reg ?_
  refine g_v (v_move rfl) rfl ?_
  refine g_v (v_leq rfl rfl) rfl ?_
  refine g_nil ?_
  refine g_cond rfl (fun h8 => ?_) (fun h8 => ?_)
  · simp at h8
    have hk : k ≤ 16 := by omega
    obtain ⟨hb1, hb2, hb3, _⟩ := foldR_P m k hk
    refine g_skip ?_
    refine g_seq ?_
    refine g_block ?_
    refine g_seq ?_
    refine g_reg ?_
    refine g_v (v_move rfl) rfl ?_
    refine g_v (v_lss rfl rfl) rfl ?_
    refine g_v (v_move rfl) rfl ?_
    refine g_gv rfl rfl (fun hg => v_move rfl) rfl rfl ?_
    refine g_gv rfl rfl (fun hg => v_idxA k Try.underlying35 Try.sizeOf4 rfl rfl rfl (by simp at hg; omega)) rfl rfl ?_
    refine g_gv rfl rfl (fun hg => v_load Try.isAgg4 rfl (bA_cell (by simp at hg; omega))) rfl rfl ?_
    refine g_v (v_and rfl rfl) rfl ?_
    refine g_v (v_assign rfl) rfl ?_
    refine g_nil ?_
    refine g_seq ?_
    refine g_seq ?_
    refine g_reg ?_
    refine g_v (v_move rfl) rfl ?_
    refine g_v (v_move rfl) rfl ?_
    refine g_gv rfl rfl (fun hg => v_move rfl) rfl rfl ?_
    refine g_gv rfl rfl (fun hg => v_lss rfl rfl) rfl rfl ?_
    refine g_v (v_and rfl rfl) rfl ?_
    refine g_nil ?_
    refine g_cut (α := Unit) (fun _ => True) (fun _ => U [(1, ptr b1 0), (3, sl s (foldR m k).1.length cap), (4, I (frR m k (foldR m k).2)), (5, I k), (6, .bool (decide ((k : Int) < 16) && m k))]) (fun _ => owL 170 2 s cap (rowsA (foldR m k).1) :: pt b1 (.cells (bA m) 35 (0, 0)) :: F) ?_ ?_
    · skip
      refine g_cond rfl (fun h22 => ?_) (fun h22 => ?_)
      · skip
        refine g_reg ?_
        refine g_v (v_move rfl) rfl ?_
        refine g_v (v_assign rfl) rfl ?_
        refine g_nil ?_
        exact g_here () trivial [1, 3, 4, 5, 6] rfl (by simp only [frR, h22]; rfl)
      · skip
        refine g_skip ?_
        exact g_here () trivial [1, 3, 4, 5, 6] rfl (by simp only [frR, h22]; rfl)
    rintro ⟨⟩ -
    refine g_seq ?_
    refine g_reg ?_
    refine g_v (v_move rfl) rfl ?_
    refine g_v (v_not rfl) rfl ?_
    refine g_v (v_move rfl) rfl ?_
    refine g_gv rfl rfl (fun hg => v_move rfl) rfl rfl ?_
    refine g_gv rfl rfl (fun hg => v_geq rfl rfl) rfl rfl ?_
    refine g_v (v_and rfl rfl) rfl ?_
    refine g_nil ?_
    refine g_cond rfl (fun h29 => ?_) (fun h29 => ?_)
    · skip
      refine g_seq ?_
      refine g_reg ?_
      refine g_v (v_move rfl) rfl ?_
      refine g_v (v_move rfl) rfl ?_
      refine g_v (v_move rfl) rfl ?_
      refine g_v (v_move rfl) rfl ?_
      refine g_v (v_sub rfl rfl (w64 (by have := frR_bd (m := m) hk; omega))) rfl ?_
      refine g_v (v_build rfl (bld170_0_1 _ rfl _ rfl)) rfl ?_
      refine g_l (l_buildSlice [[I (frR m k (foldR m k).2), I (k - frR m k (foldR m k).2)]] Try.underlying22 Try.sizeOf170 Try.zeroValue170 rfl rfl rfl (by simp) (by decide) (by decide)) rfl ?_
      rintro _ _ ⟨b36, rfl, rfl⟩
      refine g_l (l_append Try.underlying22 Try.sizeOf170 Try.zeroValue170 rfl Try.typeInfo170 (by decide) rfl rfl (rowsA_len _) rfl (by simp) (by simp [ones, one]) ⟨by omega, by decide, by decide⟩) rfl ?_
      rintro _ _ ⟨s37, c37, rfl, rfl⟩
      rw [rowsA_app]
      refine g_v (v_assign rfl) rfl ?_
      refine g_nil ?_
      refine g_reg ?_
      refine g_v (v_assign rfl) rfl ?_
      refine g_nil ?_
      refine g_blk ?_
      refine g_reg ?_
      refine g_v (v_move rfl) rfl ?_
      refine g_v (v_add rfl rfl (w64 (by omega))) rfl ?_
      refine g_v (v_assign rfl) rfl ?_
      refine g_nil ?_
      have e := foldR_hit h29
      have e1 : (foldR m (k + 1)).1 = (foldR m k).1 ++ [⟨frR m k (foldR m k).2, k - frR m k (foldR m k).2⟩] := by rw [e]
      rw [← e1]
      exact g_again (k + 1, s37, c37) (by simp; omega) (by simp; omega) [1, 3, 4, 5] rfl (by simp [U, e])
    · skip
      refine g_skip ?_
      refine g_blk ?_
      refine g_reg ?_
      refine g_v (v_move rfl) rfl ?_
      refine g_v (v_add rfl rfl (w64 (by omega))) rfl ?_
      refine g_v (v_assign rfl) rfl ?_
      refine g_nil ?_
      have e := foldR_miss h29
      have e1 : (foldR m (k + 1)).1 = (foldR m k).1 := by rw [e]
      rw [← e1]
      exact g_again (k + 1, s, cap) (by simp; omega) (by simp; omega) [1, 3, 4, 5] rfl (by simp [U, e])
  · simp at h8
    obtain rfl : k = 17 := by omega
    rw [ofR_eq]
    refine g_exit rfl ?_
    refine g_seq ?_
    refine g_reg ?_
    refine g_v (v_move rfl) rfl ?_
    refine g_v (v_assign rfl) rfl ?_
    refine g_nil ?_
    exact g_retSl rfl rfl rfl rfl

theorem ct_R_Union (a b : List Area) (s s' : Option Addr) (cap cap' : Nat) (ha : a.length ≤ 1000000) (hb : b.length ≤ 1000000) (hva : okV a) (hvb : okV b) (F : List HProp) : Ct Try.prog 21 [sl s a.length cap, sl s' b.length cap'] ([roL 2 s (rowsA a), roL 2 s' (rowsA b)] ++ F) (RSl 170 2 (ofM (orM (mk a) (mk b))).length (rowsA (ofM (orM (mk a) (mk b)))) (roL 2 s (rowsA a) :: roL 2 s' (rowsA b) :: F)) := by
  show Ct Try.prog 21 [sl s a.length cap, sl s' b.length cap'] (roL 2 s (rowsA a) :: roL 2 s' (rowsA b) :: F) _
  refine Ct.of Try.func21 rfl 28 Try.ntmps21 (by simp) fun w0 => ?_
  refine g_seq ?_
  refine g_reg ?_
  refine g_v (v_assign rfl) rfl ?_
  refine g_nil ?_
  refine g_seq ?_
  refine g_reg ?_
  refine g_v (v_move rfl) rfl ?_
  refine g_l (l_call (Pre := [roL 2 s (rowsA a)]) Try.call24 rfl (ct_R_MarksOf _ _ _ ha hva)) rfl ?_
  rintro _ _ ⟨rfl, rfl⟩
  refine g_l (l_alloc (Array.replicate 16 (Bo false)) Try.zeroValue35) rfl ?_
  rintro _ _ ⟨b5, rfl, rfl⟩
  refine g_l0 (l_storeA (bA (upM (orM (mk a) (mk b)) (mk a) 0)) Try.sizeOf35 rfl rfl (bL_len _) (bL_ones _) (by simp) (by rw [upM_zero]; exact splice_all (by simp [bL]))) ?_
  rintro _ _ rfl
  refine g_nil ?_
  refine g_seq ?_
  refine g_reg ?_
  refine g_v (v_move rfl) rfl ?_
  refine g_l (l_call (Pre := [roL 2 s' (rowsA b)]) Try.call24 rfl (ct_R_MarksOf _ _ _ hb hvb)) rfl ?_
  rintro _ _ ⟨rfl, rfl⟩
  refine g_l (l_alloc (Array.replicate 16 (Bo false)) Try.zeroValue35) rfl ?_
  rintro _ _ ⟨b6, rfl, rfl⟩
  refine g_l0 (l_storeA (bA (mk b)) Try.sizeOf35 rfl rfl (bL_len _) (bL_ones _) (by simp) (splice_all (by simp [bL]))) ?_
  rintro _ _ rfl
  refine g_nil ?_
  refine g_seq ?_
  refine g_seq ?_
  refine g_reg ?_
  refine g_v (v_assign rfl) rfl ?_
  refine g_nil ?_
  refine g_block ?_
  refine g_loop (α := Nat) (fun k => k ≤ 16) (fun k => U [(5, ptr b5 0), (6, ptr b6 0), (7, I k)]) (fun k => pt b5 (.cells (bA (upM (orM (mk a) (mk b)) (mk a) k)) 35 (0, 0)) :: pt b6 (.cells (bA (mk b)) 35 (0, 0)) :: roL 2 s (rowsA a) :: roL 2 s' (rowsA b) :: F) (fun k => 16 - k) 0 (by simp) [5, 6, 7] rfl rfl ?_
  intro k hk
  refine g_seq ?_
  refine g_seq ?_
  refine g_reg ?_
  refine g_v (v_move rfl) rfl ?_
  refine g_v (v_lss rfl rfl) rfl ?_
  refine g_nil ?_
  refine g_cond rfl (fun h13 => ?_) (fun h13 => ?_)
  · simp at h13
    have hk : k < 16 := by omega
    refine g_skip ?_
    refine g_seq ?_
    refine g_block ?_
    refine g_reg ?_
    refine g_v (v_move rfl) rfl ?_
    refine g_v (v_move rfl) rfl ?_
    refine g_v (v_idxA k Try.underlying35 Try.sizeOf4 rfl rfl rfl hk) rfl ?_
    refine g_v (v_load Try.isAgg4 rfl (bA_cell hk)) rfl ?_
    refine g_v (v_move rfl) rfl ?_
    refine g_gv rfl rfl (fun hg => v_move rfl) rfl rfl ?_
    refine g_gv rfl rfl (fun hg => v_idxA k Try.underlying35 Try.sizeOf4 rfl rfl rfl hk) rfl rfl ?_
    refine g_gv rfl rfl (fun hg => v_load Try.isAgg4 rfl (bA_cell hk)) rfl rfl ?_
    refine g_v (v_or rfl rfl) rfl ?_
    refine g_v (v_idxA k Try.underlying35 Try.sizeOf4 rfl rfl rfl hk) rfl ?_
    refine g_l0 (l_store (bA (upM (orM (mk a) (mk b)) (mk a) (k + 1))) Try.sizeOf4 rfl rfl rfl (by simp [bA, bL]; omega) (upM_set _ _ hk _ (by simp [upM, orM]))) ?_
    rintro _ _ rfl
    refine g_nil ?_
    refine g_blk ?_
    refine g_reg ?_
    refine g_v (v_move rfl) rfl ?_
    refine g_v (v_add rfl rfl (w64 (by omega))) rfl ?_
    refine g_v (v_assign rfl) rfl ?_
    refine g_nil ?_
    exact g_again (k + 1) (by omega) (by omega) [5, 6, 7] rfl rfl
  · simp at h13
    obtain rfl : k = 16 := by omega
    refine g_exit rfl ?_
    refine g_seq ?_
    refine g_reg ?_
    refine g_v (v_loadA (vs := bL (upM (orM (mk a) (mk b)) (mk a) 16)) Try.isAgg35 Try.sizeOf35 rfl (bL_len _) bA_load) rfl ?_
    refine g_l (l_call (Pre := []) Try.call125 rfl (ct_R_Marks_Areas (upM (orM (mk a) (mk b)) (mk a) 16))) rfl ?_
    rintro _ _ ⟨s9, c9, rfl, rfl⟩
    rw [show ofM (upM (orM (mk a) (mk b)) (mk a) 16) = ofM (orM (mk a) (mk b)) from foldP_ext (fun j hj => by simp [upM, hj]) 16 (Nat.le_refl _)]
    refine g_v (v_assign rfl) rfl ?_
    refine g_nil ?_
    exact g_retSl rfl rfl rfl rfl

theorem ct_R_Cut (a : List Area) (s : Option Addr) (cap : Nat) (sz : Int) (ha : a.length ≤ 1000000) (hva : okV a) (F : List HProp) : Ct Try.prog 23 [sl s a.length cap, I sz] ([roL 2 s (rowsA a)] ++ F) (RSl 170 2 (ofM (ltM (mk a) sz)).length (rowsA (ofM (ltM (mk a) sz))) (roL 2 s (rowsA a) :: F)) := by
  show Ct Try.prog 23 [sl s a.length cap, I sz] (roL 2 s (rowsA a) :: F) _
  refine Ct.of Try.func23 rfl 25 Try.ntmps23 (by simp) fun w0 => ?_
  refine g_seq ?_
  refine g_reg ?_
  refine g_v (v_assign rfl) rfl ?_
  refine g_nil ?_
  refine g_seq ?_
  refine g_reg ?_
  refine g_v (v_move rfl) rfl ?_
  refine g_l (l_call (Pre := [roL 2 s (rowsA a)]) Try.call24 rfl (ct_R_MarksOf _ _ _ ha hva)) rfl ?_
  rintro _ _ ⟨rfl, rfl⟩
  refine g_l (l_alloc (Array.replicate 16 (Bo false)) Try.zeroValue35) rfl ?_
  rintro _ _ ⟨b5, rfl, rfl⟩
  refine g_l0 (l_storeA (bA (upM (ltM (mk a) sz) (mk a) 0)) Try.sizeOf35 rfl rfl (bL_len _) (bL_ones _) (by simp) (by rw [upM_zero]; exact splice_all (by simp [bL]))) ?_
  rintro _ _ rfl
  refine g_nil ?_
  refine g_seq ?_
  refine g_seq ?_
  refine g_reg ?_
  refine g_v (v_assign rfl) rfl ?_
  refine g_nil ?_
  refine g_block ?_
  refine g_loop (α := Nat) (fun k => k ≤ 16) (fun k => U [(1, I sz), (5, ptr b5 0), (6, I k)]) (fun k => pt b5 (.cells (bA (upM (ltM (mk a) sz) (mk a) k)) 35 (0, 0)) :: roL 2 s (rowsA a) :: F) (fun k => 16 - k) 0 (by simp) [1, 5, 6] rfl rfl ?_
  intro k hk
  refine g_seq ?_
  refine g_seq ?_
  refine g_reg ?_
  refine g_v (v_move rfl) rfl ?_
  refine g_v (v_lss rfl rfl) rfl ?_
  refine g_nil ?_
  refine g_cond rfl (fun h10 => ?_) (fun h10 => ?_)
  · simp at h10
    have hk : k < 16 := by omega
    refine g_skip ?_
    refine g_seq ?_
    refine g_block ?_
    refine g_reg ?_
    refine g_v (v_move rfl) rfl ?_
    refine g_v (v_move rfl) rfl ?_
    refine g_v (v_idxA k Try.underlying35 Try.sizeOf4 rfl rfl rfl hk) rfl ?_
    refine g_v (v_load Try.isAgg4 rfl (bA_cell hk)) rfl ?_
    refine g_v (v_move rfl) rfl ?_
    refine g_gv rfl rfl (fun hg => v_move rfl) rfl rfl ?_
    refine g_gv rfl rfl (fun hg => v_move rfl) rfl rfl ?_
    refine g_gv rfl rfl (fun hg => v_lss rfl rfl) rfl rfl ?_
    refine g_v (v_and rfl rfl) rfl ?_
    refine g_v (v_idxA k Try.underlying35 Try.sizeOf4 rfl rfl rfl hk) rfl ?_
    refine g_l0 (l_store (bA (upM (ltM (mk a) sz) (mk a) (k + 1))) Try.sizeOf4 rfl rfl rfl (by simp [bA, bL]; omega) (upM_set _ _ hk _ (by simp [upM, ltM]))) ?_
    rintro _ _ rfl
    refine g_nil ?_
    refine g_blk ?_
    refine g_reg ?_
    refine g_v (v_move rfl) rfl ?_
    refine g_v (v_add rfl rfl (w64 (by omega))) rfl ?_
    refine g_v (v_assign rfl) rfl ?_
    refine g_nil ?_
    exact g_again (k + 1) (by omega) (by omega) [1, 5, 6] rfl rfl
  · simp at h10
    obtain rfl : k = 16 := by omega
    refine g_exit rfl ?_
    refine g_seq ?_
    refine g_reg ?_
    refine g_v (v_loadA (vs := bL (upM (ltM (mk a) sz) (mk a) 16)) Try.isAgg35 Try.sizeOf35 rfl (bL_len _) bA_load) rfl ?_
    refine g_l (l_call (Pre := []) Try.call125 rfl (ct_R_Marks_Areas (upM (ltM (mk a) sz) (mk a) 16))) rfl ?_
    rintro _ _ ⟨s9, c9, rfl, rfl⟩
    rw [show ofM (upM (ltM (mk a) sz) (mk a) 16) = ofM (ltM (mk a) sz) from foldP_ext (fun j hj => by simp [upM, hj]) 16 (Nat.le_refl _)]
    refine g_v (v_assign rfl) rfl ?_
    refine g_nil ?_
    exact g_retSl rfl rfl rfl rfl

theorem ct_R_Page (l : List Area) (s : Option Addr) (cap : Nat) (from_ many : Int) (hl : l.length ≤ 1000000) (hv : okV l) (F : List HProp) : Ct Try.prog 18 [sl s l.length cap, I from_, I many] ([roL 2 s (rowsA l)] ++ F) (RSf (fun v => .tuple #[v, I (pageM (mk l) from_ many).2]) 170 2 (ofM (pageM (mk l) from_ many).1).length (rowsA (ofM (pageM (mk l) from_ many).1)) (roL 2 s (rowsA l) :: F)) := by
  show Ct Try.prog 18 [sl s l.length cap, I from_, I many] (roL 2 s (rowsA l) :: F) _
  refine Ct.of Try.func18 rfl 38 Try.ntmps18 (by simp) fun w0 => ?_
  refine g_seq ?_
  refine g_reg ?_
  refine g_v (v_assign rfl) rfl ?_
  refine g_v (v_assign rfl) rfl ?_
  refine g_nil ?_
  refine g_seq ?_
  refine g_reg ?_
  refine g_v (v_move rfl) rfl ?_
  refine g_l (l_call (Pre := [roL 2 s (rowsA l)]) Try.call24 rfl (ct_R_MarksOf _ _ _ hl hv)) rfl ?_
  rintro _ _ ⟨rfl, rfl⟩
  refine g_l (l_alloc (Array.replicate 16 (Bo false)) Try.zeroValue35) rfl ?_
  rintro _ _ ⟨b8, rfl, rfl⟩
  refine g_l0 (l_storeA (bA (mk l)) Try.sizeOf35 rfl rfl (bL_len _) (bL_ones _) (by simp) (splice_all (by simp [bL]))) ?_
  rintro _ _ rfl
  refine g_nil ?_
  refine g_seq ?_
  refine g_reg ?_
  refine g_l (l_alloc (bA (fun _ => false)) (fun w => by rw [zeroM]; exact Try.zeroValue35 w)) rfl ?_
  rintro _ _ ⟨b9, rfl, rfl⟩
  refine g_nil ?_
  refine g_seq ?_
  refine g_reg ?_
  refine g_v (v_assign rfl) rfl ?_
  refine g_nil ?_
  refine g_seq ?_
  refine g_seq ?_
  refine g_reg ?_
  refine g_v (v_assign rfl) rfl ?_
  refine g_nil ?_
  refine g_block ?_
  refine g_loop (α := Nat × (Nat → Bool) × Nat) (fun z => z.1 ≤ 16 ∧ z.2.2 ≤ z.1 ∧ pageM (mk l) from_ many = pg (mk l) from_ many (16 - z.1) z.1 z.2.1 z.2.2) (fun z => U [(1, I from_), (2, I many), (8, ptr b8 0), (9, ptr b9 0), (10, I z.2.2), (11, I z.1)]) (fun z => pt b9 (.cells (bA z.2.1) 35 (0, 0)) :: pt b8 (.cells (bA (mk l)) 35 (0, 0)) :: roL 2 s (rowsA l) :: F) (fun z => 16 - z.1) (0, (fun _ => false), 0) ⟨by simp, by simp, rfl⟩ [1, 2, 8, 9, 10, 11] rfl rfl ?_
  rintro ⟨k, out, n⟩ ⟨hk16, hn, hpg⟩
  simp only [] at hk16 hn hpg ⊢
  refine g_seq ?_
  refine g_seq ?_
  refine g_reg ?_
  refine g_v (v_move rfl) rfl ?_
  refine g_v (v_lss rfl rfl) rfl ?_
  refine g_nil ?_
  refine g_cond rfl (fun h15 => ?_) (fun h15 => ?_)
  · simp at h15
    have hk : k < 16 := by omega
    rw [pg_step _ _ _ hk] at hpg
    refine g_skip ?_
    refine g_seq ?_
    refine g_block ?_
    refine g_seq ?_
    refine g_reg ?_
    refine g_v (v_move rfl) rfl ?_
    refine g_v (v_idxA k Try.underlying35 Try.sizeOf4 rfl rfl rfl hk) rfl ?_
    refine g_v (v_load Try.isAgg4 rfl (bA_cell hk)) rfl ?_
    refine g_v (v_move rfl) rfl ?_
    refine g_gv rfl rfl (fun hg => v_move rfl) rfl rfl ?_
    refine g_gv rfl rfl (fun hg => v_move rfl) rfl rfl ?_
    refine g_gv rfl rfl (fun hg => v_geq rfl rfl) rfl rfl ?_
    refine g_v (v_and rfl rfl) rfl ?_
    refine g_nil ?_
    refine g_cond rfl (fun h25 => ?_) (fun h25 => ?_)
    · simp at h25
      refine g_seq ?_
      refine g_seq ?_
      refine g_reg ?_
      refine g_v (v_move rfl) rfl ?_
      refine g_v (v_move rfl) rfl ?_
      refine g_v (v_eql rfl rfl) rfl ?_
      refine g_nil ?_
      refine g_cond rfl (fun h28 => ?_) (fun h28 => ?_)
      · simp at h28
        refine g_seq ?_
        refine g_reg ?_
        refine g_v (v_loadA (vs := bL (out)) Try.isAgg35 Try.sizeOf35 rfl (bL_len _) bA_load) rfl ?_
        refine g_l (l_call (Pre := []) Try.call125 rfl (ct_R_Marks_Areas (out))) rfl ?_
        rintro _ _ ⟨s9, c9, rfl, rfl⟩
        refine g_v (v_move rfl) rfl ?_
        refine g_v (v_assign rfl) rfl ?_
        refine g_v (v_assign rfl) rfl ?_
        refine g_nil ?_
        rw [if_neg (by simp [h25]), if_pos h28] at hpg
        rw [hpg]
        exact g_retSf (f := fun v => .tuple #[v, I k]) rfl rfl rfl rfl
      · simp at h28
        refine g_skip ?_
        refine g_seq ?_
        refine g_reg ?_
        refine g_v (v_move rfl) rfl ?_
        refine g_v (v_idxA k Try.underlying35 Try.sizeOf4 rfl rfl rfl hk) rfl ?_
        refine g_l0 (l_store (bA (fun i => if i = k then true else out i)) Try.sizeOf4 rfl rfl rfl (by simp [bA, bL]; omega) (bA_set hk true)) ?_
        rintro _ _ rfl
        refine g_nil ?_
        refine g_reg ?_
        refine g_v (v_move rfl) rfl ?_
        refine g_v (v_add rfl rfl (w64 (by omega))) rfl ?_
        refine g_v (v_assign rfl) rfl ?_
        refine g_nil ?_
        refine g_blk ?_
        refine g_reg ?_
        refine g_v (v_move rfl) rfl ?_
        refine g_v (v_add rfl rfl (w64 (by omega))) rfl ?_
        refine g_v (v_assign rfl) rfl ?_
        refine g_nil ?_
        exact g_again (k + 1, (fun i => if i = k then true else out i), n + 1) ⟨by simp; omega, by simp; omega, by rw [hpg, if_neg (by simp [h25]), if_neg (by omega)]; rfl⟩ (by simp; omega) [1, 2, 8, 9, 10, 11] rfl rfl
    · simp at h25
      refine g_skip ?_
      refine g_blk ?_
      refine g_reg ?_
      refine g_v (v_move rfl) rfl ?_
      refine g_v (v_add rfl rfl (w64 (by omega))) rfl ?_
      refine g_v (v_assign rfl) rfl ?_
      refine g_nil ?_
      exact g_again (k + 1, out, n) ⟨by simp; omega, by simp; omega, by rw [hpg, if_pos (by cases hm : mk l k <;> simp [hm] at h25 ⊢; omega)]⟩ (by simp; omega) [1, 2, 8, 9, 10, 11] rfl rfl
  · simp at h15
    obtain rfl : k = 16 := by omega
    refine g_exit rfl ?_
    refine g_seq ?_
    refine g_reg ?_
    refine g_v (v_loadA (vs := bL (out)) Try.isAgg35 Try.sizeOf35 rfl (bL_len _) bA_load) rfl ?_
    refine g_l (l_call (Pre := []) Try.call125 rfl (ct_R_Marks_Areas (out))) rfl ?_
    rintro _ _ ⟨s9, c9, rfl, rfl⟩
    refine g_v (v_assign rfl) rfl ?_
    refine g_v (v_assign rfl) rfl ?_
    refine g_nil ?_
    have hpg2 : pageM (mk l) from_ many = (out, -1) := hpg
    rw [hpg2]
    exact g_retSf (f := fun v => .tuple #[v, I (-1)]) rfl rfl rfl rfl

theorem ct_L_same (e f : Int) (he : 0 ≤ e) (F : List HProp) : Ct Try.prog 14 [errV e, I f] ([] ++ F) (R1 (Bo (decide (e = f))) F) := by
  show Ct Try.prog 14 [errV e, I f] (F) _
  refine Ct.of Try.func14 rfl 26 Try.ntmps14 (by simp) fun w0 => ?_
  refine g_seq ?_
  refine g_reg ?_
  refine g_v (v_assign rfl) rfl ?_
  refine g_nil ?_
  refine g_seq ?_
  refine g_seq ?_
  refine g_reg ?_
  refine g_v (v_move rfl) rfl ?_
  refine g_v (v_ieql Try.underlying26 rfl) rfl ?_
  refine g_nil ?_
  refine g_cond rfl (fun h8 => ?_) (fun h8 => ?_)
  · simp at h8
    subst h8
    refine g_seq ?_
    refine g_reg ?_
    refine g_v (v_move rfl) rfl ?_
    refine g_v (v_eql rfl rfl) rfl ?_
    refine g_v (v_assign rfl) rfl ?_
    refine g_nil ?_
    refine g_ret1 rfl rfl ?_
    show Bo (decide (f = 0)) = _
    rw [decide_eq_decide.2 (show f = 0 ↔ 0 = f by omega)]
  · simp at h8
    refine g_skip ?_
    refine g_seq ?_
    refine g_reg ?_
    refine g_v (v_move rfl) rfl ?_
    refine g_v (v_assertE Try.underlying172 rfl h8) rfl ?_
    refine g_v (v_move rfl) rfl ?_
    refine g_v (v_extract rfl rfl) rfl ?_
    refine g_v (v_extract rfl rfl) rfl ?_
    refine g_v (v_assign rfl) rfl ?_
    refine g_v (v_assign rfl) rfl ?_
    refine g_nil ?_
    refine g_seq ?_
    refine g_reg ?_
    refine g_v (v_move rfl) rfl ?_
    refine g_v (v_move rfl) rfl ?_
    refine g_gv rfl rfl (fun hg => v_move rfl) rfl rfl ?_
    refine g_gv rfl rfl (fun hg => v_gtr rfl rfl) rfl rfl ?_
    refine g_v (v_and rfl rfl) rfl ?_
    refine g_v (v_move rfl) rfl ?_
    refine g_gv rfl rfl (fun hg => v_move rfl) rfl rfl ?_
    refine g_gv rfl rfl (fun hg => v_move rfl) rfl rfl ?_
    refine g_gv rfl rfl (fun hg => v_eql rfl rfl) rfl rfl ?_
    refine g_v (v_and rfl rfl) rfl ?_
    refine g_v (v_assign rfl) rfl ?_
    refine g_nil ?_
    refine g_ret1 rfl rfl ?_
    show Bo ((true && decide (0 < f)) && decide (e = f)) = _
    by_cases h : e = f
    · subst h; simp; omega
    · simp [h]

theorem ct_L_areas  (F : List HProp) : Ct Try.prog 13 [] ([] ++ F) (R1 (Bo true) F) := by
  show Ct Try.prog 13 [] (F) _
  refine Ct.of Try.func13 rfl 11 Try.ntmps13 (by simp) fun w0 => ?_
  refine g_seq ?_
  refine g_reg ?_
  refine g_v (v_assign rfl) rfl ?_
  refine g_nil ?_
  refine g_seq ?_
  refine g_reg ?_
  refine g_v (v_build rfl (bld170_0_1 _ rfl _ rfl)) rfl ?_
  refine g_l (l_buildSlice (rowsA [⟨1, 2⟩]) Try.underlying22 Try.sizeOf170 Try.zeroValue170 rfl rfl rfl (by simp [rowsA, encA]) (by decide) (by decide)) rfl ?_
  rintro _ _ ⟨b3, rfl, rfl⟩
  refine g_v (v_build rfl (bld170_0_1 _ rfl _ rfl)) rfl ?_
  refine g_l (l_buildSlice (rowsA [⟨3, 1⟩]) Try.underlying22 Try.sizeOf170 Try.zeroValue170 rfl rfl rfl (by simp [rowsA, encA]) (by decide) (by decide)) rfl ?_
  rintro _ _ ⟨b5, rfl, rfl⟩
  refine g_freeze (some ⟨b3, 0, none⟩) ?_
  refine g_freeze (some ⟨b5, 0, none⟩) ?_
  refine g_l (l_call (Pre := [roL 2 (some ⟨b3, 0, none⟩) (rowsA [⟨1, 2⟩]), roL 2 (some ⟨b5, 0, none⟩) (rowsA [⟨3, 1⟩])]) Try.call20 rfl (ct_area_Union [⟨1, 2⟩] [⟨3, 1⟩] (some ⟨b3, 0, none⟩) (some ⟨b5, 0, none⟩) 1 1 (by simp) (by simp) (by simp [okV]) (by simp [okV]))) rfl ?_
  rintro _ _ ⟨s6, c6, rfl, rfl⟩
  refine g_v (v_assign rfl) rfl ?_
  refine g_nil ?_
  refine g_seq ?_
  refine g_reg ?_
  refine g_v (v_move rfl) rfl ?_
  refine g_v (v_build rfl (bld170_0_1 _ rfl _ rfl)) rfl ?_
  refine g_l (l_buildSlice (rowsA [⟨1, 3⟩]) Try.underlying22 Try.sizeOf170 Try.zeroValue170 rfl rfl rfl (by simp [rowsA, encA]) (by decide) (by decide)) rfl ?_
  rintro _ _ ⟨b9, rfl, rfl⟩
  refine g_freeze s6 ?_
  refine g_freeze (some ⟨b9, 0, none⟩) ?_
  refine g_l (l_call (Pre := [roL 2 s6 (rowsA (ofM (orM (mk [⟨1, 2⟩]) (mk [⟨3, 1⟩])))), roL 2 (some ⟨b9, 0, none⟩) (rowsA [⟨1, 3⟩])]) Try.call19 rfl (ct_R_SameAreas _ [⟨1, 3⟩] s6 (some ⟨b9, 0, none⟩) c6 1 (by decide) (by simp))) rfl ?_
  rintro _ _ ⟨rfl, rfl⟩
  refine g_v (v_assign rfl) rfl ?_
  refine g_nil ?_
  refine g_ret1 rfl rfl ?_
  show Bo (decide _) = _
  rw [decide_eq_true (by decide)]

end Go.Proofs.Ythdjckbjjfiopaa
