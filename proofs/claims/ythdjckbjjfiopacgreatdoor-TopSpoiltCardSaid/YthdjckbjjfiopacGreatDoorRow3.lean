/- Walks through what applies changes to rows: the program's way and the reference's. No condition. -/
import Derived.Test.YthdjckbjjfiopacGreatDoorRow2
namespace Go.Proofs.YthdjckbjjfiopacGreatDoor
open Go Go.Sl Go.Proofs
set_option linter.unusedVariables false
set_option linter.unusedSimpArgs false

theorem ct_R_Applied (l cs : List ChangeM) (s s' : Option Addr) (cap cap' : Nat) (hs : srt l) (hl : l.length ≤ 400) (hc : cs.length ≤ 100) (F : List HProp) : Ct Tryz.prog 24 [sl s l.length cap, sl s' cs.length cap'] ([roL 3 s (chR l), roL 3 s' (chR cs)] ++ F) (RSl 58 3 (apsS l cs).length (chR (apsS l cs)) (roL 3 s (chR l) :: roL 3 s' (chR cs) :: F)) := by
  show Ct Tryz.prog 24 [sl s l.length cap, sl s' cs.length cap'] (roL 3 s (chR l) :: roL 3 s' (chR cs) :: F) _
  refine Ct.of Tryz.func24 rfl 80 Tryz.ntmps24 (by simp) fun w0 => ?_
  refine g_seq ?_
  refine g_reg ?_
  refine g_v (v_assign rfl) rfl ?_
  refine g_nil ?_
  refine g_seq ?_
  refine g_nilown 58 3 [] rfl ?_
  refine g_reg ?_
  refine g_v (v_move rfl) rfl ?_
  refine g_l (l_append Tryz.underlying33 Tryz.sizeOf58 Tryz.zeroValue58 rfl Tryz.typeInfo58 (by decide) rfl rfl rfl (chR_len l) (chR_three l) (chR_ones l) ⟨by omega, by decide, by decide⟩) rfl ?_
  rintro _ _ ⟨s11, c11, rfl, rfl⟩
  rw [Nat.zero_add]
  simp only [List.nil_append]
  show G _ _ _ (owL 58 3 s11 c11 (chR (apsS l (cs.take 0))) :: roL 3 s (chR l) :: roL 3 s' (chR cs) :: F)
  refine g_v (v_assign rfl) rfl ?_
  refine g_nil ?_
  refine g_seq ?_
  refine g_seq ?_
  refine g_reg ?_
  refine g_v (v_assign rfl) rfl ?_
  refine g_nil ?_
  refine g_block ?_
  refine g_loop (α := Nat × Option Addr × Nat) (fun z => z.1 ≤ cs.length) (fun z => U [(1, sl s' cs.length cap'), (5, sl z.2.1 (apsS l (cs.take z.1)).length z.2.2), (6, I z.1)]) (fun z => owL 58 3 z.2.1 z.2.2 (chR (apsS l (cs.take z.1))) :: roL 3 s (chR l) :: roL 3 s' (chR cs) :: F) (fun z => cs.length - z.1) (0, s11, c11) (by simp) [1, 5, 6] rfl rfl ?_
  rintro ⟨k, sA, cA⟩ hk
  simp only [] at hk ⊢
  refine g_seq ?_
  refine g_seq ?_
  refine g_reg ?_
  refine g_v (v_move rfl) rfl ?_
  refine g_v (v_move rfl) rfl ?_
  refine g_v (v_len Tryz.underlying33 rfl) rfl ?_
  refine g_v (v_lss rfl rfl) rfl ?_
  refine g_nil ?_
  refine g_cond rfl (fun h15 => ?_) (fun h15 => ?_)
  · simp at h15
    have hin : k < cs.length := by omega
    obtain ⟨x, hx⟩ : ∃ x, cs[k]? = some x := ⟨_, List.getElem?_eq_getElem hin⟩
    have hir : k < (chR cs).length := by rw [chR_len]; exact hin
    have hnx := aps_take (l := l) hx
    have hRs := (srt_aps hs (cs.take k)).1
    have hRl := (srt_aps hs (cs.take k)).2
    rw [List.length_take] at hRl
    generalize hRd : apsS l (cs.take k) = R at *
    refine g_skip ?_
    refine g_seq ?_
    refine g_block ?_
    refine g_seq ?_
    refine g_reg ?_
    refine g_v (v_assign rfl) rfl ?_
    refine g_nil ?_
    refine g_seq ?_
    refine g_reg ?_
    refine g_v (v_move rfl) rfl ?_
    refine g_v (v_move rfl) rfl ?_
    refine g_v (v_idxS k Tryz.underlying33 Tryz.sizeOf58 rfl rfl rfl hin hir) rfl ?_
    refine g_v (v_fieldAdrS (j := k) 2 Tryz.underlying58 rfl rfl Tryz.sizeOf4 (by decide) rfl hir) rfl ?_
    refine g_v (v_loadS (v := Bo x.gone) Tryz.isAgg4 rfl (chR_at hx) rfl) rfl ?_
    refine g_v (v_assign rfl) rfl ?_
    refine g_nil ?_
    refine g_seq ?_
    refine g_seq ?_
    refine g_nilown 58 3 (chR (nxS x (R.take 0)).2) rfl ?_
    rw [show x.gone = (nxS x (R.take 0)).1 from rfl]
    refine g_reg ?_
    refine g_v (v_assign rfl) rfl ?_
    refine g_nil ?_
    refine g_block ?_
    refine g_loop (α := Nat × Option Addr × Nat) (fun y => y.1 ≤ R.length) (fun y => U [(1, sl s' cs.length cap'), (5, sl sA R.length cA), (6, I k), (7, sl y.2.1 (nxS x (R.take y.1)).2.length y.2.2), (8, Bo (nxS x (R.take y.1)).1), (9, I y.1)]) (fun y => owL 58 3 y.2.1 y.2.2 (chR ((nxS x (R.take y.1)).2)) :: owL 58 3 sA cA (chR (R)) :: roL 3 s (chR l) :: roL 3 s' (chR cs) :: F) (fun y => R.length - y.1) (0, none, 0) (by simp) [1, 5, 6, 7, 8, 9] rfl rfl ?_
    rintro ⟨j, sN, cN⟩ hj
    simp only [] at hj ⊢
    have hN := nx_len x (R.take j) (x.gone, [])
    rw [List.length_take] at hN
    change (nxS x (R.take j)).2.length ≤ 0 + _ at hN
    refine g_seq ?_
    refine g_seq ?_
    refine g_reg ?_
    refine g_v (v_move rfl) rfl ?_
    refine g_v (v_move rfl) rfl ?_
    refine g_v (v_len Tryz.underlying33 rfl) rfl ?_
    refine g_v (v_lss rfl rfl) rfl ?_
    refine g_nil ?_
    refine g_cond rfl (fun h26 => ?_) (fun h26 => ?_)
    · simp at h26
      have hjn : j < R.length := by omega
      obtain ⟨r, hr⟩ : ∃ r, R[j]? = some r := ⟨_, List.getElem?_eq_getElem hjn⟩
      have hjr : j < (chR R).length := by rw [chR_len]; exact hjn
      have hst := nx_take (c := x) hr
      generalize nxS x (R.take j) = z at *
      refine g_skip ?_
      refine g_seq ?_
      refine g_block ?_
      refine g_seq ?_
      refine g_seq ?_
      refine g_drawL [(0, false), (1, false), (2, false), (3, false), (4, false), (5, false), (6, false), (7, false), (8, false), (9, false), (10, false), (11, false), (12, false), (13, false), (14, false)] (by kernel_rfl) (by kernel_rfl) rfl (by kernel_rfl) ?_
      refine d_v rfl (v_move rfl) rfl ?_
      refine d_v rfl (v_not rfl) rfl ?_
      refine d_v rfl (v_move rfl) rfl ?_
      refine d_gv rfl rfl rfl (fun hg => v_move rfl) rfl rfl ?_
      refine d_gv rfl rfl rfl (fun hg => v_move rfl) rfl rfl ?_
      refine d_gv rfl rfl rfl (fun hg => v_idxS k Tryz.underlying33 Tryz.sizeOf58 rfl rfl rfl hin hir) rfl rfl ?_
      refine d_gv rfl rfl rfl (fun hg => v_fieldAdrS (j := k) 0 Tryz.underlying58 rfl rfl Tryz.sizeOf9 (by decide) rfl hir) rfl rfl ?_
      refine d_gv rfl rfl rfl (fun hg => v_loadS (v := Str x.key) Tryz.isAgg9 rfl (chR_at hx) rfl) rfl rfl ?_
      refine d_gv rfl rfl rfl (fun hg => v_move rfl) rfl rfl ?_
      refine d_gv rfl rfl rfl (fun hg => v_move rfl) rfl rfl ?_
      refine d_gv rfl rfl rfl (fun hg => v_idxS j Tryz.underlying33 Tryz.sizeOf58 rfl rfl rfl hjn hjr) rfl rfl ?_
      refine d_gv rfl rfl rfl (fun hg => v_fieldAdrS (j := j) 0 Tryz.underlying58 rfl rfl Tryz.sizeOf9 (by decide) rfl hjr) rfl rfl ?_
      refine d_gv rfl rfl rfl (fun hg => v_loadS (v := Str r.key) Tryz.isAgg9 rfl (chR_at hr) rfl) rfl rfl ?_
      refine d_gv rfl rfl rfl (fun hg => v_sleq rfl rfl) rfl rfl ?_
      refine d_v rfl (v_and rfl rfl) rfl ?_
      refine d_nil ?_
      refine g_cond rfl (fun h43 => ?_) (fun h43 => ?_)
      · skip
        refine g_seq ?_
        refine g_reg ?_
        refine g_v (v_move rfl) rfl ?_
        refine g_v (v_move rfl) rfl ?_
        refine g_v (v_move rfl) rfl ?_
        refine g_v (v_idxS k Tryz.underlying33 Tryz.sizeOf58 rfl rfl rfl hin hir) rfl ?_
        refine g_v (v_loadAS (row := encC x) Tryz.isAgg58 Tryz.sizeOf58 rfl (chR_at hx) rfl) rfl ?_
        refine g_l (l_buildSlice [encC x] Tryz.underlying33 Tryz.sizeOf58 Tryz.zeroValue58 rfl rfl rfl (by simp [encC]) (by decide) (by decide)) rfl ?_
        rintro _ _ ⟨b49, rfl, rfl⟩
        refine g_l (l_append Tryz.underlying33 Tryz.sizeOf58 Tryz.zeroValue58 rfl Tryz.typeInfo58 (by decide) rfl rfl (chR_len _) rfl (by simp [encC]) (by simp [encC, ones, one]) ⟨by omega, by decide, by decide⟩) rfl ?_
        rintro _ _ ⟨s50, c50, rfl, rfl⟩
        rw [chR_snoc2]
        refine g_v (v_assign rfl) rfl ?_
        refine g_nil ?_
        refine g_reg ?_
        refine g_v (v_assign rfl) rfl ?_
        refine g_nil ?_
        refine g_seq ?_
        refine g_drawL [(0, false), (1, false), (2, false), (3, false), (4, false), (5, false), (6, false), (7, false), (8, false), (9, false), (10, false)] (by kernel_rfl) (by kernel_rfl) rfl (by kernel_rfl) ?_
        refine d_v rfl (v_move rfl) rfl ?_
        refine d_v rfl (v_move rfl) rfl ?_
        refine d_v rfl (v_idxS j Tryz.underlying33 Tryz.sizeOf58 rfl rfl rfl hjn hjr) rfl ?_
        refine d_v rfl (v_fieldAdrS (j := j) 0 Tryz.underlying58 rfl rfl Tryz.sizeOf9 (by decide) rfl hjr) rfl ?_
        refine d_v rfl (v_loadS (v := Str r.key) Tryz.isAgg9 rfl (chR_at hr) rfl) rfl ?_
        refine d_v rfl (v_move rfl) rfl ?_
        refine d_v rfl (v_move rfl) rfl ?_
        refine d_v rfl (v_idxS k Tryz.underlying33 Tryz.sizeOf58 rfl rfl rfl hin hir) rfl ?_
        refine d_v rfl (v_fieldAdrS (j := k) 0 Tryz.underlying58 rfl rfl Tryz.sizeOf9 (by decide) rfl hir) rfl ?_
        refine d_v rfl (v_loadS (v := Str x.key) Tryz.isAgg9 rfl (chR_at hx) rfl) rfl ?_
        refine d_v rfl (v_sneq rfl rfl) rfl ?_
        refine d_nil ?_
        refine g_cond rfl (fun h61 => ?_) (fun h61 => ?_)
        · simp at h61
          have h61 : r.key ≠ x.key := h61
          refine g_reg ?_
          refine g_v (v_move rfl) rfl ?_
          refine g_v (v_move rfl) rfl ?_
          refine g_v (v_move rfl) rfl ?_
          refine g_v (v_idxS j Tryz.underlying33 Tryz.sizeOf58 rfl rfl rfl hjn hjr) rfl ?_
          refine g_v (v_loadAS (row := encC r) Tryz.isAgg58 Tryz.sizeOf58 rfl (chR_at hr) rfl) rfl ?_
          refine g_l (l_buildSlice [encC r] Tryz.underlying33 Tryz.sizeOf58 Tryz.zeroValue58 rfl rfl rfl (by simp [encC]) (by decide) (by decide)) rfl ?_
          rintro _ _ ⟨b67, rfl, rfl⟩
          refine g_l (l_append Tryz.underlying33 Tryz.sizeOf58 Tryz.zeroValue58 rfl Tryz.typeInfo58 (by decide) rfl rfl (by simp [chR]) rfl (by simp [encC]) (by simp [encC, ones, one]) ⟨by omega, by decide, by decide⟩) rfl ?_
          rintro _ _ ⟨s68, c68, rfl, rfl⟩
          rw [chR_snoc2]
          refine g_v (v_assign rfl) rfl ?_
          refine g_nil ?_
          refine g_blk ?_
          refine g_reg ?_
          refine g_v (v_move rfl) rfl ?_
          refine g_v (v_add rfl rfl (w64 (by omega))) rfl ?_
          refine g_v (v_assign rfl) rfl ?_
          refine g_nil ?_
          have hE0 : nxS x (R.take (j + 1)) = _ := hst.trans (step_tt h43 h61)
          rw [show z.2 ++ [x] ++ [r] = (nxS x (R.take (j + 1))).2 by rw [hE0]]
          exact g_again (j + 1, s68, c68) (by simp only []; omega) (by simp only []; omega) [1, 5, 6, 7, 8, 9] rfl (by rw [hE0] <;> simp [U])
        · simp at h61
          have h61' : ¬ r.key ≠ x.key := fun hh => hh h61
          refine g_skip ?_
          refine g_blk ?_
          refine g_reg ?_
          refine g_v (v_move rfl) rfl ?_
          refine g_v (v_add rfl rfl (w64 (by omega))) rfl ?_
          refine g_v (v_assign rfl) rfl ?_
          refine g_nil ?_
          have hE0 : nxS x (R.take (j + 1)) = _ := hst.trans (step_tf h43 h61')
          rw [show z.2 ++ [x] = (nxS x (R.take (j + 1))).2 by rw [hE0]]
          exact g_again (j + 1, s50, c50) (by simp only []; omega) (by simp only []; omega) [1, 5, 6, 7, 8, 9] rfl (by rw [hE0] <;> simp [U])
      · have h43' : ¬ (!z.1 && (kl x.key r.key || decide (x.key = r.key))) = true := by rw [h43]; simp
        refine g_skip ?_
        refine g_seq ?_
        refine g_drawL [(0, false), (1, false), (2, false), (3, false), (4, false), (5, false), (6, false), (7, false), (8, false), (9, false), (10, false)] (by kernel_rfl) (by kernel_rfl) rfl (by kernel_rfl) ?_
        refine d_v rfl (v_move rfl) rfl ?_
        refine d_v rfl (v_move rfl) rfl ?_
        refine d_v rfl (v_idxS j Tryz.underlying33 Tryz.sizeOf58 rfl rfl rfl hjn hjr) rfl ?_
        refine d_v rfl (v_fieldAdrS (j := j) 0 Tryz.underlying58 rfl rfl Tryz.sizeOf9 (by decide) rfl hjr) rfl ?_
        refine d_v rfl (v_loadS (v := Str r.key) Tryz.isAgg9 rfl (chR_at hr) rfl) rfl ?_
        refine d_v rfl (v_move rfl) rfl ?_
        refine d_v rfl (v_move rfl) rfl ?_
        refine d_v rfl (v_idxS k Tryz.underlying33 Tryz.sizeOf58 rfl rfl rfl hin hir) rfl ?_
        refine d_v rfl (v_fieldAdrS (j := k) 0 Tryz.underlying58 rfl rfl Tryz.sizeOf9 (by decide) rfl hir) rfl ?_
        refine d_v rfl (v_loadS (v := Str x.key) Tryz.isAgg9 rfl (chR_at hx) rfl) rfl ?_
        refine d_v rfl (v_sneq rfl rfl) rfl ?_
        refine d_nil ?_
        refine g_cond rfl (fun h61 => ?_) (fun h61 => ?_)
        · simp at h61
          have h61 : r.key ≠ x.key := h61
          refine g_reg ?_
          refine g_v (v_move rfl) rfl ?_
          refine g_v (v_move rfl) rfl ?_
          refine g_v (v_move rfl) rfl ?_
          refine g_v (v_idxS j Tryz.underlying33 Tryz.sizeOf58 rfl rfl rfl hjn hjr) rfl ?_
          refine g_v (v_loadAS (row := encC r) Tryz.isAgg58 Tryz.sizeOf58 rfl (chR_at hr) rfl) rfl ?_
          refine g_l (l_buildSlice [encC r] Tryz.underlying33 Tryz.sizeOf58 Tryz.zeroValue58 rfl rfl rfl (by simp [encC]) (by decide) (by decide)) rfl ?_
          rintro _ _ ⟨b67, rfl, rfl⟩
          refine g_l (l_append Tryz.underlying33 Tryz.sizeOf58 Tryz.zeroValue58 rfl Tryz.typeInfo58 (by decide) rfl rfl (by simp [chR]) rfl (by simp [encC]) (by simp [encC, ones, one]) ⟨by omega, by decide, by decide⟩) rfl ?_
          rintro _ _ ⟨s68, c68, rfl, rfl⟩
          rw [chR_snoc2]
          refine g_v (v_assign rfl) rfl ?_
          refine g_nil ?_
          refine g_blk ?_
          refine g_reg ?_
          refine g_v (v_move rfl) rfl ?_
          refine g_v (v_add rfl rfl (w64 (by omega))) rfl ?_
          refine g_v (v_assign rfl) rfl ?_
          refine g_nil ?_
          have hE0 : nxS x (R.take (j + 1)) = _ := hst.trans (step_ft h43' h61)
          rw [show z.2 ++ [r] = (nxS x (R.take (j + 1))).2 by rw [hE0]]
          exact g_again (j + 1, s68, c68) (by simp only []; omega) (by simp only []; omega) [1, 5, 6, 7, 8, 9] rfl (by rw [hE0] <;> simp [U])
        · simp at h61
          have h61' : ¬ r.key ≠ x.key := fun hh => hh h61
          refine g_skip ?_
          refine g_blk ?_
          refine g_reg ?_
          refine g_v (v_move rfl) rfl ?_
          refine g_v (v_add rfl rfl (w64 (by omega))) rfl ?_
          refine g_v (v_assign rfl) rfl ?_
          refine g_nil ?_
          rw [show z = nxS x (R.take (j + 1)) by rw [hst, step_ff h43' h61']]
          exact g_again (j + 1, sN, cN) (by simp only []; omega) (by simp only []; omega) [1, 5, 6, 7, 8, 9] rfl rfl
    · simp at h26
      obtain rfl : j = R.length := by omega
      have hA := nx_all hRs x
      rw [List.take_length] at hN ⊢
      generalize nxS x R = z at *
      refine g_exit rfl ?_
      refine g_seq ?_
      refine g_seq ?_
      refine g_reg ?_
      refine g_v (v_move rfl) rfl ?_
      refine g_v (v_not rfl) rfl ?_
      refine g_nil ?_
      refine g_cond rfl (fun h70 => ?_) (fun h70 => ?_)
      · simp at h70
        have hE1 : apsS l (cs.take (k + 1)) = z.2 ++ [x] := by rw [hnx, ← hA]; unfold endN; rw [if_neg (by rw [h70]; simp)]
        refine g_reg ?_
        refine g_v (v_move rfl) rfl ?_
        refine g_v (v_move rfl) rfl ?_
        refine g_v (v_move rfl) rfl ?_
        refine g_v (v_idxS k Tryz.underlying33 Tryz.sizeOf58 rfl rfl rfl hin hir) rfl ?_
        refine g_v (v_loadAS (row := encC x) Tryz.isAgg58 Tryz.sizeOf58 rfl (chR_at hx) rfl) rfl ?_
        refine g_l (l_buildSlice [encC x] Tryz.underlying33 Tryz.sizeOf58 Tryz.zeroValue58 rfl rfl rfl (by simp [encC]) (by decide) (by decide)) rfl ?_
        rintro _ _ ⟨b76, rfl, rfl⟩
        refine g_l (l_append Tryz.underlying33 Tryz.sizeOf58 Tryz.zeroValue58 rfl Tryz.typeInfo58 (by decide) rfl rfl (chR_len _) rfl (by simp [encC]) (by simp [encC, ones, one]) ⟨by omega, by decide, by decide⟩) rfl ?_
        rintro _ _ ⟨s77, c77, rfl, rfl⟩
        rw [chR_snoc2]
        refine g_v (v_assign rfl) rfl ?_
        refine g_nil ?_
        refine g_reg ?_
        refine g_v (v_move rfl) rfl ?_
        refine g_v (v_assign rfl) rfl ?_
        refine g_nil ?_
        refine g_blk ?_
        refine g_reg ?_
        refine g_v (v_move rfl) rfl ?_
        refine g_v (v_add rfl rfl (w64 (by omega))) rfl ?_
        refine g_v (v_assign rfl) rfl ?_
        refine g_nil ?_
        rw [show z.2.length + 1 = (apsS l (cs.take (k + 1))).length by rw [hE1]; simp, show z.2 ++ [x] = apsS l (cs.take (k + 1)) from hE1.symm]
        exact g_again (k + 1, s77, c77) (by simp only []; omega) (by simp only []; omega) [1, 5, 6] rfl rfl
      · simp at h70
        have hE1 : apsS l (cs.take (k + 1)) = z.2 := by rw [hnx, ← hA]; unfold endN; rw [if_pos h70]
        refine g_skip ?_
        refine g_reg ?_
        refine g_v (v_move rfl) rfl ?_
        refine g_v (v_assign rfl) rfl ?_
        refine g_nil ?_
        refine g_blk ?_
        refine g_reg ?_
        refine g_v (v_move rfl) rfl ?_
        refine g_v (v_add rfl rfl (w64 (by omega))) rfl ?_
        refine g_v (v_assign rfl) rfl ?_
        refine g_nil ?_
        rw [show z.2 = apsS l (cs.take (k + 1)) from hE1.symm]
        exact g_again (k + 1, sN, cN) (by simp only []; omega) (by simp only []; omega) [1, 5, 6] rfl rfl
  · simp at h15
    obtain rfl : k = cs.length := by omega
    rw [List.take_length]
    refine g_exit rfl ?_
    refine g_seq ?_
    refine g_reg ?_
    refine g_v (v_move rfl) rfl ?_
    refine g_v (v_assign rfl) rfl ?_
    refine g_nil ?_
    exact g_retSl rfl rfl rfl rfl

end Go.Proofs.YthdjckbjjfiopacGreatDoor
