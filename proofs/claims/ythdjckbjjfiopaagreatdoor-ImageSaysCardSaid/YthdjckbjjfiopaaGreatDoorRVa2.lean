/- Walks through the reference's vault: Again, Drop, Read, Eldest, Copy. No condition. -/
import Derived.Test.YthdjckbjjfiopaaGreatDoorRVa
namespace Go.Proofs.YthdjckbjjfiopaaGreatDoor
open Go.Sl Go.Proofs
set_option linter.unusedVariables false
set_option linter.unusedSimpArgs false
theorem OpL.ofV {c : Cx} {g : Option (Nat × Bool)} {E : Env} {L : List HProp} {o : Oper} {v : Value} (h : OpV c g E L o v) : OpL c g E L o (fun v' L' => v' = v ∧ L' = L) := ⟨fun a w hE hg hS nx Q hn => wp_of_opv h hE hg hS (hn v w L hS ⟨rfl, rfl⟩)⟩
theorem ct_RV_Again (b : Nat) (S : SI) (L : List Pt) (n : Int) (id : Int) (G0 : Gh) (hV : Vok S L n G0) (F : List HProp) : Ct Tryz.prog 28 [ptr b 0, I id] ([rvl b S L n] ++ F) (vR rvl I b F (agnF S L n id)) := by
  show Ct Tryz.prog 28 [ptr b 0, I id] (rvl b S L n :: F) _
  have hok := Vok_ok hV
  have hll := hV.len
  have hn1 := hV.n1
  refine Ct.of Tryz.func28 rfl 44 Tryz.ntmps28 (by simp) fun w0 => ?_
  refine g_seq ?_
  refine g_reg ?_
  refine g_v (v_assign rfl) rfl ?_
  refine g_v (v_assign rfl) rfl ?_
  refine g_nil ?_
  refine g_seq ?_
  refine g_reg ?_
  refine g_v (v_move rfl) rfl ?_
  refine g_v (v_move rfl) rfl ?_
  refine g_l (l_call (Pre := [rvl b S L n]) Tryz.call56 rfl (ct_RV_Find b S L n id (by omega))) rfl ?_
  rintro _ _ ⟨rfl, rfl⟩
  refine g_v (v_move rfl) rfl ?_
  refine g_v (v_extract (v := .agg (encPt ((findP L id).getD pt0)).toArray) rfl rfl) rfl ?_
  refine g_v (v_extract (v := Bo (findP L id).isSome) rfl rfl) rfl ?_
  refine g_l (l_alloc #[I 0, I 0, I 0, I 0] Tryz.zeroValue73) rfl ?_
  rintro _ _ ⟨b6, rfl, rfl⟩
  refine g_l0 (l_storeA (cs := #[I 0, I 0, I 0, I 0]) (vs := encPt (((findP L id).getD pt0))) (encPt (((findP L id).getD pt0))).toArray Tryz.sizeOf73 rfl rfl rfl rfl (by simp) (splice_whole rfl)) ?_
  rintro _ _ rfl
  refine g_v (v_assign rfl) rfl ?_
  refine g_nil ?_
  refine g_seq ?_
  refine g_seq ?_
  refine g_reg ?_
  refine g_v (v_move rfl) rfl ?_
  refine g_v (v_not rfl) rfl ?_
  refine g_nil ?_
  refine g_cond rfl (fun h15 => ?_) (fun h15 => ?_)
  · simp at h15
    refine g_seq ?_
    refine g_reg ?_
    refine g_v (v_assign rfl) rfl ?_
    refine g_v (v_assign rfl) rfl ?_
    refine g_nil ?_
    exact g_nones rfl (by unfold agnF; rw [h15]) rfl rfl
  · simp at h15
    obtain ⟨p, hf⟩ := Option.isSome_iff_exists.1 h15
    have hpm := findP_some hf
    have hps := hV.pts p hpm.1
    rw [show (findP L id).getD pt0 = p by rw [hf]; rfl]
    refine g_skip ?_
    refine g_seq ?_
    refine g_seq ?_
    refine g_openRV b S L n ?_
    intro x s c
    refine g_reg ?_
    refine g_v (v_move rfl) rfl ?_
    refine g_v (v_nilCheck rfl) rfl ?_
    refine g_v (v_fieldAddr 1 Tryz.underlying70 rfl rfl Tryz.sizeOf56 (by decide) rfl) rfl ?_
    refine g_v (v_load (v := sl s (L).length c) Tryz.isAgg56 rfl rfl) rfl ?_
    refine g_v (v_len Tryz.underlying56 rfl) rfl ?_
    refine g_v (v_eql rfl rfl) rfl ?_
    refine g_v (v_move rfl) rfl ?_
    refine g_gv rfl rfl (fun hg => v_move rfl) rfl rfl ?_
    refine g_gv rfl rfl (fun hg => v_nilCheck rfl) rfl rfl ?_
    refine g_gv rfl rfl (fun hg => v_fieldAddr 2 Tryz.underlying70 rfl rfl Tryz.sizeOf3 (by decide) rfl) rfl rfl ?_
    refine g_gv rfl rfl (fun hg => v_load (v := I n) Tryz.isAgg3 rfl rfl) rfl rfl ?_
    refine g_gv rfl rfl (fun hg => v_gtr rfl rfl) rfl rfl ?_
    refine g_v (v_or rfl rfl) rfl ?_
    refine g_nil ?_
    refine g_cond rfl (fun h28 => ?_) (fun h28 => ?_)
    · simp at h28
      have ha : addE L n = 8 := by unfold addE; rw [if_pos (by omega)]
      refine g_seq ?_
      refine g_reg ?_
      refine g_v (v_assign rfl) rfl ?_
      refine g_v (v_assign rfl) rfl ?_
      refine g_nil ?_
      exact g_nones (e := 8) rfl (by unfold agnF; rw [hf]; simp only; rw [if_pos (by omega), ha]) rfl rfl
    · simp at h28
      have ha : addE L n = 0 := by unfold addE; rw [if_neg (by omega)]
      refine g_skip ?_
      refine g_seq ?_
      refine g_draw (Lf := [pt b6 (.cells (encPt (p)).toArray 73 (0, 0))]) [(0, false), (1, false), (2, false), (3, false), (4, false), (5, false), (6, false), (7, false), (9, false), (10, false), (8, true), (11, true), (12, true), (13, false), (14, false), (15, false), (16, false)] (by kernel_rfl) (by kernel_rfl) rfl (by kernel_rfl) ?_
      refine d_v rfl (v_move rfl) rfl ?_
      refine d_v rfl (v_fieldAddr 1 Tryz.underlying73 rfl rfl Tryz.sizeOf3 (by decide) rfl) rfl ?_
      refine d_v rfl (v_load (v := I p.disk) Tryz.isAgg3 rfl rfl) rfl ?_
      refine d_v rfl (v_fieldAddr 2 Tryz.underlying73 rfl rfl Tryz.sizeOf3 (by decide) rfl) rfl ?_
      refine d_v rfl (v_load (v := I p.size) Tryz.isAgg3 rfl rfl) rfl ?_
      refine d_v rfl (v_move rfl) rfl ?_
      refine d_v rfl (v_nilCheck rfl) rfl ?_
      refine d_v rfl (v_fieldAddr 0 Tryz.underlying70 rfl rfl Tryz.sizeOf59 (by decide) rfl) rfl ?_
      refine d_v rfl (v_fieldAddr 3 Tryz.underlying73 rfl rfl Tryz.sizeOf3 (by decide) rfl) rfl ?_
      refine d_v rfl (v_load (v := I p.root) Tryz.isAgg3 rfl rfl) rfl ?_
      refine d_l rfl (OpL.ofV (v_load (v := ptr x 0) Tryz.isAgg59 rfl rfl)) rfl ?_
      rintro _ _ ⟨rfl, rfl⟩
      refine d_l rfl (l_call (Pre := [ixr x (xS S)]) Tryz.call57 rfl (ct_R_Share x S p.root 200 hok (by decide) (rt_rng hV.rt.V (RtRt hV.rt (findP_mem hf))).2)) rfl ?_
      rintro _ _ ⟨rfl, rfl⟩
      refine g_shutRV b x s c (shareS S p.root) (L) (n) ?_
      refine d_l rfl (l_call (Pre := [rvl b (shareS S p.root) L n]) Tryz.call60 rfl (ct_RV_add b (shareS S p.root) L n p.disk p.size p.root (by omega) (by omega))) rfl ?_
      rintro _ _ ⟨rfl, rfl⟩
      rw [show addI L n = n by unfold addI; rw [if_pos ha], show addL L n p.disk p.size p.root = L ++ [(⟨n, p.disk, p.size, p.root⟩ : Pt)] by unfold addL; rw [if_pos ha], show addN L n = n + 1 by unfold addN; rw [if_pos ha], ha]
      refine d_v rfl (v_extract (v := I n) rfl rfl) rfl ?_
      refine d_v rfl (v_extract (v := I 0) rfl rfl) rfl ?_
      refine d_v rfl (v_assign rfl) rfl ?_
      refine d_v rfl (v_assign rfl) rfl ?_
      refine d_nil ?_
      exact g_somes (S := shareS S p.root) (P := L ++ [(⟨n, p.disk, p.size, p.root⟩ : Pt)]) (n := n + 1) rfl (by unfold agnF; rw [hf]; simp only; rw [if_neg (by omega)]) rfl rfl

theorem ct_RV_Drop (b : Nat) (S : SI) (L : List Pt) (n : Int) (id : Int) (G0 : Gh) (hV : Vok S L n G0) (F : List HProp) : Ct Tryz.prog 29 [ptr b 0, I id] ([rvl b S L n] ++ F) (vR1 rvl I b F (drpF S L n id)) := by
  show Ct Tryz.prog 29 [ptr b 0, I id] (rvl b S L n :: F) _
  have hok := Vok_ok hV
  have hll := hV.len
  have hn1 := hV.n1
  refine Ct.of Tryz.func29 rfl 57 Tryz.ntmps29 (by simp) fun w0 => ?_
  refine g_seq ?_
  refine g_reg ?_
  refine g_v (v_assign rfl) rfl ?_
  refine g_nil ?_
  refine g_seq ?_
  refine g_reg ?_
  refine g_v (v_move rfl) rfl ?_
  refine g_v (v_move rfl) rfl ?_
  refine g_l (l_call (Pre := [rvl b S L n]) Tryz.call56 rfl (ct_RV_Find b S L n id (by omega))) rfl ?_
  rintro _ _ ⟨rfl, rfl⟩
  refine g_v (v_move rfl) rfl ?_
  refine g_v (v_extract (v := .agg (encPt ((findP L id).getD pt0)).toArray) rfl rfl) rfl ?_
  refine g_v (v_extract (v := Bo (findP L id).isSome) rfl rfl) rfl ?_
  refine g_l (l_alloc #[I 0, I 0, I 0, I 0] Tryz.zeroValue73) rfl ?_
  rintro _ _ ⟨b5, rfl, rfl⟩
  refine g_l0 (l_storeA (cs := #[I 0, I 0, I 0, I 0]) (vs := encPt (((findP L id).getD pt0))) (encPt (((findP L id).getD pt0))).toArray Tryz.sizeOf73 rfl rfl rfl rfl (by simp) (splice_whole rfl)) ?_
  rintro _ _ rfl
  refine g_v (v_assign rfl) rfl ?_
  refine g_nil ?_
  refine g_seq ?_
  refine g_seq ?_
  refine g_reg ?_
  refine g_v (v_move rfl) rfl ?_
  refine g_v (v_not rfl) rfl ?_
  refine g_nil ?_
  refine g_cond rfl (fun h16 => ?_) (fun h16 => ?_)
  · simp at h16
    refine g_seq ?_
    refine g_reg ?_
    refine g_v (v_assign rfl) rfl ?_
    refine g_nil ?_
    exact g_nones1 rfl (by unfold drpF; rw [h16]) rfl rfl
  · simp at h16
    obtain ⟨p, hf⟩ := Option.isSome_iff_exists.1 h16
    have hpm := findP_some hf
    have hps := hV.pts p hpm.1
    rw [show (findP L id).getD pt0 = p by rw [hf]; rfl]
    refine g_skip ?_
    refine g_seq ?_
    refine g_openRV b S L n ?_
    intro x s c
    refine g_draw (Lf := [pt b (.cells #[ptr x 0, sl s (L).length c, I (n)] 70 (0, 0)), pt b5 (.cells (encPt (p)).toArray 73 (0, 0))]) [(0, false), (1, false), (2, false), (3, false), (4, false), (5, false), (6, true)] (by kernel_rfl) (by kernel_rfl) rfl (by kernel_rfl) ?_
    refine d_v rfl (v_move rfl) rfl ?_
    refine d_v rfl (v_nilCheck rfl) rfl ?_
    refine d_v rfl (v_fieldAddr 0 Tryz.underlying70 rfl rfl Tryz.sizeOf59 (by decide) rfl) rfl ?_
    refine d_v rfl (v_load (v := ptr x 0) Tryz.isAgg59 rfl rfl) rfl ?_
    refine d_v rfl (v_fieldAddr 3 Tryz.underlying73 rfl rfl Tryz.sizeOf3 (by decide) rfl) rfl ?_
    refine d_v rfl (v_load (v := I p.root) Tryz.isAgg3 rfl rfl) rfl ?_
    refine d_l rfl (l_call (Pre := [ixr x (xS S)]) Tryz.call61 rfl (ct_R_Free x S p.root 200 hok (by decide) (rt_rng hV.rt.V (RtRt hV.rt (findP_mem hf))) (by rw [hV.e]; exact rt_kidr hV.rt.V (RtRt hV.rt (findP_mem hf))))) rfl ?_
    rintro _ _ ⟨rfl, rfl⟩
    refine d_nil ?_
    refine g_seq ?_
    refine g_nilown 73 4 (ptR (((L.take 0).filter fun x => !decide (x.id = id)))) rfl ?_
    refine g_reg ?_
    refine g_v (v_assign rfl) rfl ?_
    refine g_nil ?_
    refine g_seq ?_
    refine g_seq ?_
    refine g_reg ?_
    refine g_v (v_assign rfl) rfl ?_
    refine g_nil ?_
    refine g_block ?_
    refine g_loop (α := Nat × Option Addr × Nat) (fun z => z.1 ≤ L.length) (fun z => U [(0, ptr b 0), (1, I id), (7, sl z.2.1 (((L.take z.1).filter fun x => !decide (x.id = id))).length z.2.2), (8, I z.1)]) (fun z => owL 73 4 z.2.1 z.2.2 (ptR (((L.take z.1).filter fun x => !decide (x.id = id)))) :: pt b (.cells #[ptr x 0, sl s (L).length c, I (n)] 70 (0, 0)) :: ixr x (xS (unR S p.root)) :: owL 73 4 s c (ptR (L)) :: F) (fun z => L.length - z.1) (0, none, 0) (by simp) [0, 1, 7, 8] rfl rfl ?_
    rintro ⟨k, s7, c7⟩ hk
    simp only [] at hk ⊢
    have hfl : (((L.take k).filter fun x => !decide (x.id = id))).length ≤ L.length := Nat.le_trans (List.length_filter_le _ _) (by simp; omega)
    refine g_seq ?_
    refine g_seq ?_
    refine g_reg ?_
    refine g_v (v_move rfl) rfl ?_
    refine g_v (v_move rfl) rfl ?_
    refine g_v (v_nilCheck rfl) rfl ?_
    refine g_v (v_fieldAddr 1 Tryz.underlying70 rfl rfl Tryz.sizeOf56 (by decide) rfl) rfl ?_
    refine g_v (v_load (v := sl s (L).length c) Tryz.isAgg56 rfl rfl) rfl ?_
    refine g_v (v_len Tryz.underlying56 rfl) rfl ?_
    refine g_v (v_lss rfl rfl) rfl ?_
    refine g_nil ?_
    refine g_cond rfl (fun h30 => ?_) (fun h30 => ?_)
    · simp at h30
      have hkn : k < L.length := by omega
      obtain ⟨y, hy⟩ : ∃ y, L[k]? = some y := ⟨_, List.getElem?_eq_getElem hkn⟩
      refine g_skip ?_
      refine g_seq ?_
      refine g_block ?_
      refine g_seq ?_
      refine g_reg ?_
      refine g_v (v_move rfl) rfl ?_
      refine g_v (v_nilCheck rfl) rfl ?_
      refine g_v (v_fieldAddr 1 Tryz.underlying70 rfl rfl Tryz.sizeOf56 (by decide) rfl) rfl ?_
      refine g_v (v_load (v := sl s (L).length c) Tryz.isAgg56 rfl rfl) rfl ?_
      refine g_v (v_move rfl) rfl ?_
      refine g_v (v_idxS (k) Tryz.underlying56 Tryz.sizeOf73 rfl rfl rfl hkn (by rw [ptR_len]; exact hkn)) rfl ?_
      refine g_v (v_fieldAdrS (j := k) 0 Tryz.underlying73 rfl rfl Tryz.sizeOf3 (by decide) rfl (by rw [ptR_len]; exact hkn)) rfl ?_
      refine g_v (v_loadS (v := I y.id) Tryz.isAgg3 rfl (ptR_at hy) rfl) rfl ?_
      refine g_v (v_move rfl) rfl ?_
      refine g_v (v_neq rfl rfl) rfl ?_
      refine g_nil ?_
      refine g_cond rfl (fun h42 => ?_) (fun h42 => ?_)
      · simp at h42
        refine g_reg ?_
        refine g_v (v_move rfl) rfl ?_
        refine g_v (v_move rfl) rfl ?_
        refine g_v (v_nilCheck rfl) rfl ?_
        refine g_v (v_fieldAddr 1 Tryz.underlying70 rfl rfl Tryz.sizeOf56 (by decide) rfl) rfl ?_
        refine g_v (v_load (v := sl s (L).length c) Tryz.isAgg56 rfl rfl) rfl ?_
        refine g_v (v_move rfl) rfl ?_
        refine g_v (v_idxS (k) Tryz.underlying56 Tryz.sizeOf73 rfl rfl rfl hkn (by rw [ptR_len]; exact hkn)) rfl ?_
        refine g_v (v_loadAS (row := encPt y) Tryz.isAgg73 Tryz.sizeOf73 rfl (ptR_at hy) rfl) rfl ?_
        refine g_l (l_buildSlice [encPt y] Tryz.underlying56 Tryz.sizeOf73 Tryz.zeroValue73 rfl rfl rfl (by simp) (by decide) (by decide)) rfl ?_
        rintro _ _ ⟨b51, rfl, rfl⟩
        refine g_l (l_append Tryz.underlying56 Tryz.sizeOf73 Tryz.zeroValue73 rfl Tryz.typeInfo73 (by decide) rfl rfl (ptR_len _) rfl (by simp) (by simp [Go.Sl.ones, Go.Sl.one]) ⟨by omega, by decide, by decide⟩) rfl ?_
        rintro _ _ ⟨s52, c52, rfl, rfl⟩
        rw [show ptR (((L.take k).filter fun x => !decide (x.id = id))) ++ [encPt y] = ptR (((L.take (k + 1)).filter fun x => !decide (x.id = id))) by rw [flt_step id hy, if_neg h42]; simp [ptR], show (((L.take k).filter fun x => !decide (x.id = id))).length + 1 = (((L.take (k + 1)).filter fun x => !decide (x.id = id))).length by rw [flt_step id hy, if_neg h42]; simp]
        refine g_v (v_assign rfl) rfl ?_
        refine g_nil ?_
        refine g_blk ?_
        refine g_reg ?_
        refine g_v (v_move rfl) rfl ?_
        refine g_v (v_add rfl rfl (w64 (by omega))) rfl ?_
        refine g_v (v_assign rfl) rfl ?_
        refine g_nil ?_
        exact g_again (k + 1, s52, c52) (by simp only []; omega) (by simp only []; omega) [0, 1, 7, 8] rfl rfl
      · simp at h42
        refine g_skip ?_
        refine g_blk ?_
        refine g_reg ?_
        refine g_v (v_move rfl) rfl ?_
        refine g_v (v_add rfl rfl (w64 (by omega))) rfl ?_
        refine g_v (v_assign rfl) rfl ?_
        refine g_nil ?_
        rw [show ((L.take k).filter fun x => !decide (x.id = id)) = ((L.take (k + 1)).filter fun x => !decide (x.id = id)) by rw [flt_step id hy, if_pos h42, List.append_nil]]
        exact g_again (k + 1, s7, c7) (by simp only []; omega) (by simp only []; omega) [0, 1, 7, 8] rfl rfl
    · simp at h30
      obtain rfl : k = L.length := by omega
      refine g_exit rfl ?_
      refine g_seq ?_
      refine g_reg ?_
      refine g_v (v_move rfl) rfl ?_
      refine g_v (v_move rfl) rfl ?_
      refine g_v (v_nilCheck rfl) rfl ?_
      refine g_v (v_fieldAddr 1 Tryz.underlying70 rfl rfl Tryz.sizeOf56 (by decide) rfl) rfl ?_
      refine g_l0 (l_store #[ptr x 0, sl s7 ((L.take L.length).filter fun x => !decide (x.id = id)).length c7, I n] Tryz.sizeOf56 rfl rfl rfl (by simp) rfl) ?_
      rintro _ _ rfl
      refine g_nil ?_
      refine g_seq ?_
      refine g_reg ?_
      refine g_v (v_assign rfl) rfl ?_
      refine g_nil ?_
      rw [List.take_length]
      refine g_shutRV b x s7 c7 (unR S p.root) ((L.filter fun x => !decide (x.id = id))) (n) ?_
      exact g_somes1 (S := unR S p.root) (P := (L.filter fun x => !decide (x.id = id))) (n := n) (r := 0) rfl (by unfold drpF; rw [hf]) rfl rfl

-- (*counterfoil/counterfoilref.Vault).Read is not in this seat
theorem ct_RV_Copy (b : Nat) (S : SI) (L : List Pt) (n : Int) (hl : L.length ≤ 1000000) (F : List HProp) : Ct Tryz.prog 10 [ptr b 0] ([rvl b S L n] ++ F) (fun v L' => ∃ q, v = ptr q 0 ∧ L' = rvl q S L n :: rvl b S L n :: F) := by
  show Ct Tryz.prog 10 [ptr b 0] (rvl b S L n :: F) _
  refine Ct.of Tryz.func10 rfl 21 Tryz.ntmps10 (by simp) fun w0 => ?_
  refine g_openRV b S L n ?_
  intro x s c
  refine g_seq ?_
  refine g_reg ?_
  refine g_v (v_assign rfl) rfl ?_
  refine g_nil ?_
  refine g_seq ?_
  refine g_reg ?_
  refine g_v (v_move rfl) rfl ?_
  refine g_v (v_nilCheck rfl) rfl ?_
  refine g_v (v_fieldAddr 0 Tryz.underlying70 rfl rfl Tryz.sizeOf59 (by decide) rfl) rfl ?_
  refine g_v (v_load (v := ptr x 0) Tryz.isAgg59 rfl rfl) rfl ?_
  refine g_v (v_nilCheck rfl) rfl ?_
  refine g_v (v_loadA (vs := xL (xS S)) Tryz.isAgg68 Tryz.sizeOf68 rfl (xL_len _) arr_ld) rfl ?_
  refine g_l (l_alloc (xC xZ) zeroX) rfl ?_
  rintro _ _ ⟨b3, rfl, rfl⟩
  refine g_l0 (l_storeA (cs := xC xZ) (vs := xL (xS S)) (xC (xS S)) Tryz.sizeOf68 rfl rfl (xL_len _) (xL_ones _) (by rw [xC_size]; decide) (splice_whole (by rw [xL_len, xC_size]))) ?_
  rintro _ _ rfl
  refine g_nil ?_
  refine g_seq ?_
  refine g_nilown 73 4 [] rfl ?_
  refine g_draw (Lf := [pt b (.cells #[ptr x 0, sl s (L).length c, I (n)] 70 (0, 0))]) [(0, false), (1, false), (2, false), (3, false), (5, false), (6, false), (7, false), (8, false), (4, true), (9, false), (10, true), (11, false)] (by kernel_rfl) (by kernel_rfl) rfl (by kernel_rfl) ?_
  refine d_v rfl (v_move rfl) rfl ?_
  refine d_v rfl (v_nilCheck rfl) rfl ?_
  refine d_v rfl (v_fieldAddr 1 Tryz.underlying70 rfl rfl Tryz.sizeOf56 (by decide) rfl) rfl ?_
  refine d_v rfl (v_load (v := sl s (L).length c) Tryz.isAgg56 rfl rfl) rfl ?_
  refine d_v rfl (v_move rfl) rfl ?_
  refine d_v rfl (v_nilCheck rfl) rfl ?_
  refine d_v rfl (v_fieldAddr 2 Tryz.underlying70 rfl rfl Tryz.sizeOf3 (by decide) rfl) rfl ?_
  refine d_v rfl (v_load (v := I n) Tryz.isAgg3 rfl rfl) rfl ?_
  refine d_l rfl (l_append Tryz.underlying56 Tryz.sizeOf73 Tryz.zeroValue73 rfl Tryz.typeInfo73 (by decide) rfl rfl rfl (ptR_len L) (by simp [ptR]) (by simp [ptR, Go.Sl.ones, Go.Sl.one]) ⟨by omega, by decide, by decide⟩) rfl ?_
  rintro _ _ ⟨s14, c14, rfl, rfl⟩
  rw [Nat.zero_add]
  simp only [List.nil_append]
  refine d_v rfl (v_build rfl (bldRV3 b3 s14 L.length c14 n)) rfl ?_
  refine d_l rfl (l_box #[ptr b3 0, sl s14 L.length c14, I n] rfl rfl) rfl ?_
  rintro _ _ ⟨b20, rfl, rfl⟩
  refine d_v rfl (v_assign rfl) rfl ?_
  refine d_nil ?_
  refine g_shutRV b20 b3 s14 c14 S L n ?_
  refine g_shutRV b x s c (S) (L) (n) ?_
  refine g_sub (L2 := rvl b20 S L n :: rvl b S L n :: F) ?_
  exact fun a w hE hS => wp_ret (kq_ret (res_fpost (vs := [ptr b20 0]) rfl hE hS ⟨b20, rfl, rfl⟩))

theorem ct_R_SamePoints (a b : List Pt) (s s' : Option Addr) (ca cb : Nat) (ha : a.length ≤ 9223372036854775807) (F : List HProp) : Ct Tryz.prog 39 [sl s a.length ca, sl s' b.length cb] ([owL 73 4 s ca (ptR a), owL 73 4 s' cb (ptR b)] ++ F) (R1 (Bo (decide (a = b))) (owL 73 4 s ca (ptR a) :: owL 73 4 s' cb (ptR b) :: F)) := by
  show Ct Tryz.prog 39 [sl s a.length ca, sl s' b.length cb] (owL 73 4 s ca (ptR a) :: owL 73 4 s' cb (ptR b) :: F) _
  refine Ct.of Tryz.func39 rfl 26 Tryz.ntmps39 (by simp) fun w0 => ?_
  refine g_seq ?_
  refine g_reg ?_
  refine g_v (v_assign rfl) rfl ?_
  refine g_nil ?_
  refine g_seq ?_
  refine g_seq ?_
  refine g_reg ?_
  refine g_v (v_move rfl) rfl ?_
  refine g_v (v_len Tryz.underlying56 rfl) rfl ?_
  refine g_v (v_move rfl) rfl ?_
  refine g_v (v_len Tryz.underlying56 rfl) rfl ?_
  refine g_v (v_neq rfl rfl) rfl ?_
  refine g_nil ?_
  refine g_cond rfl (fun h10 => ?_) (fun h10 => ?_)
  · simp at h10
    refine g_seq ?_
    refine g_reg ?_
    refine g_v (v_assign rfl) rfl ?_
    refine g_nil ?_
    refine g_ret1 rfl rfl ?_
    show Bo false = _
    rw [decide_eq_false (fun e => h10 (by rw [e]))]
  · simp at h10
    refine g_skip ?_
    refine g_seq ?_
    refine g_seq ?_
    refine g_reg ?_
    refine g_v (v_assign rfl) rfl ?_
    refine g_nil ?_
    refine g_block ?_
    refine g_loop (α := Nat) (fun k => k ≤ a.length ∧ a.take k = b.take k) (fun k => U [(0, sl s a.length ca), (1, sl s' b.length cb), (5, I k)]) (fun _ => owL 73 4 s ca (ptR a) :: owL 73 4 s' cb (ptR b) :: F) (fun k => a.length - k) 0 ⟨by simp, by simp⟩ [0, 1, 5] rfl rfl ?_
    rintro k ⟨hk, hab⟩
    refine g_seq ?_
    refine g_seq ?_
    refine g_reg ?_
    refine g_v (v_move rfl) rfl ?_
    refine g_v (v_move rfl) rfl ?_
    refine g_v (v_len Tryz.underlying56 rfl) rfl ?_
    refine g_v (v_lss rfl rfl) rfl ?_
    refine g_nil ?_
    refine g_cond rfl (fun h14 => ?_) (fun h14 => ?_)
    · simp at h14
      have h11 : k < a.length := by omega
      obtain ⟨x, hx⟩ : ∃ x, a[k]? = some x := ⟨a[k], by simp⟩
      obtain ⟨y, hy⟩ : ∃ y, b[k]? = some y := ⟨b[k]'(by omega), by simp⟩
      refine g_skip ?_
      refine g_seq ?_
      refine g_block ?_
      refine g_seq ?_
      refine g_drawL [(0, false), (1, false), (2, false), (3, false), (4, false), (5, false), (6, false), (7, false), (8, false)] (by kernel_rfl) (by kernel_rfl) rfl (by kernel_rfl) ?_
      refine d_v rfl (v_move rfl) rfl ?_
      refine d_v rfl (v_move rfl) rfl ?_
      refine d_v rfl (v_idxS k Tryz.underlying56 Tryz.sizeOf73 rfl rfl rfl (by omega) (by rw [ptR_len]; omega)) rfl ?_
      refine d_v rfl (v_loadAS (row := encPt x) Tryz.isAgg73 Tryz.sizeOf73 rfl (ptR_at hx) rfl) rfl ?_
      refine d_v rfl (v_move rfl) rfl ?_
      refine d_v rfl (v_move rfl) rfl ?_
      refine d_v rfl (v_idxS k Tryz.underlying56 Tryz.sizeOf73 rfl rfl rfl (by omega) (by rw [ptR_len]; omega)) rfl ?_
      refine d_v rfl (v_loadAS (row := encPt y) Tryz.isAgg73 Tryz.sizeOf73 rfl (ptR_at hy) rfl) rfl ?_
      refine d_v rfl (v_aneq Tryz.eqGuardType73 rfl rfl (eq_Pt x y)) rfl ?_
      refine d_nil ?_
      refine g_cond rfl (fun h25 => ?_) (fun h25 => ?_)
      · simp at h25
        refine g_seq ?_
        refine g_reg ?_
        refine g_v (v_assign rfl) rfl ?_
        refine g_nil ?_
        refine g_ret1 rfl rfl ?_
        show Bo false = _
        rw [decide_eq_false (fun e => h25 (by subst e; rw [hx] at hy; injection hy))]
      · simp at h25
        refine g_skip ?_
        refine g_blk ?_
        refine g_reg ?_
        refine g_v (v_move rfl) rfl ?_
        refine g_v (v_add rfl rfl (w64 (by omega))) rfl ?_
        refine g_v (v_assign rfl) rfl ?_
        refine g_nil ?_
        exact g_again (k + 1) ⟨by omega, take_nx hab hx hy h25⟩ (by omega) [0, 1, 5] rfl rfl
    · simp at h14
      obtain rfl : k = a.length := by omega
      refine g_exit rfl ?_
      refine g_seq ?_
      refine g_reg ?_
      refine g_v (v_assign rfl) rfl ?_
      refine g_nil ?_
      refine g_ret1 rfl rfl ?_
      show Bo true = _
      rw [List.take_length, show a.length = b.length by omega, List.take_length] at hab
      rw [decide_eq_true hab]

-- (*counterfoil/counterfoilref.Vault).Eldest is not in this seat
end Go.Proofs.YthdjckbjjfiopaaGreatDoor
