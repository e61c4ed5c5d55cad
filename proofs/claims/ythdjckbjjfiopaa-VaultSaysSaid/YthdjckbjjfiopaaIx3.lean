/- The walk through package index: Diff. No condition. -/
import Derived.Test.YthdjckbjjfiopaaIx2
namespace Go.Proofs.Ythdjckbjjfiopaa
open Go.Sl Go.Proofs
set_option linter.unusedVariables false
set_option linter.unusedSimpArgs false
def dT (S : SI) (a b : Int) (t : Nat) : List Int := ((List.range t).filter fun t => !decide (getS S a t = getS S b t)).map fun t : Nat => (t : Int)
theorem dT_len (S : SI) (a b : Int) (t : Nat) : (dT S a b t).length ≤ t := by
  unfold dT
  rw [List.length_map]
  exact Nat.le_trans (List.length_filter_le _ _) (by simp)
theorem dT_hit {S : SI} {a b : Int} {t : Nat} (h : getS S a t ≠ getS S b t) : dT S a b t ++ [(t : Int)] = dT S a b (t + 1) := by
  unfold dT
  rw [List.range_succ, List.filter_append, List.map_append, List.filter_cons_of_pos (by simp [h])]
  rfl
theorem dT_miss {S : SI} {a b : Int} {t : Nat} (h : getS S a t = getS S b t) : dT S a b t = dT S a b (t + 1) := by
  unfold dT
  rw [List.range_succ, List.filter_append, List.map_append, List.filter_cons_of_neg (by simp [h])]
  simp
theorem dT_four {S : SI} {a b : Int} {i : Nat} (h : kat (gN S.N a) i = kat (gN S.N b) i) : dT S a b (i * 4) = dT S a b ((i + 1) * 4) := by
  have key : ∀ k, k < 4 → getS S a (i * 4 + k) = getS S b (i * 4 + k) := fun k hk => by
    have e : (i * 4 + k) / 4 = i := by omega
    unfold getS
    rw [e, h]
  rw [show i * 4 = i * 4 + 0 from rfl, dT_miss (key 0 (by omega)), dT_miss (key 1 (by omega)), dT_miss (key 2 (by omega)), dT_miss (key 3 (by omega))]
  congr 1
  omega

theorem ct_index_Index_Diff (b : Nat) (S : SI) (x y m : Int) (hok : okS m S) (hm : m ≤ 1000000) (F : List HProp) : Ct Try.prog 99 [ptr b 0, I x, I y] ([ixl b S] ++ F) (RSl 3 1 (diffS S x y).length (intR (diffS S x y)) (ixl b S :: F)) := by
  show Ct Try.prog 99 [ptr b 0, I x, I y] (ixl b S :: F) _
  refine Ct.of Try.func99 rfl 60 Try.ntmps99 (by simp) fun w0 => ?_
  refine g_nilown 3 1 (intR (dT S x y (0 * 4))) rfl ?_
  refine g_seq ?_
  refine g_reg ?_
  refine g_v (v_assign rfl) rfl ?_
  refine g_nil ?_
  refine g_seq ?_
  refine g_reg ?_
  refine g_v (v_assign rfl) rfl ?_
  refine g_nil ?_
  refine g_seq ?_
  refine g_seq ?_
  refine g_reg ?_
  refine g_v (v_move rfl) rfl ?_
  refine g_nil ?_
  refine g_block ?_
  refine g_loop (α := Nat × Option Addr × Nat) (fun z => z.1 ≤ 4) (fun z => U [(0, ptr b 0), (1, I x), (2, I y), (7, sl z.2.1 (dT S x y (z.1 * 4)).length z.2.2), (13, I z.1)]) (fun z => owL 3 1 z.2.1 z.2.2 (intR (dT S x y (z.1 * 4))) :: ixl b S :: F) (fun z => 4 - z.1) (0, none, 0) (by simp) [0, 1, 2, 7, 13] rfl rfl ?_
  rintro ⟨i, s, c⟩ hi
  simp only [] at hi ⊢
  refine g_seq ?_
  refine g_reg ?_
  refine g_v (v_lss rfl rfl) rfl ?_
  refine g_nil ?_
  refine g_seq ?_
  refine g_cond rfl (fun h14 => ?_) (fun h14 => ?_)
  · simp at h14
    have hi4 : i < 4 := by omega
    refine g_skip ?_
    refine g_seq ?_
    refine g_block ?_
    refine g_seq ?_
    refine g_reg ?_
    refine g_v (v_move rfl) rfl ?_
    refine g_v (v_assign rfl) rfl ?_
    refine g_nil ?_
    refine g_seq ?_
    refine g_openX b (S) ?_
    intro p r
    refine g_drawL [(0, false), (1, false), (2, false), (3, false), (4, false), (5, false), (6, false), (7, false), (8, false), (9, false), (10, false), (11, false), (12, false), (13, false), (14, false), (15, false), (16, false), (17, false), (18, false), (19, false)] (by kernel_rfl) (by kernel_rfl) rfl (by kernel_rfl) ?_
    refine d_v rfl (v_move rfl) rfl ?_
    refine d_v rfl (v_nilCheck rfl) rfl ?_
    refine d_v rfl (v_fieldAddr 1 Try.underlying215 rfl rfl Try.sizeOf213 (by decide) rfl) rfl ?_
    refine d_v rfl (v_load (v := .map (some r)) Try.isAgg213 rfl rfl) rfl ?_
    refine d_v rfl (v_move rfl) rfl ?_
    refine d_v rfl (v_lookup (v := encN (gN S.N (x))) Try.underlying213 Try.underlying3 Try.zeroValue126 rfl rfl (lkN hok.2.2.1 _)) rfl ?_
    refine d_v rfl (v_fieldA (kdC (gN S.N x)) Try.underlying126 rfl Try.isAgg124 Try.sizeOf124 rfl (ndC_kids _)) rfl ?_
    refine d_v rfl (v_move rfl) rfl ?_
    refine d_v rfl (v_index (v := I (kat (gN S.N x) (i))) (i) Try.underlying124 Try.sizeOf3 Try.isAgg3 rfl rfl rfl hi4 (by simpa using kdC_at (gN S.N x) (i) hi4)) rfl ?_
    refine d_v rfl (v_move rfl) rfl ?_
    refine d_v rfl (v_nilCheck rfl) rfl ?_
    refine d_v rfl (v_fieldAddr 1 Try.underlying215 rfl rfl Try.sizeOf213 (by decide) rfl) rfl ?_
    refine d_v rfl (v_load (v := .map (some r)) Try.isAgg213 rfl rfl) rfl ?_
    refine d_v rfl (v_move rfl) rfl ?_
    refine d_v rfl (v_lookup (v := encN (gN S.N (y))) Try.underlying213 Try.underlying3 Try.zeroValue126 rfl rfl (lkN hok.2.2.1 _)) rfl ?_
    refine d_v rfl (v_fieldA (kdC (gN S.N y)) Try.underlying126 rfl Try.isAgg124 Try.sizeOf124 rfl (ndC_kids _)) rfl ?_
    refine d_v rfl (v_move rfl) rfl ?_
    refine d_v rfl (v_index (v := I (kat (gN S.N y) (i))) (i) Try.underlying124 Try.sizeOf3 Try.isAgg3 rfl rfl rfl hi4 (by simpa using kdC_at (gN S.N y) (i) hi4)) rfl ?_
    refine d_v rfl (v_assign rfl) rfl ?_
    refine d_v rfl (v_assign rfl) rfl ?_
    refine d_nil ?_
    refine g_shutX p r b (S) (.refl _) ?_
    refine g_seq ?_
    refine g_seq ?_
    refine g_reg ?_
    refine g_v (v_move rfl) rfl ?_
    refine g_v (v_move rfl) rfl ?_
    refine g_v (v_eql rfl rfl) rfl ?_
    refine g_nil ?_
    refine g_cond rfl (fun h36 => ?_) (fun h36 => ?_)
    · simp at h36
      refine g_exit rfl ?_
      refine g_reg ?_
      refine g_v (v_add rfl rfl (w64 (by omega))) rfl ?_
      refine g_v (v_move rfl) rfl ?_
      refine g_nil ?_
      rw [dT_four h36]
      exact g_again (i + 1, s, c) (by simp only []; omega) (by simp only []; omega) [0, 1, 2, 7, 13] rfl rfl
    · simp at h36
      refine g_skip ?_
      refine g_seq ?_
      refine g_reg ?_
      refine g_v (v_move rfl) rfl ?_
      refine g_nil ?_
      refine g_block ?_
      refine g_loop (α := Nat × Option Addr × Nat) (fun z => z.1 ≤ 4) (fun z => U [(0, ptr b 0), (1, I x), (2, I y), (7, sl z.2.1 (dT S x y (i * 4 + z.1)).length z.2.2), (8, I i), (13, I i), (37, I z.1)]) (fun z => owL 3 1 z.2.1 z.2.2 (intR (dT S x y (i * 4 + z.1))) :: ixl b S :: F) (fun z => 4 - z.1) (0, s, c) (by simp) [0, 1, 2, 7, 8, 13, 37] rfl rfl ?_
      rintro ⟨k, s2, c2⟩ hk
      simp only [] at hk ⊢
      refine g_seq ?_
      refine g_reg ?_
      refine g_v (v_lss rfl rfl) rfl ?_
      refine g_nil ?_
      refine g_seq ?_
      refine g_cond rfl (fun h38 => ?_) (fun h38 => ?_)
      · simp at h38
        refine g_skip ?_
        refine g_seq ?_
        refine g_block ?_
        refine g_seq ?_
        refine g_reg ?_
        refine g_v (v_move rfl) rfl ?_
        refine g_v (v_assign rfl) rfl ?_
        refine g_nil ?_
        refine g_seq ?_
        refine g_reg ?_
        refine g_v (v_move rfl) rfl ?_
        refine g_v (v_mul rfl rfl (w64 (by omega))) rfl ?_
        refine g_v (v_move rfl) rfl ?_
        refine g_v (v_add (r := (((i * 4 + k) : Nat) : Int)) rfl rfl (by rw [show ((i : Int) * 4 + (k : Int)) = (((i * 4 + k) : Nat) : Int) by omega]; exact w64 (by omega))) rfl ?_
        refine g_v (v_assign rfl) rfl ?_
        refine g_nil ?_
        refine g_seq ?_
        refine g_reg ?_
        refine g_v (v_move rfl) rfl ?_
        refine g_v (v_move rfl) rfl ?_
        refine g_v (v_move rfl) rfl ?_
        refine g_l (l_call (Pre := [ixl b S]) Try.call97 rfl (ct_index_Index_Get b S x (i * 4 + k) m hok hm (by omega))) rfl ?_
        rintro _ _ ⟨rfl, rfl⟩
        refine g_v (v_move rfl) rfl ?_
        refine g_v (v_move rfl) rfl ?_
        refine g_v (v_move rfl) rfl ?_
        refine g_l (l_call (Pre := [ixl b S]) Try.call97 rfl (ct_index_Index_Get b S y (i * 4 + k) m hok hm (by omega))) rfl ?_
        rintro _ _ ⟨rfl, rfl⟩
        refine g_v (v_sneq rfl rfl) rfl ?_
        refine g_nil ?_
        refine g_cond rfl (fun h52 => ?_) (fun h52 => ?_)
        · simp at h52
          refine g_reg ?_
          refine g_v (v_move rfl) rfl ?_
          refine g_v (v_move rfl) rfl ?_
          refine g_l (l_buildSlice [[I (((i * 4 + k) : Nat) : Int)]] Try.underlying90 Try.sizeOf3 Try.zeroValue3 rfl rfl rfl (by simp) (by decide) (by decide)) rfl ?_
          rintro _ _ ⟨b55, rfl, rfl⟩
          refine g_l (l_append Try.underlying90 Try.sizeOf3 Try.zeroValue3 rfl Try.typeInfo3 (by decide) rfl rfl (intR_len _) rfl (by simp) (by intro r hr; simp at hr; subst hr; rfl) ⟨by have := dT_len S x y (i * 4 + k); omega, by decide, by decide⟩) rfl ?_
          rintro _ _ ⟨s56, c56, rfl, rfl⟩
          refine g_v (v_assign rfl) rfl ?_
          refine g_nil ?_
          refine g_blk ?_
          refine g_reg ?_
          refine g_v (v_add rfl rfl (w64 (by omega))) rfl ?_
          refine g_v (v_move rfl) rfl ?_
          refine g_nil ?_
          rw [show intR (dT S x y (i * 4 + k)) ++ [[I (((i * 4 + k) : Nat) : Int)]] = intR (dT S x y ((i * 4 + k) + 1)) by rw [← dT_hit h52]; simp [intR], show (dT S x y (i * 4 + k)).length + 1 = (dT S x y ((i * 4 + k) + 1)).length by rw [← dT_hit h52]; simp]
          exact g_again (k + 1, s56, c56) (by simp only []; omega) (by simp only []; omega) [0, 1, 2, 7, 8, 13, 37] rfl rfl
        · simp at h52
          refine g_skip ?_
          refine g_blk ?_
          refine g_reg ?_
          refine g_v (v_add rfl rfl (w64 (by omega))) rfl ?_
          refine g_v (v_move rfl) rfl ?_
          refine g_nil ?_
          rw [dT_miss h52]
          exact g_again (k + 1, s2, c2) (by simp only []; omega) (by simp only []; omega) [0, 1, 2, 7, 8, 13, 37] rfl rfl
      · simp at h38
        obtain rfl : k = 4 := by omega
        rw [show i * 4 + 4 = (i + 1) * 4 by omega]
        refine g_exit rfl ?_
        refine g_blk ?_
        refine g_reg ?_
        refine g_v (v_add rfl rfl (w64 (by omega))) rfl ?_
        refine g_v (v_move rfl) rfl ?_
        refine g_nil ?_
        exact g_again (i + 1, s2, c2) (by simp only []; omega) (by simp only []; omega) [0, 1, 2, 7, 13] rfl rfl
  · simp at h14
    obtain rfl : i = 4 := by omega
    refine g_exit rfl ?_
    refine g_seq ?_
    refine g_reg ?_
    refine g_v (v_move rfl) rfl ?_
    refine g_v (v_assign rfl) rfl ?_
    refine g_nil ?_
    rw [show dT S x y (4 * 4) = diffS S x y from rfl]
    exact g_retSl rfl rfl rfl rfl

end Go.Proofs.Ythdjckbjjfiopaa
