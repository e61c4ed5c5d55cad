/- The walk through the law TopTouched. No condition. -/
import Derived.Test.YthdjckbjjfiopabTouchLaw
namespace Go.Proofs.Ythdjckbjjfiopab
open Go.Sl Go.Proofs
set_option linter.unusedVariables false
set_option linter.unusedSimpArgs false
def actT (x : ActM) : Prop := x.puts.length ≤ 9223372036854775807 ∧ x.changes.length ≤ 9223372036854775807

theorem ct_T_TopTouched (n : Int) (l m : List ActM) (f f' : Nat → ActZ) (s s' : Option Addr) (cap cap' : Nat) (hl : l.length ≤ 9223372036854775807) (hm : m.length ≤ 9223372036854775807) (hla : ∀ x ∈ l, actT x) (hma : ∀ x ∈ m, actT x) (F : List HProp) : Ct Try.prog 7 [I n, sl s l.length cap, sl s' m.length cap'] ([acts s l f, acts s' m f'] ++ F) (R1 (Bo true) (acts s l f :: acts s' m f' :: F)) := by
  show Ct Try.prog 7 [I n, sl s l.length cap, sl s' m.length cap'] (acts s l f :: acts s' m f' :: F) _
  refine Ct.of Try.func7 rfl 116 Try.ntmps7 (by simp) fun w0 => ?_
  refine g_seq ?_
  refine g_reg ?_
  refine g_v (v_assign rfl) rfl ?_
  refine g_nil ?_
  refine g_seq ?_
  refine g_reg ?_
  refine g_l (l_call (Pre := []) Try.call29 rfl (ct_T_tracked)) rfl ?_
  rintro _ _ ⟨rfl, rfl⟩
  refine g_v (v_assign rfl) rfl ?_
  refine g_nil ?_
  refine g_seq ?_
  refine g_seq ?_
  refine g_reg ?_
  refine g_v (v_move rfl) rfl ?_
  refine g_v (v_not rfl) rfl ?_
  refine g_nil ?_
  refine g_cond rfl (fun h21 => ?_) (fun h21 => ?_)
  · simp at h21
  · skip
    refine g_skip ?_
    refine g_seq ?_
    refine g_reg ?_
    refine g_v (v_move rfl) rfl ?_
    refine g_v (v_move rfl) rfl ?_
    refine g_l (l_call (Pre := [acts s l f]) (R := fun F => RChd n l (acts s l f :: F)) Try.call30 rfl (ct_T_changed n l f s cap hl hla)) rfl ?_
    rintro _ _ (⟨rfl, rfl⟩ | ⟨hns, hll, b25, rfl, rfl⟩)
    · skip
      refine g_v (v_move rfl) rfl ?_
      refine g_v (v_extract (v := .pointer none) rfl rfl) rfl ?_
      refine g_v (v_extract (v := Bo false) rfl rfl) rfl ?_
      refine g_v (v_assign rfl) rfl ?_
      refine g_v (v_assign rfl) rfl ?_
      refine g_nil ?_
      refine g_seq ?_
      refine g_seq ?_
      refine g_reg ?_
      refine g_v (v_move rfl) rfl ?_
      refine g_v (v_not rfl) rfl ?_
      refine g_v (v_move rfl) rfl ?_
      refine g_no rfl rfl rfl rfl ?_
      refine g_no rfl rfl rfl rfl ?_
      refine g_no rfl rfl rfl rfl ?_
      refine g_v (v_pk1 rfl rfl rfl) rfl ?_
      refine g_nil ?_
      refine g_cond rfl (fun h34 => ?_) (fun h34 => ?_)
      · skip
        refine g_seq ?_
        refine g_reg ?_
        refine g_v (v_assign rfl) rfl ?_
        refine g_nil ?_
        refine g_ret1 rfl rfl ?_
        exact rfl
      · simp at h34
    · skip
      refine g_v (v_move rfl) rfl ?_
      refine g_v (v_extract (v := ptr b25 0) rfl rfl) rfl ?_
      refine g_v (v_extract (v := Bo true) rfl rfl) rfl ?_
      refine g_v (v_assign rfl) rfl ?_
      refine g_v (v_assign rfl) rfl ?_
      refine g_nil ?_
      refine g_seq ?_
      refine g_seq ?_
      refine g_reg ?_
      refine g_v (v_move rfl) rfl ?_
      refine g_v (v_not rfl) rfl ?_
      refine g_v (v_move rfl) rfl ?_
      refine g_gv1 rfl rfl rfl (v_move rfl) rfl ?_
      refine g_gl rfl rfl rfl (l_call (Pre := [acts s' m f']) Try.call20 rfl (ct_L_LightActs m f' s' cap' 30 hm hma)) rfl ?_
      rintro _ _ ⟨rfl, rfl⟩
      refine g_gv1 rfl rfl rfl (v_not rfl) rfl ?_
      refine g_v (v_or rfl rfl) rfl ?_
      refine g_nil ?_
      refine g_cond rfl (fun h34 => ?_) (fun h34 => ?_)
      · skip
        refine g_seq ?_
        refine g_reg ?_
        refine g_v (v_assign rfl) rfl ?_
        refine g_nil ?_
        refine g_ret1 rfl rfl ?_
        exact rfl
      · simp at h34
        have hml : m.length ≤ 30 := by unfold lightA at h34; simp at h34; omega
        have hok := run_ok n hns l
        refine g_skip ?_
        refine g_seq ?_
        refine g_reg ?_
        refine g_v (v_move rfl) rfl ?_
        refine g_l (l_call (Pre := [vdk b25 ((runD (vdNew n) l))]) Try.call34 rfl (ct_vdisk_Snap b25 (runD (vdNew n) l) (by have := hok.1.2.2.2.1; omega) (by have := hok.1.2.1; omega))) rfl ?_
        rintro _ _ ⟨rfl, rfl⟩
        refine g_v (v_move rfl) rfl ?_
        refine g_v (v_extract (v := I (snI (runD (vdNew n) l))) rfl rfl) rfl ?_
        refine g_v (v_extract (v := errV (snE (runD (vdNew n) l))) rfl rfl) rfl ?_
        refine g_v (v_assign rfl) rfl ?_
        refine g_v (v_assign rfl) rfl ?_
        refine g_nil ?_
        refine g_seq ?_
        refine g_seq ?_
        refine g_reg ?_
        refine g_v (v_move rfl) rfl ?_
        refine g_v (v_ineq Try.underlying29 rfl) rfl ?_
        refine g_nil ?_
        refine g_cond rfl (fun h41 => ?_) (fun h41 => ?_)
        · skip
          refine g_seq ?_
          refine g_reg ?_
          refine g_v (v_assign rfl) rfl ?_
          refine g_nil ?_
          refine g_ret1 rfl rfl ?_
          exact rfl
        · simp at h41
          have he0 : snE (runD (vdNew n) l) = 0 := h41
          refine g_skip ?_
          refine g_seq ?_
          refine g_reg ?_
          refine g_l (l_alloc (bA (fun _ => false)) (fun w => by rw [zeroM]; exact Try.zeroValue72 w)) rfl ?_
          rintro _ _ ⟨b10, rfl, rfl⟩
          refine g_nil ?_
          rw [show (fun _ => false : Nat → Bool) = (snD (runD (vdNew n) l)).dirty by rw [sn_eq he0]]
          refine g_seq ?_
          refine g_seq ?_
          refine g_reg ?_
          refine g_v (v_assign rfl) rfl ?_
          refine g_nil ?_
          refine g_block ?_
          refine g_loop (α := Nat × VdM) (fun z => z.1 ≤ m.length ∧ tch (snD (runD (vdNew n) l)) z.1 z.2) (fun z => U [(2, sl s' m.length cap'), (8, ptr b25 0), (9, I (snI (runD (vdNew n) l))), (11, ptr b10 0), (12, I z.1)]) (fun z => pt b10 (.cells (bA (z.2.dirty)) 72 (0, 0)) :: vdk b25 (z.2) :: acts s l f :: acts s' m f' :: F) (fun z => m.length - z.1) (0, snD (runD (vdNew n) l)) ⟨by simp, vok_mono (vok_sn hok.1) (by omega), iok_sn hok.2, rfl, rfl, rfl⟩ [2, 8, 9, 11, 12] rfl rfl ?_
          rintro ⟨k, D⟩ ⟨hk, ht⟩
          simp only [] at hk ht ⊢
          refine g_seq ?_
          refine g_seq ?_
          refine g_reg ?_
          refine g_v (v_move rfl) rfl ?_
          refine g_v (v_move rfl) rfl ?_
          refine g_v (v_len Try.underlying34 rfl) rfl ?_
          refine g_v (v_lss rfl rfl) rfl ?_
          refine g_nil ?_
          refine g_cond rfl (fun h45 => ?_) (fun h45 => ?_)
          · simp at h45
            have hkn : k < m.length := by omega
            obtain ⟨x, hx⟩ : ∃ x, m[k]? = some x := ⟨_, List.getElem?_eq_getElem hkn⟩
            have hkr : k < (actR m f').length := by rw [actR_len]; exact hkn
            refine g_skip ?_
            refine g_seq ?_
            refine g_block ?_
            refine g_seq ?_
            refine g_reg ?_
            refine g_v (v_move rfl) rfl ?_
            refine g_v (v_move rfl) rfl ?_
            refine g_v (v_idxS k Try.underlying34 Try.sizeOf46 rfl rfl rfl hkn hkr) rfl ?_
            refine g_v (v_loadAS (row := encAct x (f' k)) Try.isAgg46 Try.sizeOf46 rfl (actR_at hx) rfl) rfl ?_
            refine g_l (l_alloc #[Str [], Str [], I 0, I 0, I 0, I 0, .int .u64 0, sl none 0 0, sl none 0 0] Try.zeroValue46) rfl ?_
            rintro _ _ ⟨b13, rfl, rfl⟩
            refine g_l0 (l_storeA (cs := #[Str [], Str [], I 0, I 0, I 0, I 0, .int .u64 0, sl none 0 0, sl none 0 0]) (vs := encAct x (f' k)) (encAct x (f' k)).toArray Try.sizeOf46 rfl rfl rfl rfl (by simp) (splice_all rfl)) ?_
            rintro _ _ rfl
            refine g_nil ?_
            refine g_seq ?_
            refine g_reg ?_
            refine g_v (v_fieldAddr 0 Try.underlying46 rfl rfl Try.sizeOf9 (by decide) rfl) rfl ?_
            refine g_v (v_load (v := Str x.kind) Try.isAgg9 rfl rfl) rfl ?_
            refine g_nil ?_
            refine g_block ?_
            refine g_seq ?_
            refine g_reg ?_
            refine g_v (v_seql rfl rfl) rfl ?_
            refine g_v (v_assign rfl) rfl ?_
            refine g_nil ?_
            refine g_cut (α := VdM) (fun D' => tch (snD (runD (vdNew n) l)) (k + 1) D') (fun D' => U [(2, sl s' m.length cap'), (8, ptr b25 0), (9, I (snI (runD (vdNew n) l))), (11, ptr b10 0), (12, I k)]) (fun D' => pt b10 (.cells (bA (D'.dirty)) 72 (0, 0)) :: vdk b25 (D') :: acts s l f :: acts s' m f' :: F) ?_ ?_
            · skip
              refine g_cond rfl (fun h54 => ?_) (fun h54 => ?_)
              · skip
                refine g_seq ?_
                refine g_reg ?_
                refine g_v (v_move rfl) rfl ?_
                refine g_v (v_fieldAddr 2 Try.underlying46 rfl rfl Try.sizeOf3 (by decide) rfl) rfl ?_
                refine g_v (v_load (v := I x.a) Try.isAgg3 rfl rfl) rfl ?_
                refine g_v (v_fieldAddr 1 Try.underlying46 rfl rfl Try.sizeOf9 (by decide) rfl) rfl ?_
                refine g_v (v_load (v := Str x.s) Try.isAgg9 rfl rfl) rfl ?_
                refine g_l (l_call (Pre := [vdk b25 (D)]) Try.call37 rfl (ct_vdisk_Write b25 D x.a x.s ht.1.1.2)) rfl ?_
                rintro _ _ ⟨rfl, rfl⟩
                refine g_v (v_ieql Try.underlying29 rfl) rfl ?_
                refine g_nil ?_
                refine g_cond rfl (fun h62 => ?_) (fun h62 => ?_)
                · simp at h62
                  have hxa : 0 ≤ x.a ∧ x.a < D.size := by unfold wrE at h62; split at h62 <;> omega
                  have hsz := ht.1.1
                  refine g_reg ?_
                  refine g_v (v_fieldAddr 2 Try.underlying46 rfl rfl Try.sizeOf3 (by decide) rfl) rfl ?_
                  refine g_v (v_load (v := I x.a) Try.isAgg3 rfl rfl) rfl ?_
                  refine g_v (v_idxA x.a.toNat Try.underlying72 Try.sizeOf4 rfl rfl (by omega) (by omega)) rfl ?_
                  refine g_l0 (l_store (bA (areaM D.dirty x.a 1)) Try.sizeOf4 rfl rfl rfl (by simp [bA, bL]; omega) (by rw [bA_set (by omega), mark_one _ hxa.1])) ?_
                  rintro _ _ rfl
                  refine g_nil ?_
                  rw [show areaM D.dirty x.a 1 = (wrD D x.a x.s).dirty by unfold wrD; rw [if_pos h62]]
                  exact g_here (wrD D x.a x.s) (tch_mono (tch_wr ht _ _)) [2, 8, 9, 11, 12] rfl rfl
                · simp at h62
                  refine g_skip ?_
                  rw [show wrD D x.a x.s = D by unfold wrD; rw [if_neg h62]]
                  exact g_here (D) (tch_mono ht) [2, 8, 9, 11, 12] rfl rfl
              · skip
                refine g_seq ?_
                refine g_reg ?_
                refine g_v (v_seql rfl rfl) rfl ?_
                refine g_v (v_assign rfl) rfl ?_
                refine g_nil ?_
                refine g_cond rfl (fun h66 => ?_) (fun h66 => ?_)
                · skip
                  refine g_seq ?_
                  refine g_reg ?_
                  refine g_v (v_move rfl) rfl ?_
                  refine g_l (l_call (Pre := [vdk b25 (D)]) Try.call38 rfl (ct_vdisk_Size b25 D)) rfl ?_
                  rintro _ _ ⟨rfl, rfl⟩
                  refine g_v (v_assign rfl) rfl ?_
                  refine g_nil ?_
                  refine g_seq ?_
                  refine g_reg ?_
                  refine g_v (v_move rfl) rfl ?_
                  refine g_v (v_fieldAddr 2 Try.underlying46 rfl rfl Try.sizeOf3 (by decide) rfl) rfl ?_
                  refine g_v (v_load (v := I x.a) Try.isAgg3 rfl rfl) rfl ?_
                  refine g_l (l_call (Pre := [vdk b25 (D)]) Try.call39 rfl (ct_vdisk_Resize b25 D x.a ht.1.1)) rfl ?_
                  rintro _ _ ⟨rfl, rfl⟩
                  refine g_v (v_ieql Try.underlying29 rfl) rfl ?_
                  refine g_nil ?_
                  refine g_cond rfl (fun h74 => ?_) (fun h74 => ?_)
                  · simp at h74
                    have hxr : 1 ≤ x.a ∧ x.a ≤ 16 := by unfold rsE at h74; split at h74 <;> omega
                    refine g_seq ?_
                    refine g_reg ?_
                    refine g_v (v_move rfl) rfl ?_
                    refine g_v (v_fieldAddr 2 Try.underlying46 rfl rfl Try.sizeOf3 (by decide) rfl) rfl ?_
                    refine g_v (v_load (v := I x.a) Try.isAgg3 rfl rfl) rfl ?_
                    refine g_v (v_min rfl rfl) rfl ?_
                    refine g_v (v_assign rfl) rfl ?_
                    refine g_nil ?_
                    rw [show (if x.a < D.size then x.a else D.size) = (loS D x.a) by unfold loS; split <;> split <;> omega]
                    have hlh : 1 ≤ (loS D x.a) ∧ (loS D x.a) ≤ (hiS D x.a) ∧ (hiS D x.a) ≤ 16 := by have := ht.1.1; unfold loS hiS; split <;> split <;> omega
                    rw [show bA D.dirty = bA (areaM D.dirty (loS D x.a) ((loS D x.a) - (loS D x.a))) by rw [areaM_zero (by omega)]]
                    refine g_block ?_
                    refine g_loop (α := Int) (fun z => (loS D x.a) ≤ z ∧ z ≤ (hiS D x.a)) (fun z => U [(2, sl s' m.length cap'), (8, ptr b25 0), (9, I (snI (runD (vdNew n) l))), (11, ptr b10 0), (12, I k), (13, ptr b13 0), (14, I D.size), (15, I z)]) (fun z => pt b13 (.cells (encAct x (f' k)).toArray 46 (0, 0)) :: pt b10 (.cells (bA (areaM D.dirty (loS D x.a) (z - (loS D x.a)))) 72 (0, 0)) :: vdk b25 (rsD D x.a) :: acts s l f :: acts s' m f' :: F) (fun z => ((hiS D x.a) - z).toNat) (loS D x.a) ⟨by omega, by omega⟩ [2, 8, 9, 11, 12, 13, 14, 15] rfl rfl ?_
                    rintro z ⟨hz1, hz2⟩
                    refine g_seq ?_
                    refine g_seq ?_
                    refine g_reg ?_
                    refine g_v (v_move rfl) rfl ?_
                    refine g_v (v_move rfl) rfl ?_
                    refine g_v (v_fieldAddr 2 Try.underlying46 rfl rfl Try.sizeOf3 (by decide) rfl) rfl ?_
                    refine g_v (v_load (v := I x.a) Try.isAgg3 rfl rfl) rfl ?_
                    refine g_v (v_max rfl rfl) rfl ?_
                    refine g_v (v_lss rfl rfl) rfl ?_
                    refine g_nil ?_
                    refine g_cond rfl (fun h84 => ?_) (fun h84 => ?_)
                    · simp only [decide_eq_true_eq] at h84
                      rw [show (if D.size < x.a then x.a else D.size) = (hiS D x.a) by unfold hiS; split <;> split <;> omega] at h84
                      refine g_skip ?_
                      refine g_seq ?_
                      refine g_block ?_
                      refine g_reg ?_
                      refine g_v (v_move rfl) rfl ?_
                      refine g_v (v_idxA z.toNat Try.underlying72 Try.sizeOf4 rfl rfl (by omega) (by omega)) rfl ?_
                      refine g_l0 (l_store (bA (areaM D.dirty (loS D x.a) (z + 1 - (loS D x.a)))) Try.sizeOf4 rfl rfl rfl (by simp [bA, bL]; omega) (by rw [bA_set (by omega), mark_next _ (by omega) (by omega)])) ?_
                      rintro _ _ rfl
                      refine g_nil ?_
                      refine g_blk ?_
                      refine g_reg ?_
                      refine g_v (v_move rfl) rfl ?_
                      refine g_v (v_add rfl rfl (w64 (by omega))) rfl ?_
                      refine g_v (v_assign rfl) rfl ?_
                      refine g_nil ?_
                      exact g_again (z + 1) ⟨by omega, by omega⟩ (by omega) [2, 8, 9, 11, 12, 13, 14, 15] rfl rfl
                    · simp only [decide_eq_false_iff_not] at h84
                      rw [show (if D.size < x.a then x.a else D.size) = (hiS D x.a) by unfold hiS; split <;> split <;> omega] at h84
                      obtain rfl : z = (hiS D x.a) := by omega
                      refine g_exit rfl ?_
                      rw [show areaM D.dirty (loS D x.a) ((hiS D x.a) - (loS D x.a)) = (rsD D x.a).dirty by unfold rsD; rw [if_pos h74]]
                      exact g_here (rsD D x.a) (tch_mono (tch_rs ht _)) [2, 8, 9, 11, 12] rfl rfl
                  · simp at h74
                    refine g_skip ?_
                    rw [show rsD D x.a = D by unfold rsD; rw [if_neg h74]]
                    exact g_here (D) (tch_mono ht) [2, 8, 9, 11, 12] rfl rfl
                · skip
                  refine g_skip ?_
                  exact g_here (D) (tch_mono ht) [2, 8, 9, 11, 12] rfl rfl
            rintro D' ht'
            refine g_blk ?_
            refine g_blk ?_
            refine g_reg ?_
            refine g_v (v_move rfl) rfl ?_
            refine g_v (v_add rfl rfl (w64 (by omega))) rfl ?_
            refine g_v (v_assign rfl) rfl ?_
            refine g_nil ?_
            exact g_again (k + 1, D') ⟨by simp; omega, ht'⟩ (by simp; omega) [2, 8, 9, 11, 12] rfl rfl
          · simp at h45
            obtain rfl : k = m.length := by omega
            refine g_exit rfl ?_
            refine g_seq ?_
            refine g_reg ?_
            refine g_v (v_move rfl) rfl ?_
            refine g_l (l_call (Pre := [vdk b25 (D)]) Try.call34 rfl (ct_vdisk_Snap b25 D (by have := ht.1.2.2.2.1; omega) (by have := ht.1.2.1; omega))) rfl ?_
            rintro _ _ ⟨rfl, rfl⟩
            refine g_v (v_move rfl) rfl ?_
            refine g_v (v_extract (v := I (snI D)) rfl rfl) rfl ?_
            refine g_v (v_extract (v := errV (snE D)) rfl rfl) rfl ?_
            refine g_v (v_assign rfl) rfl ?_
            refine g_v (v_assign rfl) rfl ?_
            refine g_nil ?_
            refine g_seq ?_
            refine g_seq ?_
            refine g_reg ?_
            refine g_v (v_move rfl) rfl ?_
            refine g_v (v_ineq Try.underlying29 rfl) rfl ?_
            refine g_nil ?_
            refine g_cond rfl (fun h95 => ?_) (fun h95 => ?_)
            · skip
              refine g_seq ?_
              refine g_reg ?_
              refine g_v (v_assign rfl) rfl ?_
              refine g_nil ?_
              refine g_ret1 rfl rfl ?_
              exact rfl
            · simp at h95
              have hEA := touch_fin hok.2 he0 ht h95
              refine g_skip ?_
              refine g_seq ?_
              refine g_reg ?_
              refine g_v (v_move rfl) rfl ?_
              refine g_v (v_move rfl) rfl ?_
              refine g_v (v_move rfl) rfl ?_
              refine g_l (l_call (Pre := [vdk b25 (snD D)]) Try.call35 rfl (ct_vdisk_Changed b25 (snD D) (snI (runD (vdNew n) l)) (snI D) (by have := (vok_sn ht.1).2.2.2.1; omega))) rfl ?_
              rintro _ _ ⟨s100, c100, rfl, rfl⟩
              rw [hEA.1, hEA.2]
              refine g_freeze s100 ?_
              refine g_v (v_move rfl) rfl ?_
              refine g_v (v_extract (v := sl s100 (ofM D.dirty).length c100) rfl rfl) rfl ?_
              refine g_v (v_extract (v := errV 0) rfl rfl) rfl ?_
              refine g_v (v_assign rfl) rfl ?_
              refine g_v (v_assign rfl) rfl ?_
              refine g_nil ?_
              refine g_seq ?_
              refine g_seq ?_
              refine g_reg ?_
              refine g_v (v_move rfl) rfl ?_
              refine g_v (v_ineq Try.underlying29 rfl) rfl ?_
              refine g_nil ?_
              refine g_cond rfl (fun h104 => ?_) (fun h104 => ?_)
              · simp at h104
              · skip
                refine g_skip ?_
                refine g_seq ?_
                refine g_seq ?_
                refine g_reg ?_
                refine g_v (v_assign rfl) rfl ?_
                refine g_nil ?_
                refine g_block ?_
                refine g_loop (α := Nat) (fun k => k ≤ 16) (fun k => U [(11, ptr b10 0), (17, sl s100 (ofM D.dirty).length c100), (18, I k)]) (fun k => roL 2 s100 (rowsA (ofM D.dirty)) :: pt b10 (.cells (bA (D.dirty)) 72 (0, 0)) :: acts s l f :: acts s' m f' :: F) (fun k => 16 - k) 0 (by simp) [11, 17, 18] rfl rfl ?_
                intro k hk16
                refine g_seq ?_
                refine g_seq ?_
                refine g_reg ?_
                refine g_v (v_move rfl) rfl ?_
                refine g_v (v_lss rfl rfl) rfl ?_
                refine g_nil ?_
                refine g_cond rfl (fun h106 => ?_) (fun h106 => ?_)
                · simp at h106
                  have hk : k < 16 := by omega
                  refine g_skip ?_
                  refine g_seq ?_
                  refine g_block ?_
                  refine g_seq ?_
                  refine g_draw (Lf := pt b10 (.cells (bA (D.dirty)) 72 (0, 0)) :: F) [(0, false), (1, false), (3, false), (4, false), (5, false), (2, true), (6, false)] (by kernel_rfl) (by kernel_rfl) rfl (by kernel_rfl) ?_
                  refine d_v rfl (v_move rfl) rfl ?_
                  refine d_v rfl (v_move rfl) rfl ?_
                  refine d_v rfl (v_move rfl) rfl ?_
                  refine d_v rfl (v_idxA k Try.underlying72 Try.sizeOf4 rfl rfl rfl hk) rfl ?_
                  refine d_v rfl (v_load Try.isAgg4 rfl (bA_cell hk)) rfl ?_
                  refine d_l rfl (l_call (Pre := [roL 2 s100 (rowsA (ofM D.dirty))]) (R := fun F => R1 (Bo (hasA (ofM D.dirty) (k : Int))) (roL 2 s100 (rowsA (ofM D.dirty)) :: F)) Try.call40 rfl (ct_area_Has (ofM D.dirty) s100 c100 (k : Int) (by simp [ok64]; omega) (ofM_len _) (okV_ofM _))) rfl ?_
                  rintro _ _ ⟨rfl, rfl⟩
                  rw [hasA_ofM _ hk]
                  refine d_v rfl (v_bneq Try.underlying4 rfl rfl) rfl ?_
                  refine d_nil ?_
                  refine g_cond rfl (fun h115 => ?_) (fun h115 => ?_)
                  · simp at h115
                  · skip
                    refine g_skip ?_
                    refine g_blk ?_
                    refine g_reg ?_
                    refine g_v (v_move rfl) rfl ?_
                    refine g_v (v_add rfl rfl (w64 (by omega))) rfl ?_
                    refine g_v (v_assign rfl) rfl ?_
                    refine g_nil ?_
                    exact g_again (k + 1) (by omega) (by omega) [11, 17, 18] rfl rfl
                · skip
                  refine g_exit rfl ?_
                  refine g_seq ?_
                  refine g_reg ?_
                  refine g_v (v_assign rfl) rfl ?_
                  refine g_nil ?_
                  refine g_ret1 rfl rfl ?_
                  exact rfl

end Go.Proofs.Ythdjckbjjfiopab
