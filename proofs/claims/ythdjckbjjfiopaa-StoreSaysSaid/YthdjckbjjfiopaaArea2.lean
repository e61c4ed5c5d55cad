/- Walks through package area's other functions and the reference's functions on areas. No condition. -/
import Derived.Test.YthdjckbjjfiopaaArea
namespace Go.Proofs.Ythdjckbjjfiopaa
open Go.Sl Go.Proofs
set_option linter.unusedVariables false
set_option linter.unusedSimpArgs false
theorem eq_Area (a b : Area) (w : World) : (Op.equal 170 (.agg (encA a).toArray) (.agg (encA b).toArray)).run Try.prog w = .ok (decide (a = b)) w := by
  have h1 := run_eqI (P := Try.prog) (w := w) (a := a.fr) (b := b.fr) 9998 Try.underlying3
  have h2 := run_eqI (P := Try.prog) (w := w) (a := a.many) (b := b.many) 9998 Try.underlying3
  show (Op.equalIn (9999 + 1) _ _ _).run _ _ = _
  unfold Op.equalIn
  simp [encA, underlying, program, Sem.run, Try.underlying170, Try.stoodInHeld170, part, Try.isAgg3, h1, h2]
  cases a; cases b
  rename_i a1 a2 b1 b2
  by_cases e1 : a1 = b1 <;> by_cases e2 : a2 = b2 <;> simp [e1, e2]

def orM (m n : Nat → Bool) (p : Nat) : Bool := m p || n p
def ltM (m : Nat → Bool) (sz : Int) (p : Nat) : Bool := m p && decide ((p : Int) < sz)
def upM (f g : Nat → Bool) (k : Nat) (p : Nat) : Bool := if p < k then f p else g p
theorem upM_set (f g : Nat → Bool) {k : Nat} (h : k < 16) (b : Bool) (hb : b = f k) : (bA (upM f g k)).setIfInBounds (0 + k * 1) (Bo b) = bA (upM f g (k + 1)) := by
  rw [bA_set h]
  apply bA_ext
  intro p hp
  unfold upM
  by_cases h1 : p = k
  · subst h1; simp [hb]
  · simp only [h1, if_false]
    by_cases h2 : p < k
    · rw [if_pos h2, if_pos (by omega)]
    · rw [if_neg h2, if_neg (by omega)]
theorem upM_zero (f g : Nat → Bool) : upM f g 0 = g := by funext p; simp [upM]
theorem upM_all (f g : Nat → Bool) : bA (upM f g 16) = bA f := bA_ext fun j hj => by simp [upM, hj]
theorem foldP_ext {m m' : Nat → Bool} (h : ∀ j, j < 16 → m j = m' j) : ∀ k, k ≤ 16 → foldP m k = foldP m' k
  | 0, _ => rfl
  | k + 1, hk => by simp only [foldP, stepP, foldP_ext h k (by omega), h k (by omega)]

theorem ct_area_Union (a b : List Area) (s s' : Option Addr) (cap cap' : Nat) (ha : a.length ≤ 1000000) (hb : b.length ≤ 1000000) (hva : okV a) (hvb : okV b) (F : List HProp) : Ct Try.prog 20 [sl s a.length cap, sl s' b.length cap'] ([roL 2 s (rowsA a), roL 2 s' (rowsA b)] ++ F) (RSl 170 2 (ofM (orM (mk a) (mk b))).length (rowsA (ofM (orM (mk a) (mk b)))) (roL 2 s (rowsA a) :: roL 2 s' (rowsA b) :: F)) := by
  show Ct Try.prog 20 [sl s a.length cap, sl s' b.length cap'] (roL 2 s (rowsA a) :: roL 2 s' (rowsA b) :: F) _
  refine Ct.of Try.func20 rfl 27 Try.ntmps20 (by simp) fun w0 => ?_
  refine g_seq ?_
  refine g_reg ?_
  refine g_v (v_assign rfl) rfl ?_
  refine g_nil ?_
  refine g_seq ?_
  refine g_reg ?_
  refine g_v (v_move rfl) rfl ?_
  refine g_l (l_call (Pre := [roL 2 s (rowsA a)]) Try.call123 rfl (ct_area_marks _ _ _ ha hva)) rfl ?_
  rintro _ _ ⟨rfl, rfl⟩
  refine g_l (l_alloc (Array.replicate 16 (Bo false)) Try.zeroValue34) rfl ?_
  rintro _ _ ⟨b5, rfl, rfl⟩
  refine g_l0 (l_storeA (bA (upM (orM (mk a) (mk b)) (mk a) 0)) Try.sizeOf34 rfl rfl (bL_len _) (bL_ones _) (by simp) (by rw [upM_zero]; exact splice_all (by simp [bL]))) ?_
  rintro _ _ rfl
  refine g_nil ?_
  refine g_seq ?_
  refine g_seq ?_
  refine g_reg ?_
  refine g_v (v_move rfl) rfl ?_
  refine g_l (l_call (Pre := [roL 2 s' (rowsA b)]) Try.call123 rfl (ct_area_marks _ _ _ hb hvb)) rfl ?_
  rintro _ _ ⟨rfl, rfl⟩
  refine g_v (v_move rfl) rfl ?_
  refine g_nil ?_
  refine g_block ?_
  refine g_loop (α := Nat) (fun k => k ≤ 16) (fun k => U [(5, ptr b5 0), (11, .agg (bA (mk b))), (12, I k)]) (fun k => pt b5 (.cells (bA (upM (orM (mk a) (mk b)) (mk a) k)) 34 (0, 0)) :: roL 2 s (rowsA a) :: roL 2 s' (rowsA b) :: F) (fun k => 16 - k) 0 (by simp) [5, 11, 12] rfl rfl ?_
  intro k hk
  refine g_seq ?_
  refine g_reg ?_
  refine g_v (v_lss rfl rfl) rfl ?_
  refine g_nil ?_
  refine g_seq ?_
  refine g_cond rfl (fun h13 => ?_) (fun h13 => ?_)
  · simp at h13
    have hk : k < 16 := by omega
    refine g_skip ?_
    refine g_seq ?_
    refine g_block ?_
    refine g_seq ?_
    refine g_reg ?_
    refine g_v (v_move rfl) rfl ?_
    refine g_v (v_index k Try.underlying34 Try.sizeOf4 Try.isAgg4 rfl rfl rfl hk (by simpa [bA] using bL_at hk)) rfl ?_
    refine g_v (v_assign rfl) rfl ?_
    refine g_v (v_assign rfl) rfl ?_
    refine g_nil ?_
    refine g_reg ?_
    refine g_v (v_move rfl) rfl ?_
    refine g_v (v_move rfl) rfl ?_
    refine g_v (v_idxA k Try.underlying34 Try.sizeOf4 rfl rfl rfl hk) rfl ?_
    refine g_v (v_load Try.isAgg4 rfl (bA_cell hk)) rfl ?_
    refine g_v (v_move rfl) rfl ?_
    refine g_gv rfl rfl (fun hg => v_move rfl) rfl rfl ?_
    refine g_v (v_or rfl rfl) rfl ?_
    refine g_v (v_idxA k Try.underlying34 Try.sizeOf4 rfl rfl rfl hk) rfl ?_
    refine g_l0 (l_store (bA (upM (orM (mk a) (mk b)) (mk a) (k + 1))) Try.sizeOf4 rfl rfl rfl (by simp [bA, bL]; omega) (upM_set _ _ hk _ (by simp [upM, orM]))) ?_
    rintro _ _ rfl
    refine g_nil ?_
    refine g_blk ?_
    refine g_reg ?_
    refine g_v (v_add rfl rfl (w64 (by omega))) rfl ?_
    refine g_v (v_move rfl) rfl ?_
    refine g_nil ?_
    exact g_again (k + 1) (by omega) (by omega) [5, 11, 12] rfl rfl
  · simp at h13
    obtain rfl : k = 16 := by omega
    refine g_exit rfl ?_
    refine g_seq ?_
    refine g_reg ?_
    refine g_v (v_loadA (vs := bL (upM (orM (mk a) (mk b)) (mk a) 16)) Try.isAgg34 Try.sizeOf34 rfl (bL_len _) bA_load) rfl ?_
    refine g_l (l_call (Pre := []) Try.call124 rfl (ct_area_of (upM (orM (mk a) (mk b)) (mk a) 16))) rfl ?_
    rintro _ _ ⟨s9, c9, rfl, rfl⟩
    rw [show ofM (upM (orM (mk a) (mk b)) (mk a) 16) = ofM (orM (mk a) (mk b)) from foldP_ext (fun j hj => by simp [upM, hj]) 16 (Nat.le_refl _)]
    refine g_v (v_assign rfl) rfl ?_
    refine g_nil ?_
    exact g_retSl rfl rfl rfl rfl

theorem ct_area_Cut (a : List Area) (s : Option Addr) (cap : Nat) (sz : Int) (ha : a.length ≤ 1000000) (hva : okV a) (F : List HProp) : Ct Try.prog 22 [sl s a.length cap, I sz] ([roL 2 s (rowsA a)] ++ F) (RSl 170 2 (ofM (ltM (mk a) sz)).length (rowsA (ofM (ltM (mk a) sz))) (roL 2 s (rowsA a) :: F)) := by
  show Ct Try.prog 22 [sl s a.length cap, I sz] (roL 2 s (rowsA a) :: F) _
  refine Ct.of Try.func22 rfl 25 Try.ntmps22 (by simp) fun w0 => ?_
  refine g_seq ?_
  refine g_reg ?_
  refine g_v (v_assign rfl) rfl ?_
  refine g_nil ?_
  refine g_seq ?_
  refine g_reg ?_
  refine g_v (v_move rfl) rfl ?_
  refine g_l (l_call (Pre := [roL 2 s (rowsA a)]) Try.call123 rfl (ct_area_marks _ _ _ ha hva)) rfl ?_
  rintro _ _ ⟨rfl, rfl⟩
  refine g_l (l_alloc (Array.replicate 16 (Bo false)) Try.zeroValue34) rfl ?_
  rintro _ _ ⟨b5, rfl, rfl⟩
  refine g_l0 (l_storeA (bA (upM (ltM (mk a) sz) (mk a) 0)) Try.sizeOf34 rfl rfl (bL_len _) (bL_ones _) (by simp) (by rw [upM_zero]; exact splice_all (by simp [bL]))) ?_
  rintro _ _ rfl
  refine g_nil ?_
  refine g_seq ?_
  refine g_seq ?_
  refine g_reg ?_
  refine g_v (v_move rfl) rfl ?_
  refine g_nil ?_
  refine g_block ?_
  refine g_loop (α := Nat) (fun k => k ≤ 16) (fun k => U [(1, I sz), (5, ptr b5 0), (9, I k)]) (fun k => pt b5 (.cells (bA (upM (ltM (mk a) sz) (mk a) k)) 34 (0, 0)) :: roL 2 s (rowsA a) :: F) (fun k => 16 - k) 0 (by simp) [1, 5, 9] rfl rfl ?_
  intro k hk
  refine g_seq ?_
  refine g_reg ?_
  refine g_v (v_lss rfl rfl) rfl ?_
  refine g_nil ?_
  refine g_seq ?_
  refine g_cond rfl (fun h10 => ?_) (fun h10 => ?_)
  · simp at h10
    have hk : k < 16 := by omega
    refine g_skip ?_
    refine g_seq ?_
    refine g_block ?_
    refine g_seq ?_
    refine g_reg ?_
    refine g_v (v_move rfl) rfl ?_
    refine g_v (v_assign rfl) rfl ?_
    refine g_nil ?_
    refine g_reg ?_
    refine g_v (v_move rfl) rfl ?_
    refine g_v (v_move rfl) rfl ?_
    refine g_v (v_idxA k Try.underlying34 Try.sizeOf4 rfl rfl rfl hk) rfl ?_
    refine g_v (v_load Try.isAgg4 rfl (bA_cell hk)) rfl ?_
    refine g_v (v_move rfl) rfl ?_
    refine g_gv rfl rfl (fun hg => v_move rfl) rfl rfl ?_
    refine g_gv rfl rfl (fun hg => v_move rfl) rfl rfl ?_
    refine g_gv rfl rfl (fun hg => v_lss rfl rfl) rfl rfl ?_
    refine g_v (v_and rfl rfl) rfl ?_
    refine g_v (v_idxA k Try.underlying34 Try.sizeOf4 rfl rfl rfl hk) rfl ?_
    refine g_l0 (l_store (bA (upM (ltM (mk a) sz) (mk a) (k + 1))) Try.sizeOf4 rfl rfl rfl (by simp [bA, bL]; omega) (upM_set _ _ hk _ (by simp [upM, ltM]))) ?_
    rintro _ _ rfl
    refine g_nil ?_
    refine g_blk ?_
    refine g_reg ?_
    refine g_v (v_add rfl rfl (w64 (by omega))) rfl ?_
    refine g_v (v_move rfl) rfl ?_
    refine g_nil ?_
    exact g_again (k + 1) (by omega) (by omega) [1, 5, 9] rfl rfl
  · simp at h10
    obtain rfl : k = 16 := by omega
    refine g_exit rfl ?_
    refine g_seq ?_
    refine g_reg ?_
    refine g_v (v_loadA (vs := bL (upM (ltM (mk a) sz) (mk a) 16)) Try.isAgg34 Try.sizeOf34 rfl (bL_len _) bA_load) rfl ?_
    refine g_l (l_call (Pre := []) Try.call124 rfl (ct_area_of (upM (ltM (mk a) sz) (mk a) 16))) rfl ?_
    rintro _ _ ⟨s9, c9, rfl, rfl⟩
    rw [show ofM (upM (ltM (mk a) sz) (mk a) 16) = ofM (ltM (mk a) sz) from foldP_ext (fun j hj => by simp [upM, hj]) 16 (Nat.le_refl _)]
    refine g_v (v_assign rfl) rfl ?_
    refine g_nil ?_
    exact g_retSl rfl rfl rfl rfl

end Go.Proofs.Ythdjckbjjfiopaa
