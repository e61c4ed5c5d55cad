/- The walk through the law AreaSays: it returns true and leaves what was there as it was, for areas whose numbers are ints. No condition besides. -/
import Derived.Test.YthdjckbjjfiopaaArea5
namespace Go.Proofs.Ythdjckbjjfiopaa
open Go.Sl Go.Proofs
set_option linter.unusedVariables false
set_option linter.unusedSimpArgs false
/-- how many are marked below k -/
def cM (m : Nat → Bool) : Nat → Nat
  | 0 => 0
  | k + 1 => cM m k + if m k = true then 1 else 0
theorem cM_or {m n : Nat → Bool} (h : ∀ p, m p = true → n p = true → False) : ∀ k, cM (fun p => m p || n p) k = cM m k + cM n k
  | 0 => rfl
  | k + 1 => by
    simp only [cM, cM_or h k]
    have := h k
    rcases Bool.eq_false_or_eq_true (m k) with h1 | h1 <;> rcases Bool.eq_false_or_eq_true (n k) with h2 | h2 <;> simp only [h1, h2, Bool.or_true, Bool.or_false, Bool.true_or, Bool.false_or, Bool.false_eq_true, if_true, if_false] at this ⊢ <;> first | omega | exact (this trivial trivial).elim
theorem cM_int {f c : Int} (h0 : 0 ≤ f) (h1 : 0 ≤ c) : ∀ k : Nat, (cM (fun p => decide (f ≤ p ∧ (p : Int) < f + c)) k : Int) = if (k : Int) < f then 0 else if (k : Int) < f + c then k - f else c
  | 0 => by simp only [cM]; split <;> (try split) <;> omega
  | k + 1 => by
    have ih := cM_int h0 h1 k
    simp only [cM]
    have e : ((k + 1 : Nat) : Int) = (k : Int) + 1 := by omega
    by_cases h : f ≤ (k : Int) ∧ (k : Int) < f + c
    · rw [if_neg (by omega), if_pos h.2] at ih
      rw [if_pos (decide_eq_true h), e, if_neg (by omega)]
      by_cases h5 : (k : Int) + 1 < f + c
      · rw [if_pos h5]; omega
      · rw [if_neg h5]; omega
    · rw [if_neg (by rw [decide_eq_false h]; decide), e]
      by_cases h4 : (k : Int) < f
      · rw [if_pos h4] at ih
        by_cases h5 : (k : Int) + 1 < f
        · rw [if_pos h5]; omega
        · rw [if_neg h5]
          by_cases h6 : (k : Int) + 1 < f + c
          · rw [if_pos h6]; omega
          · rw [if_neg h6]; omega
      · rw [if_neg h4, if_neg (by omega)] at ih
        rw [if_neg (by omega), if_neg (by omega)]; omega
theorem cM_le (m : Nat → Bool) : ∀ k, cM m k ≤ k
  | 0 => Nat.le_refl _
  | k + 1 => by have := cM_le m k; simp only [cM]; split <;> omega
theorem chk_ok : ∀ {l : List Area} {e : Int}, chkA e l = 0 → okV l ∧ ∀ a ∈ l, e < a.fr
  | [], e, _ => by simp [okV]
  | a :: l, e, h => by
    unfold chkA at h
    split at h
    · omega
    · split at h
      · omega
      · rename_i h1 h2
        obtain ⟨h3, h4⟩ := chk_ok h
        refine ⟨fun b hb => ?_, fun b hb => ?_⟩
        · rcases List.mem_cons.1 hb with rfl | hb
          · omega
          · exact h3 b hb
        · rcases List.mem_cons.1 hb with rfl | hb
          · omega
          · have := h4 b hb; omega
theorem cnt_ok : ∀ {l : List Area} {e : Int}, chkA e l = 0 → cntA l = cM (mk l) 16
  | [], e, _ => by
    have : ∀ k, cM (mk []) k = 0 := fun k => by induction k with
      | zero => rfl
      | succ k ih => simp [cM, ih, mk]
    simp [cntA, this]
  | a :: l, e, h => by
    have hv := (chk_ok h).1 a (by simp)
    have h' := h
    unfold chkA at h
    split at h
    · omega
    · split at h
      · omega
      · have ih := cnt_ok h
        have hl := (chk_ok h).2
        have e1 : mk (a :: l) = fun p : Nat => decide (a.fr ≤ p ∧ (p : Int) < a.fr + a.many) || mk l p := by funext p; simp [mk]
        have e2 := cM_int (f := a.fr) (c := a.many) (by omega) (by omega) 16
        rw [e1, cM_or]
        · simp only [cntA, ih]
          split at e2
          · omega
          · split at e2 <;> omega
        · intro p h1 h2
          simp only [mk, List.any_eq_true, decide_eq_true_eq] at h1 h2
          obtain ⟨b, hb, h2⟩ := h2
          have := hl b hb
          omega
theorem chkA_nn : ∀ (l : List Area) (e : Int), 0 ≤ chkA e l
  | [], _ => by simp [chkA]
  | a :: l, e => by unfold chkA; split; omega; split; omega; exact chkA_nn l _
theorem hasA_out {l : List Area} (h : okV l) {n : Int} (hn : n < 0 ∨ 16 ≤ n) : hasA l n = false := by
  simp only [hasA, List.any_eq_false]
  intro a ha
  have := h a ha
  simp; omega

theorem ofM_len (m : Nat → Bool) : (ofM m).length ≤ 1000000 := by have := (foldP_ok m 16).1; show (foldP m 16).length ≤ _; omega

theorem ct_L_AreaSays (a b : List Area) (s s' : Option Addr) (cap cap' : Nat) (n many : Int) (hoa : okA a) (hob : okA b) (hn : ok64 n) (F : List HProp) : Ct Try.prog 3 [sl s a.length cap, sl s' b.length cap', I n, I many] ([roL 2 s (rowsA a), roL 2 s' (rowsA b)] ++ F) (R1 (Bo true) (roL 2 s (rowsA a) :: roL 2 s' (rowsA b) :: F)) := by
  show Ct Try.prog 3 [sl s a.length cap, sl s' b.length cap', I n, I many] (roL 2 s (rowsA a) :: roL 2 s' (rowsA b) :: F) _
  refine Ct.of Try.func3 rfl 134 Try.ntmps3 (by simp) fun w0 => ?_
  refine g_seq ?_
  refine g_reg ?_
  refine g_v (v_assign rfl) rfl ?_
  refine g_nil ?_
  refine g_seq ?_
  refine g_reg ?_
  refine g_l (l_call (Pre := []) Try.call13 rfl (ct_L_areas)) rfl ?_
  rintro _ _ ⟨rfl, rfl⟩
  refine g_v (v_assign rfl) rfl ?_
  refine g_nil ?_
  refine g_seq ?_
  refine g_seq ?_
  refine g_reg ?_
  refine g_v (v_move rfl) rfl ?_
  refine g_v (v_not rfl) rfl ?_
  refine g_v (v_move rfl) rfl ?_
  refine g_gv rfl rfl (fun hg => v_move rfl) rfl rfl ?_
  refine g_gv rfl rfl (fun hg => v_len Try.underlying22 rfl) rfl rfl ?_
  refine g_gv rfl rfl (fun hg => v_gtr rfl rfl) rfl rfl ?_
  refine g_v (v_or rfl rfl) rfl ?_
  refine g_v (v_move rfl) rfl ?_
  refine g_gv rfl rfl (fun hg => v_move rfl) rfl rfl ?_
  refine g_gv rfl rfl (fun hg => v_len Try.underlying22 rfl) rfl rfl ?_
  refine g_gv rfl rfl (fun hg => v_gtr rfl rfl) rfl rfl ?_
  refine g_v (v_or rfl rfl) rfl ?_
  refine g_nil ?_
  refine g_cond rfl (fun h29 => ?_) (fun h29 => ?_)
  · skip
    refine g_seq ?_
    refine g_reg ?_
    refine g_v (v_move rfl) rfl ?_
    refine g_v (v_assign rfl) rfl ?_
    refine g_nil ?_
    refine g_ret1 rfl rfl ?_
    exact rfl
  · simp at h29
    have hla : a.length ≤ 1000000 := by omega
    have hlb : b.length ≤ 1000000 := by omega
    refine g_skip ?_
    refine g_seq ?_
    refine g_seq ?_
    refine g_reg ?_
    refine g_v (v_move rfl) rfl ?_
    refine g_l (l_call (Pre := [roL 2 s (rowsA a)]) Try.call15 rfl (ct_area_Check a s cap hla hoa)) rfl ?_
    rintro _ _ ⟨rfl, rfl⟩
    refine g_v (v_move rfl) rfl ?_
    refine g_l (l_call (Pre := [roL 2 s (rowsA a)]) Try.call16 rfl (ct_R_AreasFault a s cap hla hoa)) rfl ?_
    rintro _ _ ⟨rfl, rfl⟩
    refine g_l (l_call (Pre := []) Try.call14 rfl (ct_L_same _ _ (chkA_nn _ _))) rfl ?_
    rintro _ _ ⟨rfl, rfl⟩
    refine g_v (v_not rfl) rfl ?_
    refine g_v (v_move rfl) rfl ?_
    refine g_gv1 rfl rfl (by simp) (v_move rfl) rfl ?_
    refine g_gl rfl rfl (by simp) (l_call (Pre := [roL 2 s' (rowsA b)]) Try.call15 rfl (ct_area_Check b s' cap' hlb hob)) rfl ?_
    rintro _ _ ⟨rfl, rfl⟩
    refine g_gv1 rfl rfl (by simp) (v_move rfl) rfl ?_
    refine g_gl rfl rfl (by simp) (l_call (Pre := [roL 2 s' (rowsA b)]) Try.call16 rfl (ct_R_AreasFault b s' cap' hlb hob)) rfl ?_
    rintro _ _ ⟨rfl, rfl⟩
    refine g_gl rfl rfl (by simp) (l_call (Pre := []) Try.call14 rfl (ct_L_same _ _ (chkA_nn _ _))) rfl ?_
    rintro _ _ ⟨rfl, rfl⟩
    refine g_gv1 rfl rfl (by simp) (v_not rfl) rfl ?_
    refine g_v (v_or rfl rfl) rfl ?_
    refine g_nil ?_
    refine g_cond rfl (fun h44 => ?_) (fun h44 => ?_)
    · simp at h44
    · skip
      refine g_skip ?_
      refine g_seq ?_
      refine g_seq ?_
      refine g_reg ?_
      refine g_v (v_move rfl) rfl ?_
      refine g_l (l_call (Pre := [roL 2 s (rowsA a)]) Try.call16 rfl (ct_R_AreasFault a s cap hla hoa)) rfl ?_
      rintro _ _ ⟨rfl, rfl⟩
      refine g_v (v_gtr rfl rfl) rfl ?_
      refine g_v (v_move rfl) rfl ?_
      refine g_gv rfl rfl (fun hg => v_move rfl) rfl rfl ?_
      refine g_gq rfl rfl (fun hg => l_call (Pre := [roL 2 s' (rowsA b)]) (R := fun F => R1 (I (chkA (-1) b)) (roL 2 s' (rowsA b) :: F)) Try.call16 rfl (ct_R_AreasFault b s' cap' hlb hob)) rfl rfl ?_
      refine g_gv rfl rfl (fun hg => v_gtr rfl rfl) rfl rfl ?_
      refine g_v (v_or rfl rfl) rfl ?_
      refine g_nil ?_
      refine g_cond rfl (fun h52 => ?_) (fun h52 => ?_)
      · skip
        refine g_seq ?_
        refine g_reg ?_
        refine g_v (v_assign rfl) rfl ?_
        refine g_nil ?_
        refine g_ret1 rfl rfl ?_
        exact rfl
      · simp at h52
        have hna := chkA_nn a (-1)
        have hnb := chkA_nn b (-1)
        have hca : chkA (-1) a = 0 := by omega
        have hcb : chkA (-1) b = 0 := by omega
        obtain ⟨hva, _⟩ := chk_ok hca
        obtain ⟨hvb, _⟩ := chk_ok hcb
        have hcn := cnt_ok hca
        refine g_skip ?_
        refine g_seq ?_
        refine g_reg ?_
        refine g_v (v_move rfl) rfl ?_
        refine g_v (v_move rfl) rfl ?_
        refine g_v (v_move rfl) rfl ?_
        refine g_v (v_max rfl rfl) rfl ?_
        refine g_l (l_call (Pre := [roL 2 s (rowsA a)]) Try.call17 rfl (ct_area_Page a s cap n (if many < 1 then 1 else many) hla hva)) rfl ?_
        rintro _ _ ⟨s58, c58, rfl, rfl⟩
        refine g_v (v_move rfl) rfl ?_
        refine g_v (v_extract rfl rfl) rfl ?_
        refine g_v (v_extract rfl rfl) rfl ?_
        refine g_v (v_assign rfl) rfl ?_
        refine g_v (v_assign rfl) rfl ?_
        refine g_nil ?_
        refine g_seq ?_
        refine g_reg ?_
        refine g_v (v_move rfl) rfl ?_
        refine g_v (v_move rfl) rfl ?_
        refine g_v (v_move rfl) rfl ?_
        refine g_v (v_max rfl rfl) rfl ?_
        refine g_l (l_call (Pre := [roL 2 s (rowsA a)]) Try.call18 rfl (ct_R_Page a s cap n (if many < 1 then 1 else many) hla hva)) rfl ?_
        rintro _ _ ⟨s66, c66, rfl, rfl⟩
        refine g_v (v_move rfl) rfl ?_
        refine g_v (v_extract rfl rfl) rfl ?_
        refine g_v (v_extract rfl rfl) rfl ?_
        refine g_v (v_assign rfl) rfl ?_
        refine g_v (v_assign rfl) rfl ?_
        refine g_nil ?_
        refine g_seq ?_
        refine g_seq ?_
        refine g_reg ?_
        refine g_v (v_move rfl) rfl ?_
        refine g_v (v_move rfl) rfl ?_
        refine g_freeze s58 ?_
        refine g_freeze s66 ?_
        refine g_l (l_call (Pre := [roL 2 s58 (rowsA (ofM ((pageM (mk a) n (if many < 1 then 1 else many)).1))), roL 2 s66 (rowsA (ofM ((pageM (mk a) n (if many < 1 then 1 else many)).1)))]) Try.call19 rfl (ct_R_SameAreas (ofM ((pageM (mk a) n (if many < 1 then 1 else many)).1)) (ofM ((pageM (mk a) n (if many < 1 then 1 else many)).1)) s58 s66 _ _ (ofM_len _) (ofM_len _))) rfl ?_
        rintro _ _ ⟨rfl, rfl⟩
        refine g_v (v_not rfl) rfl ?_
        refine g_v (v_move rfl) rfl ?_
        refine g_gv rfl rfl (fun hg => v_move rfl) rfl rfl ?_
        refine g_gv rfl rfl (fun hg => v_move rfl) rfl rfl ?_
        refine g_gv rfl rfl (fun hg => v_neq rfl rfl) rfl rfl ?_
        refine g_v (v_or rfl rfl) rfl ?_
        refine g_v (v_move rfl) rfl ?_
        refine g_gv1 rfl rfl (by simp) (v_move rfl) rfl ?_
        refine g_gv1 rfl rfl (by simp) (v_move rfl) rfl ?_
        refine g_gl rfl rfl (by simp) (l_call (Pre := [roL 2 s (rowsA a), roL 2 s' (rowsA b)]) Try.call20 rfl (ct_area_Union a b s s' cap cap' hla hlb hva hvb)) rfl ?_
        rintro _ _ ⟨s81, c81, rfl, rfl⟩
        refine g_gv1 rfl rfl (by simp) (v_move rfl) rfl ?_
        refine g_gv1 rfl rfl (by simp) (v_move rfl) rfl ?_
        refine g_gl rfl rfl (by simp) (l_call (Pre := [roL 2 s (rowsA a), roL 2 s' (rowsA b)]) Try.call21 rfl (ct_R_Union a b s s' cap cap' hla hlb hva hvb)) rfl ?_
        rintro _ _ ⟨s84, c84, rfl, rfl⟩
        refine g_freeze s81 ?_
        refine g_freeze s84 ?_
        refine g_gl rfl rfl (by simp) (l_call (Pre := [roL 2 s81 (rowsA (ofM (orM (mk a) (mk b)))), roL 2 s84 (rowsA (ofM (orM (mk a) (mk b))))]) Try.call19 rfl (ct_R_SameAreas (ofM (orM (mk a) (mk b))) (ofM (orM (mk a) (mk b))) s81 s84 _ _ (ofM_len _) (ofM_len _))) rfl ?_
        rintro _ _ ⟨rfl, rfl⟩
        refine g_gv1 rfl rfl (by simp) (v_not rfl) rfl ?_
        refine g_v (v_or rfl rfl) rfl ?_
        refine g_v (v_move rfl) rfl ?_
        refine g_gv1 rfl rfl (by simp) (v_move rfl) rfl ?_
        refine g_gv1 rfl rfl (by simp) (v_move rfl) rfl ?_
        refine g_gl rfl rfl (by simp) (l_call (Pre := [roL 2 s (rowsA a)]) Try.call22 rfl (ct_area_Cut a s cap n hla hva)) rfl ?_
        rintro _ _ ⟨s91, c91, rfl, rfl⟩
        refine g_gv1 rfl rfl (by simp) (v_move rfl) rfl ?_
        refine g_gv1 rfl rfl (by simp) (v_move rfl) rfl ?_
        refine g_gl rfl rfl (by simp) (l_call (Pre := [roL 2 s (rowsA a)]) Try.call23 rfl (ct_R_Cut a s cap n hla hva)) rfl ?_
        rintro _ _ ⟨s94, c94, rfl, rfl⟩
        refine g_freeze s91 ?_
        refine g_freeze s94 ?_
        refine g_gl rfl rfl (by simp) (l_call (Pre := [roL 2 s91 (rowsA (ofM (ltM (mk a) n))), roL 2 s94 (rowsA (ofM (ltM (mk a) n)))]) Try.call19 rfl (ct_R_SameAreas (ofM (ltM (mk a) n)) (ofM (ltM (mk a) n)) s91 s94 _ _ (ofM_len _) (ofM_len _))) rfl ?_
        rintro _ _ ⟨rfl, rfl⟩
        refine g_gv1 rfl rfl (by simp) (v_not rfl) rfl ?_
        refine g_v (v_or rfl rfl) rfl ?_
        refine g_nil ?_
        refine g_cond rfl (fun h97 => ?_) (fun h97 => ?_)
        · simp at h97
        · skip
          refine g_skip ?_
          refine g_seq ?_
          refine g_reg ?_
          refine g_v (v_move rfl) rfl ?_
          refine g_l (l_call (Pre := [roL 2 s (rowsA a)]) Try.call24 rfl (ct_R_MarksOf a s cap hla hva)) rfl ?_
          rintro _ _ ⟨rfl, rfl⟩
          refine g_l (l_alloc (Array.replicate 16 (Bo false)) Try.zeroValue35) rfl ?_
          rintro _ _ ⟨b14, rfl, rfl⟩
          refine g_l0 (l_storeA (bA (mk a)) Try.sizeOf35 rfl rfl (bL_len _) (bL_ones _) (by simp) (splice_all (by simp [bL]))) ?_
          rintro _ _ rfl
          refine g_nil ?_
          refine g_seq ?_
          refine g_reg ?_
          refine g_v (v_assign rfl) rfl ?_
          refine g_nil ?_
          refine g_seq ?_
          refine g_seq ?_
          refine g_reg ?_
          refine g_v (v_assign rfl) rfl ?_
          refine g_nil ?_
          refine g_block ?_
          refine g_loop (α := Nat) (fun k => k ≤ 16) (fun k => U [(0, sl s a.length cap), (1, sl s' b.length cap'), (2, I n), (14, ptr b14 0), (15, I (cM (mk a) k)), (16, I k)]) (fun k => pt b14 (.cells (bA (mk a)) 35 (0, 0)) :: roL 2 s (rowsA a) :: roL 2 s' (rowsA b) :: F) (fun k => 16 - k) 0 (by simp) [0, 1, 2, 14, 15, 16] rfl rfl ?_
          intro k hk
          refine g_seq ?_
          refine g_seq ?_
          refine g_reg ?_
          refine g_v (v_move rfl) rfl ?_
          refine g_v (v_lss rfl rfl) rfl ?_
          refine g_nil ?_
          refine g_cond rfl (fun h101 => ?_) (fun h101 => ?_)
          · simp at h101
            have hk : k < 16 := by omega
            refine g_skip ?_
            refine g_seq ?_
            refine g_block ?_
            refine g_seq ?_
            refine g_seq ?_
            refine g_reg ?_
            refine g_v (v_move rfl) rfl ?_
            refine g_v (v_idxA k Try.underlying35 Try.sizeOf4 rfl rfl rfl hk) rfl ?_
            refine g_v (v_load Try.isAgg4 rfl (bA_cell hk)) rfl ?_
            refine g_nil ?_
            refine g_cond rfl (fun h106 => ?_) (fun h106 => ?_)
            · skip
              refine g_reg ?_
              refine g_v (v_move rfl) rfl ?_
              refine g_v (v_add rfl rfl (w64 (by have := cM_le (mk a) k; omega))) rfl ?_
              refine g_v (v_assign rfl) rfl ?_
              refine g_nil ?_
              refine g_seq ?_
              refine g_draw (Lf := pt b14 (.cells (bA (mk a)) 35 (0, 0)) :: roL 2 s (rowsA a) :: roL 2 s' (rowsA b) :: F) [(0, false), (1, false), (3, false), (4, false), (5, false), (2, true), (6, false)] (by kernel_rfl) (by kernel_rfl) rfl (by kernel_rfl) ?_
              refine d_v rfl (v_move rfl) rfl ?_
              refine d_v rfl (v_move rfl) rfl ?_
              refine d_v rfl (v_move rfl) rfl ?_
              refine d_v rfl (v_idxA k Try.underlying35 Try.sizeOf4 rfl rfl rfl hk) rfl ?_
              refine d_v rfl (v_load Try.isAgg4 rfl (bA_cell hk)) rfl ?_
              refine d_l rfl (l_call (Pre := [roL 2 s (rowsA a)]) Try.call25 rfl (ct_area_Has a s cap k (by simp [ok64]; omega) hla hva)) rfl ?_
              rintro _ _ ⟨rfl, rfl⟩
              refine d_v rfl (v_bneq Try.underlying4 rfl rfl) rfl ?_
              refine d_nil ?_
              refine g_cond rfl (fun h115 => ?_) (fun h115 => ?_)
              · exact absurd h115 (by simp [hasA, mk])
              · skip
                refine g_skip ?_
                refine g_blk ?_
                refine g_reg ?_
                refine g_v (v_move rfl) rfl ?_
                refine g_v (v_add rfl rfl (w64 (by omega))) rfl ?_
                refine g_v (v_assign rfl) rfl ?_
                refine g_nil ?_
                exact g_again (k + 1) (by omega) (by omega) [0, 1, 2, 14, 15, 16] rfl (by simp [U, cM, h106])
            · skip
              refine g_skip ?_
              refine g_seq ?_
              refine g_draw (Lf := pt b14 (.cells (bA (mk a)) 35 (0, 0)) :: roL 2 s (rowsA a) :: roL 2 s' (rowsA b) :: F) [(0, false), (1, false), (3, false), (4, false), (5, false), (2, true), (6, false)] (by kernel_rfl) (by kernel_rfl) rfl (by kernel_rfl) ?_
              refine d_v rfl (v_move rfl) rfl ?_
              refine d_v rfl (v_move rfl) rfl ?_
              refine d_v rfl (v_move rfl) rfl ?_
              refine d_v rfl (v_idxA k Try.underlying35 Try.sizeOf4 rfl rfl rfl hk) rfl ?_
              refine d_v rfl (v_load Try.isAgg4 rfl (bA_cell hk)) rfl ?_
              refine d_l rfl (l_call (Pre := [roL 2 s (rowsA a)]) Try.call25 rfl (ct_area_Has a s cap k (by simp [ok64]; omega) hla hva)) rfl ?_
              rintro _ _ ⟨rfl, rfl⟩
              refine d_v rfl (v_bneq Try.underlying4 rfl rfl) rfl ?_
              refine d_nil ?_
              refine g_cond rfl (fun h115 => ?_) (fun h115 => ?_)
              · exact absurd h115 (by simp [hasA, mk])
              · skip
                refine g_skip ?_
                refine g_blk ?_
                refine g_reg ?_
                refine g_v (v_move rfl) rfl ?_
                refine g_v (v_add rfl rfl (w64 (by omega))) rfl ?_
                refine g_v (v_assign rfl) rfl ?_
                refine g_nil ?_
                exact g_again (k + 1) (by omega) (by omega) [0, 1, 2, 14, 15, 16] rfl (by simp [U, cM, h106])
          · simp at h101
            obtain rfl : k = 16 := by omega
            refine g_exit rfl ?_
            refine g_seq ?_
            refine g_reg ?_
            refine g_v (v_move rfl) rfl ?_
            refine g_l (l_call (Pre := [roL 2 s (rowsA a)]) Try.call26 rfl (ct_area_Count a s cap hla hva)) rfl ?_
            rintro _ _ ⟨rfl, rfl⟩
            refine g_v (v_move rfl) rfl ?_
            refine g_v (v_eql rfl rfl) rfl ?_
            refine g_v (v_move rfl) rfl ?_
            refine g_gv1 rfl rfl (decide_eq_true hcn) (v_move rfl) rfl ?_
            refine g_gv1 rfl rfl (decide_eq_true hcn) (v_geq rfl rfl) rfl ?_
            refine g_gv1 rfl rfl (decide_eq_true hcn) (v_move rfl) rfl ?_
            refine g_gv rfl rfl (fun hg => v_move rfl) rfl rfl ?_
            refine g_gv rfl rfl (fun hg => v_lss rfl rfl) rfl rfl ?_
            refine g_gv1 rfl rfl (decide_eq_true hcn) (v_and rfl rfl) rfl ?_
            refine g_gv1 rfl rfl (decide_eq_true hcn) (v_move rfl) rfl ?_
            refine g_gv rfl rfl (fun hg => v_move rfl) rfl rfl ?_
            refine g_gv rfl rfl (fun hg => v_move rfl) rfl rfl ?_
            refine g_gq rfl rfl (fun hg => l_call (Pre := [roL 2 s (rowsA a)]) (R := fun F => R1 (Bo (hasA a n)) (roL 2 s (rowsA a) :: F)) Try.call25 rfl (ct_area_Has a s cap n hn hla hva)) rfl rfl ?_
            refine g_gv rfl rfl (fun hg => v_not rfl) rfl rfl ?_
            refine g_gv1 rfl rfl (decide_eq_true hcn) (v_or rfl rfl) rfl ?_
            refine g_v (v_and rfl rfl) rfl ?_
            refine g_v (v_assign rfl) rfl ?_
            refine g_nil ?_
            refine g_ret1 rfl rfl ?_
            show Bo _ = Bo true
            congr 1
            rw [decide_eq_true hcn]
            by_cases h : n < 0 ∨ 16 ≤ n
            · rw [hasA_out hva h]; simp
            · simp; omega

end Go.Proofs.Ythdjckbjjfiopaa
