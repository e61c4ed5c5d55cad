/- The walk through the reference's ChangesOf. No condition. -/
import Derived.Test.YthdjckbjjfiopaaGreatDoorRIm
namespace Go.Proofs.YthdjckbjjfiopaaGreatDoor
open Go.Sl Go.Proofs
set_option linter.unusedVariables false
set_option linter.unusedSimpArgs false
theorem mg_b0 {a b : List ChangeM} {i k : Nat} {x : ChangeM} (h : a[i]? = some x) (hb : b.drop k = []) : mg (a.drop i) (b.drop k) = goneC x :: mg (a.drop (i + 1)) (b.drop k) := by
  rw [hb, mg_nilr, mg_nilr, drop_cons' h]; rfl

theorem ct_R_ChangesOf (a b : List ChangeM) (s s' : Option Addr) (cap cap' : Nat) (ha : a.length ≤ 1000000) (hb : b.length ≤ 1000000) (F : List HProp) : Ct Tryz.prog 20 [sl s a.length cap, sl s' b.length cap'] ([roL 3 s (chR a), roL 3 s' (chR b)] ++ F) (RSl 49 3 (mg a b).length (chR (mg a b)) (roL 3 s (chR a) :: roL 3 s' (chR b) :: F)) := by
  show Ct Tryz.prog 20 [sl s a.length cap, sl s' b.length cap'] (roL 3 s (chR a) :: roL 3 s' (chR b) :: F) _
  refine Ct.of Tryz.func20 rfl 99 Tryz.ntmps20 (by simp) fun w0 => ?_
  refine g_seq ?_
  refine g_reg ?_
  refine g_v (v_assign rfl) rfl ?_
  refine g_nil ?_
  refine g_seq ?_
  refine g_reg ?_
  refine g_v (v_assign rfl) rfl ?_
  refine g_nil ?_
  refine g_seq ?_
  refine g_reg ?_
  refine g_v (v_assign rfl) rfl ?_
  refine g_nil ?_
  refine g_seq ?_
  refine g_nilown 49 3 (chR []) rfl ?_
  refine g_reg ?_
  refine g_v (v_assign rfl) rfl ?_
  refine g_nil ?_
  refine g_seq ?_
  refine g_block ?_
  refine g_loop (α := Nat × Nat × List ChangeM × Option Addr × Nat) (fun z => z.1 ≤ a.length ∧ z.2.1 ≤ b.length ∧ z.2.2.1.length ≤ z.1 + z.2.1 ∧ mg a b = z.2.2.1 ++ mg (a.drop z.1) (b.drop z.2.1)) (fun z => U [(0, sl s a.length cap), (1, sl s' b.length cap'), (5, sl z.2.2.2.1 z.2.2.1.length z.2.2.2.2), (6, I z.1), (7, I z.2.1)]) (fun z => owL 49 3 z.2.2.2.1 z.2.2.2.2 (chR z.2.2.1) :: roL 3 s (chR a) :: roL 3 s' (chR b) :: F) (fun z => a.length + b.length - z.1 - z.2.1) (0, 0, [], none, 0) ⟨by simp, by simp, by simp, rfl⟩ [0, 1, 5, 6, 7] rfl rfl ?_
  rintro ⟨i, k, o, s5, c5⟩ ⟨hi, hk, hol, hmg⟩
  simp only [] at hi hk hol hmg ⊢
  refine g_seq ?_
  refine g_seq ?_
  refine g_reg ?_
  refine g_v (v_move rfl) rfl ?_
  refine g_v (v_move rfl) rfl ?_
  refine g_v (v_len Tryz.underlying23 rfl) rfl ?_
  refine g_v (v_lss rfl rfl) rfl ?_
  refine g_v (v_move rfl) rfl ?_
  refine g_gv rfl rfl (fun hg => v_move rfl) rfl rfl ?_
  refine g_gv rfl rfl (fun hg => v_move rfl) rfl rfl ?_
  refine g_gv rfl rfl (fun hg => v_len Tryz.underlying23 rfl) rfl rfl ?_
  refine g_gv rfl rfl (fun hg => v_lss rfl rfl) rfl rfl ?_
  refine g_v (v_or rfl rfl) rfl ?_
  refine g_nil ?_
  refine g_cond rfl (fun h17 => ?_) (fun h17 => ?_)
  · have h17' : i < a.length ∨ k < b.length := by simp at h17; omega
    refine g_skip ?_
    refine g_block ?_
    refine g_seq ?_
    refine g_seq ?_
    refine g_draw (Lf := [roL 3 s (chR a), roL 3 s' (chR b)]) [(0, false), (1, false), (2, false), (3, false), (4, false), (5, false), (6, false), (7, false), (8, false), (9, false), (10, false), (11, false), (12, false), (13, false), (14, false), (15, false), (16, false), (17, false), (18, false), (19, false), (20, false), (21, false), (22, false)] (by kernel_rfl) (by kernel_rfl) rfl (by kernel_rfl) ?_
    refine d_v rfl (v_move rfl) rfl ?_
    refine d_v rfl (v_move rfl) rfl ?_
    refine d_v rfl (v_len Tryz.underlying23 rfl) rfl ?_
    refine d_v rfl (v_eql rfl rfl) rfl ?_
    refine d_v rfl (v_move rfl) rfl ?_
    by_cases hkb : (k : Int) = (b.length : Int)
    · obtain ⟨x, hx⟩ : ∃ x, a[i]? = some x := ⟨_, List.getElem?_eq_getElem (by omega)⟩
      refine d_no rfl rfl rfl (by rw [decide_eq_true hkb]; rfl) rfl ?_
      refine d_no rfl rfl rfl (by rw [decide_eq_true hkb]; rfl) rfl ?_
      refine d_no rfl rfl rfl (by rw [decide_eq_true hkb]; rfl) rfl ?_
      refine d_no rfl rfl rfl (by rw [decide_eq_true hkb]; rfl) rfl ?_
      refine d_no rfl rfl rfl (by rw [decide_eq_true hkb]; rfl) rfl ?_
      refine d_no rfl rfl rfl rfl rfl ?_
      refine d_no rfl rfl rfl rfl rfl ?_
      refine d_no rfl rfl rfl rfl rfl ?_
      refine d_no rfl rfl rfl rfl rfl ?_
      refine d_no rfl rfl rfl rfl rfl ?_
      refine d_no rfl rfl rfl rfl rfl ?_
      refine d_no rfl rfl rfl rfl rfl ?_
      refine d_no rfl rfl rfl rfl rfl ?_
      refine d_no rfl rfl rfl rfl rfl ?_
      refine d_no rfl rfl rfl rfl rfl ?_
      refine d_no rfl rfl rfl rfl rfl ?_
      refine d_no rfl rfl rfl (by rw [decide_eq_true hkb]; rfl) rfl ?_
      refine d_v rfl (v_pk1 rfl (decide_eq_true hkb) rfl) rfl ?_
      refine d_nil ?_
      refine g_cond rfl (fun h40 => ?_) (fun h40 => ?_)
      · skip
        refine g_seq ?_
        refine g_reg ?_
        refine g_v (v_move rfl) rfl ?_
        refine g_v (v_move rfl) rfl ?_
        refine g_v (v_move rfl) rfl ?_
        refine g_v (v_idxS i Tryz.underlying23 Tryz.sizeOf49 rfl rfl rfl (by omega) (by rw [chR_len]; omega)) rfl ?_
        refine g_v (v_fieldAdrS (j := i) 0 Tryz.underlying49 rfl rfl Tryz.sizeOf9 (by decide) rfl (by rw [chR_len]; omega)) rfl ?_
        refine g_v (v_loadS (v := Str x.key) Tryz.isAgg9 rfl (chR_at hx) rfl) rfl ?_
        refine g_v (v_build rfl (bldC2r x.key)) rfl ?_
        refine g_l (l_buildSlice [encC (goneC x)] Tryz.underlying23 Tryz.sizeOf49 Tryz.zeroValue49 rfl rfl rfl (by intro r hr; simp at hr; subst hr; rfl) (by decide) (by decide)) rfl ?_
        rintro _ _ ⟨b48, rfl, rfl⟩
        refine g_l (l_append Tryz.underlying23 Tryz.sizeOf49 Tryz.zeroValue49 rfl Tryz.typeInfo49 (by decide) rfl rfl (chR_len _) rfl (by intro r hr; simp at hr; subst hr; rfl) (by intro r hr; simp at hr; subst hr; rfl) ⟨by omega, by decide, by decide⟩) rfl ?_
        rintro _ _ ⟨s49, c49, rfl, rfl⟩
        rw [chR_snoc]
        refine g_v (v_assign rfl) rfl ?_
        refine g_nil ?_
        refine g_seq ?_
        refine g_reg ?_
        refine g_v (v_move rfl) rfl ?_
        refine g_v (v_add rfl rfl (w64 (by omega))) rfl ?_
        refine g_v (v_assign rfl) rfl ?_
        refine g_nil ?_
        refine g_exit rfl ?_
        exact g_again (i + 1, k, o ++ [goneC x], s49, c49) ⟨by simp only []; omega, by simp only []; omega, by simp; omega, by simp only []; rw [hmg, mg_b0 hx (by rw [List.drop_of_length_le (by omega)])]; simp⟩ (by simp only []; omega) [0, 1, 5, 6, 7] rfl (by simp [U])
      · cases h40
    · obtain ⟨y, hy⟩ : ∃ y, b[k]? = some y := ⟨_, List.getElem?_eq_getElem (by omega)⟩
      refine d_gv1 rfl rfl rfl (decide_eq_false hkb) (v_move rfl) rfl ?_
      refine d_gv1 rfl rfl rfl (decide_eq_false hkb) (v_move rfl) rfl ?_
      refine d_gv1 rfl rfl rfl (decide_eq_false hkb) (v_len Tryz.underlying23 rfl) rfl ?_
      refine d_gv1 rfl rfl rfl (decide_eq_false hkb) (v_lss rfl rfl) rfl ?_
      refine d_gv1 rfl rfl rfl (decide_eq_false hkb) (v_move rfl) rfl ?_
      by_cases hia : (i : Int) < (a.length : Int)
      · obtain ⟨x, hx⟩ : ∃ x, a[i]? = some x := ⟨_, List.getElem?_eq_getElem (by omega)⟩
        refine d_gv1 rfl rfl rfl (decide_eq_true hia) (v_move rfl) rfl ?_
        refine d_gv1 rfl rfl rfl (decide_eq_true hia) (v_move rfl) rfl ?_
        refine d_gv1 rfl rfl rfl (decide_eq_true hia) (v_idxS i Tryz.underlying23 Tryz.sizeOf49 rfl rfl rfl (by omega) (by rw [chR_len]; omega)) rfl ?_
        refine d_gv1 rfl rfl rfl (decide_eq_true hia) (v_fieldAdrS (j := i) 0 Tryz.underlying49 rfl rfl Tryz.sizeOf9 (by decide) rfl (by rw [chR_len]; omega)) rfl ?_
        refine d_gv1 rfl rfl rfl (decide_eq_true hia) (v_loadS (v := Str x.key) Tryz.isAgg9 rfl (chR_at hx) rfl) rfl ?_
        refine d_gv1 rfl rfl rfl (decide_eq_true hia) (v_move rfl) rfl ?_
        refine d_gv1 rfl rfl rfl (decide_eq_true hia) (v_move rfl) rfl ?_
        refine d_gv1 rfl rfl rfl (decide_eq_true hia) (v_idxS k Tryz.underlying23 Tryz.sizeOf49 rfl rfl rfl (by omega) (by rw [chR_len]; omega)) rfl ?_
        refine d_gv1 rfl rfl rfl (decide_eq_true hia) (v_fieldAdrS (j := k) 0 Tryz.underlying49 rfl rfl Tryz.sizeOf9 (by decide) rfl (by rw [chR_len]; omega)) rfl ?_
        refine d_gv1 rfl rfl rfl (decide_eq_true hia) (v_loadS (v := Str y.key) Tryz.isAgg9 rfl (chR_at hy) rfl) rfl ?_
        refine d_gv1 rfl rfl rfl (decide_eq_true hia) (v_slss rfl rfl) rfl ?_
        refine d_gv1 rfl rfl rfl (decide_eq_false hkb) (v_pk1 rfl (decide_eq_true hia) rfl) rfl ?_
        refine d_v rfl (v_pk2 rfl (decide_eq_false hkb) rfl) rfl ?_
        refine d_nil ?_
        refine g_cond rfl (fun h40 => ?_) (fun h40 => ?_)
        · have hlt : kl x.key y.key = true := h40
          refine g_seq ?_
          refine g_reg ?_
          refine g_v (v_move rfl) rfl ?_
          refine g_v (v_move rfl) rfl ?_
          refine g_v (v_move rfl) rfl ?_
          refine g_v (v_idxS i Tryz.underlying23 Tryz.sizeOf49 rfl rfl rfl (by omega) (by rw [chR_len]; omega)) rfl ?_
          refine g_v (v_fieldAdrS (j := i) 0 Tryz.underlying49 rfl rfl Tryz.sizeOf9 (by decide) rfl (by rw [chR_len]; omega)) rfl ?_
          refine g_v (v_loadS (v := Str x.key) Tryz.isAgg9 rfl (chR_at hx) rfl) rfl ?_
          refine g_v (v_build rfl (bldC2r x.key)) rfl ?_
          refine g_l (l_buildSlice [encC (goneC x)] Tryz.underlying23 Tryz.sizeOf49 Tryz.zeroValue49 rfl rfl rfl (by intro r hr; simp at hr; subst hr; rfl) (by decide) (by decide)) rfl ?_
          rintro _ _ ⟨b48, rfl, rfl⟩
          refine g_l (l_append Tryz.underlying23 Tryz.sizeOf49 Tryz.zeroValue49 rfl Tryz.typeInfo49 (by decide) rfl rfl (chR_len _) rfl (by intro r hr; simp at hr; subst hr; rfl) (by intro r hr; simp at hr; subst hr; rfl) ⟨by omega, by decide, by decide⟩) rfl ?_
          rintro _ _ ⟨s49, c49, rfl, rfl⟩
          rw [chR_snoc]
          refine g_v (v_assign rfl) rfl ?_
          refine g_nil ?_
          refine g_seq ?_
          refine g_reg ?_
          refine g_v (v_move rfl) rfl ?_
          refine g_v (v_add rfl rfl (w64 (by omega))) rfl ?_
          refine g_v (v_assign rfl) rfl ?_
          refine g_nil ?_
          refine g_exit rfl ?_
          first
          | exact g_again (i + 1, k, o ++ [goneC x], s49, c49) ⟨by simp only []; omega, by simp only []; omega, by simp; omega, by simp only []; rw [hmg, drop_cons' hx, drop_cons' hy, mg_lt hlt]; simp⟩ (by simp only []; omega) [0, 1, 5, 6, 7] rfl (by simp [U])
          | exact g_again (i, k + 1, o ++ [y], s75, c75) ⟨by simp only []; omega, by simp only []; omega, by simp; omega, by simp only []; rw [hmg, drop_cons' hx, drop_cons' hy, mg_gt hlt hgt]; simp⟩ (by simp only []; omega) [0, 1, 5, 6, 7] rfl (by simp [U])
          | exact g_again (i + 1, k + 1, o ++ [y], s93, c93) ⟨by simp only []; omega, by simp only []; omega, by simp; omega, by simp only []; rw [hmg, drop_cons' hx, drop_cons' hy, mg_eq hlt hgt, if_neg hne]; simp⟩ (by simp only []; omega) [0, 1, 5, 6, 7] rfl (by simp [U])
          | exact g_again (i + 1, k + 1, o, s5, c5) ⟨by simp only []; omega, by simp only []; omega, by simp; omega, by simp only []; rw [hmg, drop_cons' hx, drop_cons' hy, mg_eq hlt hgt, if_pos hne]; simp⟩ (by simp only []; omega) [0, 1, 5, 6, 7] rfl (by simp [U])
        · have hlt : ¬ kl x.key y.key = true := fun h => by rw [show Op.bytesLess x.key y.key = true from h] at h40; cases h40
          refine g_skip ?_
          refine g_seq ?_
          refine g_seq ?_
          refine g_draw (Lf := [roL 3 s (chR a), roL 3 s' (chR b)]) [(0, false), (1, false), (2, false), (3, false), (4, false), (5, false), (6, false), (7, false), (8, false), (9, false), (10, false), (11, false), (12, false), (13, false), (14, false), (15, false), (16, false)] (by kernel_rfl) (by kernel_rfl) rfl (by kernel_rfl) ?_
          refine d_v rfl (v_move rfl) rfl ?_
          refine d_v rfl (v_move rfl) rfl ?_
          refine d_v rfl (v_len Tryz.underlying23 rfl) rfl ?_
          refine d_v rfl (v_eql rfl rfl) rfl ?_
          refine d_v rfl (v_move rfl) rfl ?_
          refine d_gv1 rfl rfl rfl (decide_eq_false (show ¬ (i : Int) = (a.length : Int) by omega)) (v_move rfl) rfl ?_
          refine d_gv1 rfl rfl rfl (decide_eq_false (show ¬ (i : Int) = (a.length : Int) by omega)) (v_move rfl) rfl ?_
          refine d_gv1 rfl rfl rfl (decide_eq_false (show ¬ (i : Int) = (a.length : Int) by omega)) (v_idxS k Tryz.underlying23 Tryz.sizeOf49 rfl rfl rfl (by omega) (by rw [chR_len]; omega)) rfl ?_
          refine d_gv1 rfl rfl rfl (decide_eq_false (show ¬ (i : Int) = (a.length : Int) by omega)) (v_fieldAdrS (j := k) 0 Tryz.underlying49 rfl rfl Tryz.sizeOf9 (by decide) rfl (by rw [chR_len]; omega)) rfl ?_
          refine d_gv1 rfl rfl rfl (decide_eq_false (show ¬ (i : Int) = (a.length : Int) by omega)) (v_loadS (v := Str y.key) Tryz.isAgg9 rfl (chR_at hy) rfl) rfl ?_
          refine d_gv1 rfl rfl rfl (decide_eq_false (show ¬ (i : Int) = (a.length : Int) by omega)) (v_move rfl) rfl ?_
          refine d_gv1 rfl rfl rfl (decide_eq_false (show ¬ (i : Int) = (a.length : Int) by omega)) (v_move rfl) rfl ?_
          refine d_gv1 rfl rfl rfl (decide_eq_false (show ¬ (i : Int) = (a.length : Int) by omega)) (v_idxS i Tryz.underlying23 Tryz.sizeOf49 rfl rfl rfl (by omega) (by rw [chR_len]; omega)) rfl ?_
          refine d_gv1 rfl rfl rfl (decide_eq_false (show ¬ (i : Int) = (a.length : Int) by omega)) (v_fieldAdrS (j := i) 0 Tryz.underlying49 rfl rfl Tryz.sizeOf9 (by decide) rfl (by rw [chR_len]; omega)) rfl ?_
          refine d_gv1 rfl rfl rfl (decide_eq_false (show ¬ (i : Int) = (a.length : Int) by omega)) (v_loadS (v := Str x.key) Tryz.isAgg9 rfl (chR_at hx) rfl) rfl ?_
          refine d_gv1 rfl rfl rfl (decide_eq_false (show ¬ (i : Int) = (a.length : Int) by omega)) (v_slss rfl rfl) rfl ?_
          refine d_v rfl (v_pk2 rfl (decide_eq_false (show ¬ (i : Int) = (a.length : Int) by omega)) rfl) rfl ?_
          refine d_nil ?_
          refine g_cond rfl (fun h68 => ?_) (fun h68 => ?_)
          · have hgt : kl y.key x.key = true := h68
            refine g_seq ?_
            refine g_reg ?_
            refine g_v (v_move rfl) rfl ?_
            refine g_v (v_move rfl) rfl ?_
            refine g_v (v_move rfl) rfl ?_
            refine g_v (v_idxS k Tryz.underlying23 Tryz.sizeOf49 rfl rfl rfl (by omega) (by rw [chR_len]; omega)) rfl ?_
            refine g_v (v_loadAS (row := encC y) Tryz.isAgg49 Tryz.sizeOf49 rfl (chR_at hy) rfl) rfl ?_
            refine g_l (l_buildSlice [encC (y)] Tryz.underlying23 Tryz.sizeOf49 Tryz.zeroValue49 rfl rfl rfl (by intro r hr; simp at hr; subst hr; rfl) (by decide) (by decide)) rfl ?_
            rintro _ _ ⟨b74, rfl, rfl⟩
            refine g_l (l_append Tryz.underlying23 Tryz.sizeOf49 Tryz.zeroValue49 rfl Tryz.typeInfo49 (by decide) rfl rfl (chR_len _) rfl (by intro r hr; simp at hr; subst hr; rfl) (by intro r hr; simp at hr; subst hr; rfl) ⟨by omega, by decide, by decide⟩) rfl ?_
            rintro _ _ ⟨s75, c75, rfl, rfl⟩
            rw [chR_snoc]
            refine g_v (v_assign rfl) rfl ?_
            refine g_nil ?_
            refine g_seq ?_
            refine g_reg ?_
            refine g_v (v_move rfl) rfl ?_
            refine g_v (v_add rfl rfl (w64 (by omega))) rfl ?_
            refine g_v (v_assign rfl) rfl ?_
            refine g_nil ?_
            refine g_exit rfl ?_
            first
            | exact g_again (i + 1, k, o ++ [goneC x], s49, c49) ⟨by simp only []; omega, by simp only []; omega, by simp; omega, by simp only []; rw [hmg, drop_cons' hx, drop_cons' hy, mg_lt hlt]; simp⟩ (by simp only []; omega) [0, 1, 5, 6, 7] rfl (by simp [U])
            | exact g_again (i, k + 1, o ++ [y], s75, c75) ⟨by simp only []; omega, by simp only []; omega, by simp; omega, by simp only []; rw [hmg, drop_cons' hx, drop_cons' hy, mg_gt hlt hgt]; simp⟩ (by simp only []; omega) [0, 1, 5, 6, 7] rfl (by simp [U])
            | exact g_again (i + 1, k + 1, o ++ [y], s93, c93) ⟨by simp only []; omega, by simp only []; omega, by simp; omega, by simp only []; rw [hmg, drop_cons' hx, drop_cons' hy, mg_eq hlt hgt, if_neg hne]; simp⟩ (by simp only []; omega) [0, 1, 5, 6, 7] rfl (by simp [U])
            | exact g_again (i + 1, k + 1, o, s5, c5) ⟨by simp only []; omega, by simp only []; omega, by simp; omega, by simp only []; rw [hmg, drop_cons' hx, drop_cons' hy, mg_eq hlt hgt, if_pos hne]; simp⟩ (by simp only []; omega) [0, 1, 5, 6, 7] rfl (by simp [U])
          · have hgt : ¬ kl y.key x.key = true := fun h => by rw [show Op.bytesLess y.key x.key = true from h] at h68; cases h68
            refine g_skip ?_
            refine g_seq ?_
            refine g_seq ?_
            refine g_draw (Lf := [roL 3 s (chR a), roL 3 s' (chR b)]) [(0, false), (1, false), (2, false), (3, false), (4, false), (5, false), (6, false), (7, false), (8, false)] (by kernel_rfl) (by kernel_rfl) rfl (by kernel_rfl) ?_
            refine d_v rfl (v_move rfl) rfl ?_
            refine d_v rfl (v_move rfl) rfl ?_
            refine d_v rfl (v_idxS i Tryz.underlying23 Tryz.sizeOf49 rfl rfl rfl (by omega) (by rw [chR_len]; omega)) rfl ?_
            refine d_v rfl (v_loadAS (row := encC x) Tryz.isAgg49 Tryz.sizeOf49 rfl (chR_at hx) rfl) rfl ?_
            refine d_v rfl (v_move rfl) rfl ?_
            refine d_v rfl (v_move rfl) rfl ?_
            refine d_v rfl (v_idxS k Tryz.underlying23 Tryz.sizeOf49 rfl rfl rfl (by omega) (by rw [chR_len]; omega)) rfl ?_
            refine d_v rfl (v_loadAS (row := encC y) Tryz.isAgg49 Tryz.sizeOf49 rfl (chR_at hy) rfl) rfl ?_
            refine d_v rfl (v_aneq Tryz.eqGuardType49 rfl rfl (eq_Change x y)) rfl ?_
            refine d_nil ?_
            refine g_cond rfl (fun h86 => ?_) (fun h86 => ?_)
            · have hne : ¬ x = y := by simpa using h86
              refine g_reg ?_
              refine g_v (v_move rfl) rfl ?_
              refine g_v (v_move rfl) rfl ?_
              refine g_v (v_move rfl) rfl ?_
              refine g_v (v_idxS k Tryz.underlying23 Tryz.sizeOf49 rfl rfl rfl (by omega) (by rw [chR_len]; omega)) rfl ?_
              refine g_v (v_loadAS (row := encC y) Tryz.isAgg49 Tryz.sizeOf49 rfl (chR_at hy) rfl) rfl ?_
              refine g_l (l_buildSlice [encC (y)] Tryz.underlying23 Tryz.sizeOf49 Tryz.zeroValue49 rfl rfl rfl (by intro r hr; simp at hr; subst hr; rfl) (by decide) (by decide)) rfl ?_
              rintro _ _ ⟨b92, rfl, rfl⟩
              refine g_l (l_append Tryz.underlying23 Tryz.sizeOf49 Tryz.zeroValue49 rfl Tryz.typeInfo49 (by decide) rfl rfl (chR_len _) rfl (by intro r hr; simp at hr; subst hr; rfl) (by intro r hr; simp at hr; subst hr; rfl) ⟨by omega, by decide, by decide⟩) rfl ?_
              rintro _ _ ⟨s93, c93, rfl, rfl⟩
              rw [chR_snoc]
              refine g_v (v_assign rfl) rfl ?_
              refine g_nil ?_
              refine g_seq ?_
              refine g_reg ?_
              refine g_v (v_move rfl) rfl ?_
              refine g_v (v_add rfl rfl (w64 (by omega))) rfl ?_
              refine g_v (v_assign rfl) rfl ?_
              refine g_nil ?_
              refine g_reg ?_
              refine g_v (v_move rfl) rfl ?_
              refine g_v (v_add rfl rfl (w64 (by omega))) rfl ?_
              refine g_v (v_assign rfl) rfl ?_
              refine g_nil ?_
              refine g_blk ?_
              first
              | exact g_again (i + 1, k, o ++ [goneC x], s49, c49) ⟨by simp only []; omega, by simp only []; omega, by simp; omega, by simp only []; rw [hmg, drop_cons' hx, drop_cons' hy, mg_lt hlt]; simp⟩ (by simp only []; omega) [0, 1, 5, 6, 7] rfl (by simp [U])
              | exact g_again (i, k + 1, o ++ [y], s75, c75) ⟨by simp only []; omega, by simp only []; omega, by simp; omega, by simp only []; rw [hmg, drop_cons' hx, drop_cons' hy, mg_gt hlt hgt]; simp⟩ (by simp only []; omega) [0, 1, 5, 6, 7] rfl (by simp [U])
              | exact g_again (i + 1, k + 1, o ++ [y], s93, c93) ⟨by simp only []; omega, by simp only []; omega, by simp; omega, by simp only []; rw [hmg, drop_cons' hx, drop_cons' hy, mg_eq hlt hgt, if_neg hne]; simp⟩ (by simp only []; omega) [0, 1, 5, 6, 7] rfl (by simp [U])
              | exact g_again (i + 1, k + 1, o, s5, c5) ⟨by simp only []; omega, by simp only []; omega, by simp; omega, by simp only []; rw [hmg, drop_cons' hx, drop_cons' hy, mg_eq hlt hgt, if_pos hne]; simp⟩ (by simp only []; omega) [0, 1, 5, 6, 7] rfl (by simp [U])
            · have hne : x = y := by simpa using h86
              refine g_skip ?_
              refine g_seq ?_
              refine g_reg ?_
              refine g_v (v_move rfl) rfl ?_
              refine g_v (v_add rfl rfl (w64 (by omega))) rfl ?_
              refine g_v (v_assign rfl) rfl ?_
              refine g_nil ?_
              refine g_reg ?_
              refine g_v (v_move rfl) rfl ?_
              refine g_v (v_add rfl rfl (w64 (by omega))) rfl ?_
              refine g_v (v_assign rfl) rfl ?_
              refine g_nil ?_
              refine g_blk ?_
              first
              | exact g_again (i + 1, k, o ++ [goneC x], s49, c49) ⟨by simp only []; omega, by simp only []; omega, by simp; omega, by simp only []; rw [hmg, drop_cons' hx, drop_cons' hy, mg_lt hlt]; simp⟩ (by simp only []; omega) [0, 1, 5, 6, 7] rfl (by simp [U])
              | exact g_again (i, k + 1, o ++ [y], s75, c75) ⟨by simp only []; omega, by simp only []; omega, by simp; omega, by simp only []; rw [hmg, drop_cons' hx, drop_cons' hy, mg_gt hlt hgt]; simp⟩ (by simp only []; omega) [0, 1, 5, 6, 7] rfl (by simp [U])
              | exact g_again (i + 1, k + 1, o ++ [y], s93, c93) ⟨by simp only []; omega, by simp only []; omega, by simp; omega, by simp only []; rw [hmg, drop_cons' hx, drop_cons' hy, mg_eq hlt hgt, if_neg hne]; simp⟩ (by simp only []; omega) [0, 1, 5, 6, 7] rfl (by simp [U])
              | exact g_again (i + 1, k + 1, o, s5, c5) ⟨by simp only []; omega, by simp only []; omega, by simp; omega, by simp only []; rw [hmg, drop_cons' hx, drop_cons' hy, mg_eq hlt hgt, if_pos hne]; simp⟩ (by simp only []; omega) [0, 1, 5, 6, 7] rfl (by simp [U])
      · skip
        refine d_no rfl rfl rfl (by rw [decide_eq_false hia]; rfl) rfl ?_
        refine d_no rfl rfl rfl (by rw [decide_eq_false hia]; rfl) rfl ?_
        refine d_no rfl rfl rfl (by rw [decide_eq_false hia]; rfl) rfl ?_
        refine d_no rfl rfl rfl (by rw [decide_eq_false hia]; rfl) rfl ?_
        refine d_no rfl rfl rfl (by rw [decide_eq_false hia]; rfl) rfl ?_
        refine d_no rfl rfl rfl (by rw [decide_eq_false hia]; rfl) rfl ?_
        refine d_no rfl rfl rfl (by rw [decide_eq_false hia]; rfl) rfl ?_
        refine d_no rfl rfl rfl (by rw [decide_eq_false hia]; rfl) rfl ?_
        refine d_no rfl rfl rfl (by rw [decide_eq_false hia]; rfl) rfl ?_
        refine d_no rfl rfl rfl (by rw [decide_eq_false hia]; rfl) rfl ?_
        refine d_no rfl rfl rfl (by rw [decide_eq_false hia]; rfl) rfl ?_
        refine d_gv1 rfl rfl rfl (decide_eq_false hkb) (v_pk2 rfl (decide_eq_false hia) rfl) rfl ?_
        refine d_v rfl (v_pk2 rfl (decide_eq_false hkb) rfl) rfl ?_
        refine d_nil ?_
        refine g_cond rfl (fun h40 => ?_) (fun h40 => ?_)
        · cases h40
        · skip
          refine g_skip ?_
          refine g_seq ?_
          refine g_seq ?_
          refine g_draw (Lf := [roL 3 s (chR a), roL 3 s' (chR b)]) [(0, false), (1, false), (2, false), (3, false), (4, false), (5, false), (6, false), (7, false), (8, false), (9, false), (10, false), (11, false), (12, false), (13, false), (14, false), (15, false), (16, false)] (by kernel_rfl) (by kernel_rfl) rfl (by kernel_rfl) ?_
          refine d_v rfl (v_move rfl) rfl ?_
          refine d_v rfl (v_move rfl) rfl ?_
          refine d_v rfl (v_len Tryz.underlying23 rfl) rfl ?_
          refine d_v rfl (v_eql rfl rfl) rfl ?_
          refine d_v rfl (v_move rfl) rfl ?_
          refine d_no rfl rfl rfl (by rw [decide_eq_true (show (i : Int) = (a.length : Int) by omega)]; rfl) rfl ?_
          refine d_no rfl rfl rfl (by rw [decide_eq_true (show (i : Int) = (a.length : Int) by omega)]; rfl) rfl ?_
          refine d_no rfl rfl rfl (by rw [decide_eq_true (show (i : Int) = (a.length : Int) by omega)]; rfl) rfl ?_
          refine d_no rfl rfl rfl (by rw [decide_eq_true (show (i : Int) = (a.length : Int) by omega)]; rfl) rfl ?_
          refine d_no rfl rfl rfl (by rw [decide_eq_true (show (i : Int) = (a.length : Int) by omega)]; rfl) rfl ?_
          refine d_no rfl rfl rfl (by rw [decide_eq_true (show (i : Int) = (a.length : Int) by omega)]; rfl) rfl ?_
          refine d_no rfl rfl rfl (by rw [decide_eq_true (show (i : Int) = (a.length : Int) by omega)]; rfl) rfl ?_
          refine d_no rfl rfl rfl (by rw [decide_eq_true (show (i : Int) = (a.length : Int) by omega)]; rfl) rfl ?_
          refine d_no rfl rfl rfl (by rw [decide_eq_true (show (i : Int) = (a.length : Int) by omega)]; rfl) rfl ?_
          refine d_no rfl rfl rfl (by rw [decide_eq_true (show (i : Int) = (a.length : Int) by omega)]; rfl) rfl ?_
          refine d_no rfl rfl rfl (by rw [decide_eq_true (show (i : Int) = (a.length : Int) by omega)]; rfl) rfl ?_
          refine d_v rfl (v_pk1 rfl (decide_eq_true (show (i : Int) = (a.length : Int) by omega)) rfl) rfl ?_
          refine d_nil ?_
          refine g_cond rfl (fun h68 => ?_) (fun h68 => ?_)
          · skip
            refine g_seq ?_
            refine g_reg ?_
            refine g_v (v_move rfl) rfl ?_
            refine g_v (v_move rfl) rfl ?_
            refine g_v (v_move rfl) rfl ?_
            refine g_v (v_idxS k Tryz.underlying23 Tryz.sizeOf49 rfl rfl rfl (by omega) (by rw [chR_len]; omega)) rfl ?_
            refine g_v (v_loadAS (row := encC y) Tryz.isAgg49 Tryz.sizeOf49 rfl (chR_at hy) rfl) rfl ?_
            refine g_l (l_buildSlice [encC (y)] Tryz.underlying23 Tryz.sizeOf49 Tryz.zeroValue49 rfl rfl rfl (by intro r hr; simp at hr; subst hr; rfl) (by decide) (by decide)) rfl ?_
            rintro _ _ ⟨b74, rfl, rfl⟩
            refine g_l (l_append Tryz.underlying23 Tryz.sizeOf49 Tryz.zeroValue49 rfl Tryz.typeInfo49 (by decide) rfl rfl (chR_len _) rfl (by intro r hr; simp at hr; subst hr; rfl) (by intro r hr; simp at hr; subst hr; rfl) ⟨by omega, by decide, by decide⟩) rfl ?_
            rintro _ _ ⟨s75, c75, rfl, rfl⟩
            rw [chR_snoc]
            refine g_v (v_assign rfl) rfl ?_
            refine g_nil ?_
            refine g_seq ?_
            refine g_reg ?_
            refine g_v (v_move rfl) rfl ?_
            refine g_v (v_add rfl rfl (w64 (by omega))) rfl ?_
            refine g_v (v_assign rfl) rfl ?_
            refine g_nil ?_
            refine g_exit rfl ?_
            exact g_again (i, k + 1, o ++ [y], s75, c75) ⟨by simp only []; omega, by simp only []; omega, by simp; omega, by simp only []; rw [hmg, List.drop_of_length_le (by omega), mg_nil, mg_nil, drop_cons' hy]; simp⟩ (by simp only []; omega) [0, 1, 5, 6, 7] rfl (by simp [U])
          · cases h68
  · have h17' : i = a.length ∧ k = b.length := by simp at h17; omega
    obtain ⟨rfl, rfl⟩ := h17'
    rw [List.drop_length, List.drop_length, mg_nil, List.append_nil] at hmg
    subst hmg
    refine g_exit rfl ?_
    refine g_seq ?_
    refine g_reg ?_
    refine g_v (v_move rfl) rfl ?_
    refine g_v (v_assign rfl) rfl ?_
    refine g_nil ?_
    exact g_retSl rfl rfl rfl rfl

end Go.Proofs.YthdjckbjjfiopaaGreatDoor
