/- The walk through the law TopDiff. No condition. -/
import Derived.Test.YthdjckbjjfiopabTopIx
import Derived.Test.YthdjckbjjfiopabNums
namespace Go.Proofs.Ythdjckbjjfiopab
open Go.Sl Go.Proofs
set_option linter.unusedVariables false
set_option linter.unusedSimpArgs false
theorem diff_at {p : Nat → Bool} {n t : Nat} (h : t < n) : (((List.range n).filter p).map (fun t : Nat => (t : Int)))[((List.range t).filter p).length]? = some (t : Int) ↔ p t = true := by
  obtain ⟨m, rfl⟩ : ∃ m, n = t + (m + 1) := ⟨n - t - 1, by omega⟩
  rw [List.range_eq_range', List.range_eq_range', ← List.range'_append (s := 0) (m := t) (n := m + 1) (step := 1), List.filter_append, List.map_append, List.getElem?_append_right (by simp), List.length_map, Nat.sub_self]
  rw [show 0 + 1 * t = t by omega, List.range'_succ]
  by_cases hp : p t = true
  · rw [List.filter_cons_of_pos hp]; simp [hp]
  · rw [List.filter_cons_of_neg hp]
    refine ⟨fun h => ?_, fun h => absurd h hp⟩
    have h1 := List.mem_of_getElem? h
    obtain ⟨j, hj, e⟩ := List.mem_map.1 h1
    have h2 := List.mem_range'_1.1 (List.mem_filter.1 hj).1
    omega
def dP (S : SI) (a b : Int) (t : Nat) : Bool := !decide (getS S a t = getS S b t)
theorem dN_step (p : Nat → Bool) (t : Nat) : ((List.range (t + 1)).filter p).length = ((List.range t).filter p).length + if p t = true then 1 else 0 := by
  rw [List.range_succ, List.filter_append, List.length_append]
  by_cases hp : p t = true
  · rw [List.filter_cons_of_pos hp, if_pos hp]; rfl
  · rw [List.filter_cons_of_neg hp, if_neg hp]; rfl
theorem diffS_comm (S : SI) (a b : Int) : diffS S b a = diffS S a b := by
  unfold diffS
  congr 2
  funext t
  by_cases h : getS S a t = getS S b t
  · simp [h]
  · simp [h, Ne.symm h]
theorem diffS_self (S : SI) (a : Int) : diffS S a a = [] := by simp [diffS]
def dK (S : SI) (a b : Int) (t : Nat) : Nat := ((List.range t).filter (dP S a b)).length
theorem dK_all (S : SI) (a b : Int) : dK S a b 16 = (diffS S a b).length := by unfold dK diffS; rw [List.length_map]; rfl
theorem dK_le (S : SI) (a b : Int) (t : Nat) : dK S a b t ≤ t := by unfold dK; exact Nat.le_trans (List.length_filter_le _ _) (by simp)
theorem dK_at {S : SI} {a b : Int} {t : Nat} (h : t < 16) : (diffS S a b)[dK S a b t]? = some (t : Int) ↔ dP S a b t = true := diff_at h
theorem dK_s (S : SI) (a b : Int) (t : Nat) : dK S a b (t + 1) = dK S a b t + if dP S a b t = true then 1 else 0 := dN_step _ _
theorem diffS_len (S : SI) (a b : Int) : (diffS S a b).length ≤ 16 := by rw [← dK_all]; exact dK_le _ _ _ _

theorem ct_T_TopDiff (l : List ActM) (f : Nat → ActZ) (s : Option Addr) (cap : Nat) (p q : Int) (hl : l.length ≤ 9223372036854775807) (hla : ∀ x ∈ l, x.puts.length ≤ 9223372036854775807 ∧ x.changes.length ≤ 9223372036854775807) (F : List HProp) : Ct Try.prog 5 [sl s l.length cap, I p, I q] ([acts s l f] ++ F) (R1 (Bo true) (acts s l f :: F)) := by
  show Ct Try.prog 5 [sl s l.length cap, I p, I q] (acts s l f :: F) _
  refine Ct.of Try.func5 rfl 100 Try.ntmps5 (by simp) fun w0 => ?_
  refine g_seq ?_
  refine g_reg ?_
  refine g_v (v_assign rfl) rfl ?_
  refine g_nil ?_
  refine g_seq ?_
  refine g_reg ?_
  refine g_l (l_call (Pre := []) Try.call24 rfl (ct_T_indexed)) rfl ?_
  rintro _ _ ⟨rfl, rfl⟩
  refine g_v (v_assign rfl) rfl ?_
  refine g_nil ?_
  refine g_seq ?_
  refine g_seq ?_
  refine g_reg ?_
  refine g_v (v_move rfl) rfl ?_
  refine g_v (v_not rfl) rfl ?_
  refine g_nil ?_
  refine g_false rfl ?_
  refine g_skip ?_
  refine g_seq ?_
  refine g_seq ?_
  refine g_reg ?_
  refine g_v (v_move rfl) rfl ?_
  refine g_l (l_call (Pre := [acts s l f]) Try.call20 rfl (ct_L_LightActs l f s cap 12 hl hla)) rfl ?_
  rintro _ _ ⟨rfl, rfl⟩
  refine g_v (v_not rfl) rfl ?_
  refine g_nil ?_
  refine g_cond rfl (fun h21 => ?_) (fun h21 => ?_)
  · skip
    refine g_seq ?_
    refine g_reg ?_
    refine g_v (v_assign rfl) rfl ?_
    refine g_nil ?_
    refine g_ret1 rfl rfl ?_
    first | rfl | (show Bo _ = Bo true; simp [hkk])
  · have h21' : lightA l 12 = true := by simpa using h21
    have hll := lightL h21'
    refine g_skip ?_
    refine g_seq ?_
    refine g_reg ?_
    refine g_v (v_move rfl) rfl ?_
    refine g_l (l_call (Pre := [acts s l f]) Try.call25 rfl (ct_T_rooted l f s cap (by omega) (fun x hx => Nat.le_trans (lightS h21' hx) (by decide)))) rfl ?_
    rintro _ _ (⟨rfl, rfl⟩ | ⟨b, G, roots, s2, c2, rfl, rfl, hne, hlen, hR⟩)
    · skip
      refine g_v (v_move rfl) rfl ?_
      refine g_v (v_extract (v := .pointer none) rfl rfl) rfl ?_
      refine g_v (v_extract (v := sl none 0 0) rfl rfl) rfl ?_
      refine g_v (v_extract (v := Bo false) rfl rfl) rfl ?_
      refine g_v (v_assign rfl) rfl ?_
      refine g_v (v_assign rfl) rfl ?_
      refine g_v (v_assign rfl) rfl ?_
      refine g_nil ?_
      refine g_seq ?_
      refine g_seq ?_
      refine g_reg ?_
      refine g_v (v_move rfl) rfl ?_
      refine g_v (v_not rfl) rfl ?_
      refine g_nil ?_
      refine g_true rfl ?_
      refine g_seq ?_
      refine g_reg ?_
      refine g_v (v_assign rfl) rfl ?_
      refine g_nil ?_
      refine g_ret1 rfl rfl ?_
      first | rfl | (show Bo _ = Bo true; simp [hkk])
    · have hok := RtOk hR (m := 200) (by omega)
      have hrl : 0 < roots.length := List.length_pos_iff.2 hne
      obtain ⟨x, hqx⟩ : ∃ z0, roots[pk p roots.length]? = some z0 := ⟨_, List.getElem?_eq_getElem (pk_lt _ (by omega))⟩
      have hmx := List.mem_of_getElem? hqx
      obtain ⟨y, hqy⟩ : ∃ z0, roots[pk q roots.length]? = some z0 := ⟨_, List.getElem?_eq_getElem (pk_lt _ (by omega))⟩
      have hmy := List.mem_of_getElem? hqy
      refine g_v (v_move rfl) rfl ?_
      refine g_v (v_extract (v := ptr b 0) rfl rfl) rfl ?_
      refine g_v (v_extract (v := sl s2 roots.length c2) rfl rfl) rfl ?_
      refine g_v (v_extract (v := Bo true) rfl rfl) rfl ?_
      refine g_v (v_assign rfl) rfl ?_
      refine g_v (v_assign rfl) rfl ?_
      refine g_v (v_assign rfl) rfl ?_
      refine g_nil ?_
      refine g_seq ?_
      refine g_seq ?_
      refine g_reg ?_
      refine g_v (v_move rfl) rfl ?_
      refine g_v (v_not rfl) rfl ?_
      refine g_nil ?_
      refine g_false rfl ?_
      refine g_skip ?_
      refine g_seq ?_
      refine g_reg ?_
      refine g_v (v_move rfl) rfl ?_
      refine g_v (v_move rfl) rfl ?_
      refine g_v (v_mask 10 rfl (by decide) (by decide)) rfl ?_
      refine g_v (v_move rfl) rfl ?_
      refine g_v (v_len Try.underlying54 rfl) rfl ?_
      refine g_v (v_rem (r := ((pk p roots.length : Nat) : Int)) rfl rfl (by omega) (pk_rem _)) rfl ?_
      refine g_v (v_idxS (pk p roots.length) Try.underlying54 Try.sizeOf3 rfl rfl rfl (pk_lt _ (by omega)) (by rw [intR_len]; exact pk_lt _ (by omega))) rfl ?_
      refine g_v (v_loadS0 (v := I x) Try.isAgg3 rfl (intR_at hqx) rfl) rfl ?_
      refine g_v (v_assign rfl) rfl ?_
      refine g_nil ?_
      refine g_seq ?_
      refine g_reg ?_
      refine g_v (v_move rfl) rfl ?_
      refine g_v (v_move rfl) rfl ?_
      refine g_v (v_mask 10 rfl (by decide) (by decide)) rfl ?_
      refine g_v (v_move rfl) rfl ?_
      refine g_v (v_len Try.underlying54 rfl) rfl ?_
      refine g_v (v_rem (r := ((pk q roots.length : Nat) : Int)) rfl rfl (by omega) (pk_rem _)) rfl ?_
      refine g_v (v_idxS (pk q roots.length) Try.underlying54 Try.sizeOf3 rfl rfl rfl (pk_lt _ (by omega)) (by rw [intR_len]; exact pk_lt _ (by omega))) rfl ?_
      refine g_v (v_loadS0 (v := I y) Try.isAgg3 rfl (intR_at hqy) rfl) rfl ?_
      refine g_v (v_assign rfl) rfl ?_
      refine g_nil ?_
      refine g_seq ?_
      refine g_reg ?_
      refine g_v (v_move rfl) rfl ?_
      refine g_v (v_move rfl) rfl ?_
      refine g_v (v_move rfl) rfl ?_
      refine g_l (l_call (Pre := [ixl b (mkG G)]) Try.call26 rfl (ct_index_Index_Diff b (mkG G) x y 200 hok (by decide))) rfl ?_
      rintro _ _ ⟨s49, c49, rfl, rfl⟩
      refine g_v (v_assign rfl) rfl ?_
      refine g_nil ?_
      refine g_seq ?_
      refine g_reg ?_
      refine g_v (v_assign rfl) rfl ?_
      refine g_nil ?_
      refine g_seq ?_
      refine g_seq ?_
      refine g_reg ?_
      refine g_v (v_assign rfl) rfl ?_
      refine g_nil ?_
      refine g_block ?_
      refine g_loop (α := Nat) (fun t => t ≤ 16) (fun t => U [(0, sl s l.length cap), (1, I p), (2, I q), (8, ptr b 0), (10, I x), (11, I y), (12, sl s49 (diffS (mkG G) x y).length c49), (13, I (dK (mkG G) x y t)), (14, I t)]) (fun t => owL 3 1 s49 c49 (intR (diffS (mkG G) x y)) :: ixl b (mkG G) :: owL 3 1 s2 c2 (intR roots) :: acts s l f :: F) (fun t => 16 - t) 0 (by omega) [0, 1, 2, 8, 10, 11, 12, 13, 14] rfl rfl ?_
      intro t ht
      have hkl := dK_le (mkG G) x y t
      refine g_seq ?_
      refine g_seq ?_
      refine g_reg ?_
      refine g_v (v_move rfl) rfl ?_
      refine g_v (v_lss rfl rfl) rfl ?_
      refine g_nil ?_
      refine g_cond rfl (fun h51 => ?_) (fun h51 => ?_)
      · simp at h51
        have h16 : t < 16 := by omega
        refine g_skip ?_
        refine g_seq ?_
        refine g_block ?_
        refine g_seq ?_
        refine g_reg ?_
        refine g_v (v_move rfl) rfl ?_
        refine g_v (v_move rfl) rfl ?_
        refine g_v (v_len Try.underlying54 rfl) rfl ?_
        refine g_v (v_lss rfl rfl) rfl ?_
        refine g_v (v_move rfl) rfl ?_
        by_cases hk : dK (mkG G) x y t < (diffS (mkG G) x y).length
        · obtain ⟨z, hz⟩ : ∃ z, (diffS (mkG G) x y)[dK (mkG G) x y t]? = some z := ⟨_, List.getElem?_eq_getElem hk⟩
          have hd : decide (((dK (mkG G) x y t : Nat) : Int) < (((diffS (mkG G) x y).length : Nat) : Int)) = true := decide_eq_true (by omega)
          have hzt : z = (t : Int) ↔ dP (mkG G) x y t = true := by rw [← dK_at h16, hz]; simp
          refine g_gv1 rfl rfl hd (v_move rfl) rfl ?_
          refine g_gv1 rfl rfl hd (v_move rfl) rfl ?_
          refine g_gv1 rfl rfl hd (v_idxS (dK (mkG G) x y t) Try.underlying54 Try.sizeOf3 rfl rfl rfl hk (by rw [intR_len]; exact hk)) rfl ?_
          refine g_gv1 rfl rfl hd (v_loadS0 (v := I z) Try.isAgg3 rfl (intR_at hz) rfl) rfl ?_
          refine g_gv1 rfl rfl hd (v_move rfl) rfl ?_
          refine g_gv1 rfl rfl hd (v_eql rfl rfl) rfl ?_
          refine g_v (v_and rfl rfl) rfl ?_
          refine g_v (v_assign rfl) rfl ?_
          refine g_nil ?_
          refine g_seq ?_
          refine g_seq ?_
          refine g_reg ?_
          refine g_v (v_move rfl) rfl ?_
          refine g_nil ?_
          refine g_cond rfl (fun h66 => ?_) (fun h66 => ?_)
          · simp at h66
            have hp := hzt.1 h66.2
            have h66 := h66.2
            refine g_reg ?_
            refine g_v (v_move rfl) rfl ?_
            refine g_v (v_add rfl rfl (w64 (by omega))) rfl ?_
            refine g_v (v_assign rfl) rfl ?_
            refine g_nil ?_
            refine g_seq ?_
            refine g_reg ?_
            refine g_v (v_move rfl) rfl ?_
            refine g_v (v_move rfl) rfl ?_
            refine g_v (v_move rfl) rfl ?_
            refine g_v (v_move rfl) rfl ?_
            refine g_l (l_call (Pre := [ixl b (mkG G)]) Try.call27 rfl (ct_index_Index_Get b (mkG G) x t 200 hok (by decide) h16)) rfl ?_
            rintro _ _ ⟨rfl, rfl⟩
            refine g_v (v_move rfl) rfl ?_
            refine g_v (v_move rfl) rfl ?_
            refine g_v (v_move rfl) rfl ?_
            refine g_l (l_call (Pre := [ixl b (mkG G)]) Try.call27 rfl (ct_index_Index_Get b (mkG G) y t 200 hok (by decide) h16)) rfl ?_
            rintro _ _ ⟨rfl, rfl⟩
            refine g_v (v_sneq rfl rfl) rfl ?_
            refine g_v (v_bneq Try.underlying4 rfl rfl) rfl ?_
            refine g_nil ?_
            refine g_cond rfl (fun h79 => ?_) (fun h79 => ?_)
            · exfalso
              unfold dP at hp
              simp at hp
              first | (simp [hp, h66, hk] at h79; done) | (simp [hp] at h79; done)
            · skip
              refine g_skip ?_
              refine g_blk ?_
              refine g_reg ?_
              refine g_v (v_move rfl) rfl ?_
              refine g_v (v_add rfl rfl (w64 (by omega))) rfl ?_
              refine g_v (v_assign rfl) rfl ?_
              refine g_nil ?_
              rw [show ((dK (mkG G) x y t : Nat) : Int) + 1 = ((dK (mkG G) x y (t + 1) : Nat) : Int) by have := dK_s (mkG G) x y t; rw [if_pos hp] at this; omega]
              exact g_again (t + 1) (by omega) (by omega) [0, 1, 2, 8, 10, 11, 12, 13, 14] rfl (by simp [U])
          · simp at h66
            have h66 := h66 hk
            have hp : ¬ dP (mkG G) x y t = true := fun h => h66 (hzt.2 h)
            refine g_skip ?_
            refine g_seq ?_
            refine g_reg ?_
            refine g_v (v_move rfl) rfl ?_
            refine g_v (v_move rfl) rfl ?_
            refine g_v (v_move rfl) rfl ?_
            refine g_v (v_move rfl) rfl ?_
            refine g_l (l_call (Pre := [ixl b (mkG G)]) Try.call27 rfl (ct_index_Index_Get b (mkG G) x t 200 hok (by decide) h16)) rfl ?_
            rintro _ _ ⟨rfl, rfl⟩
            refine g_v (v_move rfl) rfl ?_
            refine g_v (v_move rfl) rfl ?_
            refine g_v (v_move rfl) rfl ?_
            refine g_l (l_call (Pre := [ixl b (mkG G)]) Try.call27 rfl (ct_index_Index_Get b (mkG G) y t 200 hok (by decide) h16)) rfl ?_
            rintro _ _ ⟨rfl, rfl⟩
            refine g_v (v_sneq rfl rfl) rfl ?_
            refine g_v (v_bneq Try.underlying4 rfl rfl) rfl ?_
            refine g_nil ?_
            refine g_cond rfl (fun h79 => ?_) (fun h79 => ?_)
            · exfalso
              unfold dP at hp
              simp at hp
              first | (simp [hp, h66, hk] at h79; done) | (simp [hp] at h79; done)
            · skip
              refine g_skip ?_
              refine g_blk ?_
              refine g_reg ?_
              refine g_v (v_move rfl) rfl ?_
              refine g_v (v_add rfl rfl (w64 (by omega))) rfl ?_
              refine g_v (v_assign rfl) rfl ?_
              refine g_nil ?_
              rw [show ((dK (mkG G) x y t : Nat) : Int) = ((dK (mkG G) x y (t + 1) : Nat) : Int) by have := dK_s (mkG G) x y t; rw [if_neg hp] at this; omega]
              exact g_again (t + 1) (by omega) (by omega) [0, 1, 2, 8, 10, 11, 12, 13, 14] rfl (by simp [U])
        · have hd : decide (((dK (mkG G) x y t : Nat) : Int) < (((diffS (mkG G) x y).length : Nat) : Int)) = false := decide_eq_false (by omega)
          have hp : ¬ dP (mkG G) x y t = true := fun h => by
            have := (dK_at h16).2 h
            rw [List.getElem?_eq_none (by omega)] at this
            cases this
          refine g_no rfl rfl (by rw [hd]; rfl) rfl ?_
          refine g_no rfl rfl (by rw [hd]; rfl) rfl ?_
          refine g_no rfl rfl (by rw [hd]; rfl) rfl ?_
          refine g_no rfl rfl (by rw [hd]; rfl) rfl ?_
          refine g_no rfl rfl (by rw [hd]; rfl) rfl ?_
          refine g_no rfl rfl (by rw [hd]; rfl) rfl ?_
          refine g_v (v_pk2 rfl hd rfl) rfl ?_
          refine g_v (v_assign rfl) rfl ?_
          refine g_nil ?_
          refine g_seq ?_
          refine g_seq ?_
          refine g_reg ?_
          refine g_v (v_move rfl) rfl ?_
          refine g_nil ?_
          refine g_false rfl ?_
          refine g_skip ?_
          refine g_seq ?_
          refine g_reg ?_
          refine g_v (v_move rfl) rfl ?_
          refine g_v (v_move rfl) rfl ?_
          refine g_v (v_move rfl) rfl ?_
          refine g_v (v_move rfl) rfl ?_
          refine g_l (l_call (Pre := [ixl b (mkG G)]) Try.call27 rfl (ct_index_Index_Get b (mkG G) x t 200 hok (by decide) h16)) rfl ?_
          rintro _ _ ⟨rfl, rfl⟩
          refine g_v (v_move rfl) rfl ?_
          refine g_v (v_move rfl) rfl ?_
          refine g_v (v_move rfl) rfl ?_
          refine g_l (l_call (Pre := [ixl b (mkG G)]) Try.call27 rfl (ct_index_Index_Get b (mkG G) y t 200 hok (by decide) h16)) rfl ?_
          rintro _ _ ⟨rfl, rfl⟩
          refine g_v (v_sneq rfl rfl) rfl ?_
          refine g_v (v_bneq Try.underlying4 rfl rfl) rfl ?_
          refine g_nil ?_
          refine g_cond rfl (fun h79 => ?_) (fun h79 => ?_)
          · exfalso
            unfold dP at hp
            simp at hp
            first | (simp [hp, h66, hk] at h79; done) | (simp [hp] at h79; done)
          · skip
            refine g_skip ?_
            refine g_blk ?_
            refine g_reg ?_
            refine g_v (v_move rfl) rfl ?_
            refine g_v (v_add rfl rfl (w64 (by omega))) rfl ?_
            refine g_v (v_assign rfl) rfl ?_
            refine g_nil ?_
            rw [show ((dK (mkG G) x y t : Nat) : Int) = ((dK (mkG G) x y (t + 1) : Nat) : Int) by have := dK_s (mkG G) x y t; rw [if_neg hp] at this; omega]
            exact g_again (t + 1) (by omega) (by omega) [0, 1, 2, 8, 10, 11, 12, 13, 14] rfl (by simp [U])
      · simp at h51
        obtain rfl : t = 16 := by omega
        have hkk := dK_all (mkG G) x y
        refine g_exit rfl ?_
        refine g_seq ?_
        refine g_reg ?_
        refine g_v (v_move rfl) rfl ?_
        refine g_v (v_move rfl) rfl ?_
        refine g_v (v_len Try.underlying54 rfl) rfl ?_
        refine g_v (v_eql rfl rfl) rfl ?_
        refine g_v (v_move rfl) rfl ?_
        refine g_gv1 rfl rfl (by simp [hkk]) (v_move rfl) rfl ?_
        refine g_gv1 rfl rfl (by simp [hkk]) (v_move rfl) rfl ?_
        refine g_gv1 rfl rfl (by simp [hkk]) (v_move rfl) rfl ?_
        refine g_gv1 rfl rfl (by simp [hkk]) (v_move rfl) rfl ?_
        refine g_gl rfl rfl (by simp [hkk]) (l_call (Pre := [ixl b (mkG G)]) Try.call26 rfl (ct_index_Index_Diff b (mkG G) y x 200 hok (by decide))) rfl ?_
        rintro _ _ ⟨s89, c89, rfl, rfl⟩
        rw [diffS_comm]
        refine g_freeze s49 ?_
        refine g_freeze s89 ?_
        refine g_gl rfl rfl (by simp [hkk]) (l_call (Pre := [roL 1 s49 (intR (diffS (mkG G) x y)), roL 1 s89 (intR (diffS (mkG G) x y))]) Try.call28 rfl (ct_R_SameNumbers (diffS (mkG G) x y) (diffS (mkG G) x y) s49 s89 c49 c89 (Nat.le_trans (diffS_len _ _ _) (by decide)))) rfl ?_
        rintro _ _ ⟨rfl, rfl⟩
        refine g_v (v_and rfl rfl) rfl ?_
        refine g_v (v_move rfl) rfl ?_
        refine g_gv1 rfl rfl (by simp [hkk]) (v_move rfl) rfl ?_
        refine g_gv1 rfl rfl (by simp [hkk]) (v_move rfl) rfl ?_
        refine g_gv1 rfl rfl (by simp [hkk]) (v_move rfl) rfl ?_
        refine g_gl rfl rfl (by simp [hkk]) (l_call (Pre := [ixl b (mkG G)]) Try.call26 rfl (ct_index_Index_Diff b (mkG G) x x 200 hok (by decide))) rfl ?_
        rintro _ _ ⟨s96, c96, rfl, rfl⟩
        rw [diffS_self]
        refine g_gv1 rfl rfl (by simp [hkk]) (v_len Try.underlying54 rfl) rfl ?_
        refine g_gv1 rfl rfl (by simp [hkk]) (v_eql rfl rfl) rfl ?_
        refine g_v (v_and rfl rfl) rfl ?_
        refine g_v (v_assign rfl) rfl ?_
        refine g_nil ?_
        refine g_ret1 rfl rfl ?_
        first | rfl | (show Bo _ = Bo true; simp [hkk])

end Go.Proofs.Ythdjckbjjfiopab
